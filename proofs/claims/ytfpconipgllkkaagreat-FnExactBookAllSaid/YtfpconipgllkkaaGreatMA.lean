/- Typed views of the book's structs; what the conversions compute (written by a program). -/
import Derived.Test.YtfpconipgllkkaaGreatTab3
import Derived.Test.YtfpconipgllkkaaGreatSxD
import Derived.Sort.Walk0
namespace Go.Proofs.YtfpconipgllkkaaGreat
open Go.Sx
open Nat renaming reduceEqDiff → N1,reduceAdd → N2,reduceSub → N3,reduceMul → N4,reduceLeDiff → N5,reduceBEq → N6,reduceLT → N7
open Int renaming reduceLT → I1,reduceNeg → I2,reduceLE → I3,reduceEq → I4
open List renaming reduceReplicate → L1
set_option maxRecDepth 100000
set_option maxHeartbeats 4000000
set_option linter.unusedVariables false
set_option linter.unusedSimpArgs false
def intC (n:Int):List C :=[.p (.int .i64 n)]
def strC (s:ByteArray):List C :=[.p (.string s)]
def boolC (b:Bool):List C :=[.p (.bool b)]
def i64ok (n:Int):Prop :=-9223372036854775808 ≤ n ∧ n ≤ 9223372036854775807
def subW (left:Int) (w:Nat):Int :=if left < w then -1 else left - w
theorem subW_lt {left:Int} {w:Nat} (h:left < w):subW left w = -1 :=if_pos h
theorem subW_ge {left:Int} {w:Nat} (h:¬ left < w):subW left w = left - w :=if_neg h
theorem rowsString (l:List ByteArray):borRows (l.map strC) = l.map strC ∧ mineRows (l.map strC) = true ∧ wholeRows (l.map strC) = true ∧ allFreeRows (l.map strC) = true :=flat_rows strC (fun _ =>rfl) l

def sumWString:List ByteArray → Nat
 | [] =>0
 | x :: r =>x.size + sumWString r
def wSString (l:List ByteArray):Nat :=l.length + sumWString l
structure VO where
 kind:ByteArray
 name:ByteArray
 version:Int
 born:Int
 text:ByteArray
 ending:Bool
 holds:List ByteArray
def VO.c (f:Fl) (x:VO):List C :=[.p (.string x.kind),.p (.string x.name),.p (.int .i64 x.version),.p (.int .i64 x.born),.p (.string x.text),.p (.bool x.ending),.sl f 1 (x.holds.map strC)]
def VO.w (x:VO):Nat :=x.kind.size + x.name.size + x.text.size + wSString x.holds
def VO.ok (x:VO):Prop :=x.kind.size ≤ maxLen ∧ x.name.size ≤ maxLen ∧ i64ok x.version ∧ i64ok x.born ∧ x.text.size ≤ maxLen ∧ (x.holds.length ≤ maxLen ∧ ∀ e ∈ x.holds,e.size ≤ maxLen)
theorem rowBookObject (x:VO):borRow (VO.c .own x) = VO.c .shr x ∧ mineRow (VO.c .own x) = true ∧ wholeRow (VO.c .own x) = true ∧ wholeRow (VO.c .shr x) = true ∧ allFree (VO.c .shr x) = true :=by
 refine ⟨?_,?_,?_,?_,?_⟩ <;> simp only [rA,↓reduceIte,reduceCtorEq,N1,N2,N3,N4,N5,N6,N7,I1,I2,I3,I4,L1,VO.c,rowsString,Fl.isShr,Fl.isOwn]
theorem rowsBookObject (l:List VO):borRows (l.map (VO.c .own)) = l.map (VO.c .shr) ∧ mineRows (l.map (VO.c .own)) = true ∧ wholeRows (l.map (VO.c .own)) = true ∧ wholeRows (l.map (VO.c .shr)) = true ∧ allFreeRows (l.map (VO.c .shr)) = true :=rows_by (fun x =>(rowBookObject x).1) (fun x =>(rowBookObject x).2.1) (fun x =>(rowBookObject x).2.2.1) (fun x =>(rowBookObject x).2.2.2.1) (fun x =>(rowBookObject x).2.2.2.2) l
def sumWBookObject:List VO → Nat
 | [] =>0
 | x :: r =>x.w + sumWBookObject r
def wSBookObject (l:List VO):Nat :=l.length + sumWBookObject l
theorem wSBookObject_mem {l:List VO} {x:VO} (h:x ∈ l):x.w ≤ sumWBookObject l :=by
 induction l with
 | nil =>cases h
 | cons y r ih =>
  simp only [sumWBookObject]
  rcases List.mem_cons.1 h with rfl | h
  ·omega
  ·have :=ih h
   omega
structure VC where
 version:Int
 gone:Bool
 object:VO
def VC.c (f:Fl) (x:VC):List C :=[.p (.int .i64 x.version),.p (.bool x.gone),.p (.string x.object.kind),.p (.string x.object.name),.p (.int .i64 x.object.version),.p (.int .i64 x.object.born),.p (.string x.object.text),.p (.bool x.object.ending),.sl f 1 (x.object.holds.map strC)]
def VC.w (x:VC):Nat :=x.object.w
def VC.ok (x:VC):Prop :=i64ok x.version ∧ x.object.ok
theorem rowBookChange (x:VC):borRow (VC.c .own x) = VC.c .shr x ∧ mineRow (VC.c .own x) = true ∧ wholeRow (VC.c .own x) = true ∧ wholeRow (VC.c .shr x) = true ∧ allFree (VC.c .shr x) = true :=by
 refine ⟨?_,?_,?_,?_,?_⟩ <;> simp only [rA,↓reduceIte,reduceCtorEq,N1,N2,N3,N4,N5,N6,N7,I1,I2,I3,I4,L1,VC.c,rowsString,Fl.isShr,Fl.isOwn]
theorem rowsBookChange (l:List VC):borRows (l.map (VC.c .own)) = l.map (VC.c .shr) ∧ mineRows (l.map (VC.c .own)) = true ∧ wholeRows (l.map (VC.c .own)) = true ∧ wholeRows (l.map (VC.c .shr)) = true ∧ allFreeRows (l.map (VC.c .shr)) = true :=rows_by (fun x =>(rowBookChange x).1) (fun x =>(rowBookChange x).2.1) (fun x =>(rowBookChange x).2.2.1) (fun x =>(rowBookChange x).2.2.2.1) (fun x =>(rowBookChange x).2.2.2.2) l
def sumWBookChange:List VC → Nat
 | [] =>0
 | x :: r =>x.w + sumWBookChange r
def wSBookChange (l:List VC):Nat :=l.length + sumWBookChange l
theorem wSBookChange_mem {l:List VC} {x:VC} (h:x ∈ l):x.w ≤ sumWBookChange l :=by
 induction l with
 | nil =>cases h
 | cons y r ih =>
  simp only [sumWBookChange]
  rcases List.mem_cons.1 h with rfl | h
  ·omega
  ·have :=ih h
   omega
structure VT where
 client:ByteArray
 number:Int
 print:ByteArray
 code:Int
 version:Int
def VT.c (x:VT):List C :=[.p (.string x.client),.p (.int .i64 x.number),.p (.string x.print),.p (.int .i64 x.code),.p (.int .i64 x.version)]
def VT.w (x:VT):Nat :=x.client.size + x.print.size
def VT.ok (x:VT):Prop :=x.client.size ≤ maxLen ∧ i64ok x.number ∧ x.print.size ≤ maxLen ∧ i64ok x.code ∧ i64ok x.version
theorem rowsBookTicket (l:List VT):borRows (l.map VT.c) = l.map VT.c ∧ mineRows (l.map VT.c) = true ∧ wholeRows (l.map VT.c) = true ∧ allFreeRows (l.map VT.c) = true :=flat_rows VT.c (fun _ =>rfl) l
def sumWBookTicket:List VT → Nat
 | [] =>0
 | x :: r =>x.w + sumWBookTicket r
def wSBookTicket (l:List VT):Nat :=l.length + sumWBookTicket l
theorem wSBookTicket_mem {l:List VT} {x:VT} (h:x ∈ l):x.w ≤ sumWBookTicket l :=by
 induction l with
 | nil =>cases h
 | cons y r ih =>
  simp only [sumWBookTicket]
  rcases List.mem_cons.1 h with rfl | h
  ·omega
  ·have :=ih h
   omega
structure VBook where
 now:Int
 floor:Int
 objects:List VO
 history:List VC
 tickets:List VT
def VBook.c (f:Fl) (x:VBook):List C :=[.p (.int .i64 x.now),.p (.int .i64 x.floor),.sl f 7 (x.objects.map (VO.c f)),.sl f 9 (x.history.map (VC.c f)),.sl f 5 (x.tickets.map VT.c)]
def VBook.w (x:VBook):Nat :=wSBookObject x.objects + wSBookChange x.history + wSBookTicket x.tickets
def VBook.ok (x:VBook):Prop :=i64ok x.now ∧ i64ok x.floor ∧ (x.objects.length ≤ maxLen ∧ ∀ e ∈ x.objects,e.ok) ∧ (x.history.length ≤ maxLen ∧ ∀ e ∈ x.history,e.ok) ∧ (x.tickets.length ≤ maxLen ∧ ∀ e ∈ x.tickets,e.ok)
theorem k_szStringS (l:List ByteArray) (left:Int) (hx:l.length ≤ maxLen ∧ ∀ e ∈ l,e.size ≤ maxLen) (h0:0 ≤ left) (h1:left ≤ 1048576):EV Tryz.prog E 96 [.val 0 false [.sl .shr 1 (l.map strC)],.val 0 false [.p (.int .i64 left)]] = some ⟨[(false,[.p (.int .i64 (subW left (wSString l)))])],[]⟩ :=by
 refine EV_intro Tryz.func96 rfl ?_
 obtain ⟨hn,hl⟩ :=hx
 have hw :=wrap64 (n :=left - l.length) (by unfold maxLen at hn; omega) (by omega)
 by_cases hc:left - l.length < 0
 ·have e:subW left (wSString l) = -1 :=subW_lt (by unfold wSString; omega)
  simp only [rA,↓reduceIte,reduceCtorEq,N1,N2,N3,N4,N5,N6,N7,I1,I2,I3,I4,L1,e96,Tryz.f96,hw,hc,e]
 ·simp only [rA,↓reduceIte,reduceCtorEq,N1,N2,N3,N4,N5,N6,N7,I1,I2,I3,I4,L1,e96,Tryz.f96,hw,hc]
  rw [for_block l (fun i a =>⟨3,[(0,.val 0 false [.sl .shr 1 (l.map strC)]),(1,.val 1 false [.p (.int .i64 a)]),(5,.val 2 false [.p (.int .i64 i)])]⟩) (fun i a =>0 ≤ a ∧ a ≤ 1048576)
   (fun r i a =>if a < (sumWString r:Nat) then .ret ⟨[(false,[.p (.int .i64 (-1))])],[]⟩ else .norm ⟨1,[(1,.val 0 false [.p (.int .i64 (a - (sumWString r:Nat)))])]⟩) ?_ ?_ (a :=left - l.length) ⟨by omega,by omega⟩ (by simp only [rA,↓reduceIte,reduceCtorEq,N1,N2,N3,N4,N5,N6,N7,I1,I2,I3,I4,L1,e96]; rfl)]
  ·by_cases hz:left - l.length < (sumWString l:Nat)
   ·have e:subW left (wSString l) = -1 :=subW_lt (by unfold wSString; omega)
    simp only [rA,↓reduceIte,reduceCtorEq,N1,N2,N3,N4,N5,N6,N7,I1,I2,I3,I4,L1,e96,hz,e]
   ·have e:subW left (wSString l) = left - l.length - (sumWString l:Nat) :=by rw [subW_ge (by unfold wSString; omega)]; unfold wSString; omega
    simp only [rA,↓reduceIte,reduceCtorEq,N1,N2,N3,N4,N5,N6,N7,I1,I2,I3,I4,L1,e96,hz,e]
  ·intro i s r a hd hi ⟨ha,hb⟩
   have hlen :=(List.getElem?_eq_some_iff.1 hi).1
   have hlt:((i:Int) < (l.length:Int)) :=by omega
   have hr :=getElem?_map_some (f :=strC) hi
   have hsz :=hl s (List.mem_of_getElem? hi)
   unfold maxLen at hn
   have hwi :=wrap64 (n :=(i:Int) + 1) (by omega) (by omega)
   have hi0:(0:Int) ≤ (i:Int) :=by omega
   simp only [strC] at hr
   have hw2 :=wrap64 (n :=a - s.size) (by unfold maxLen at hsz; omega) (by omega)
   by_cases hcs:a - s.size < 0
   ·right
    have e:a < (sumWString (s :: r):Nat) :=by simp only [sumWString]; omega
    simp only [rA,↓reduceIte,reduceCtorEq,N1,N2,N3,N4,N5,N6,N7,I1,I2,I3,I4,L1,e96,hlt,hr,hw2,hcs,hwi,hi0,e]
   ·left
    refine ⟨a - s.size,?_,⟨by omega,by omega⟩,?_⟩
    ·simp only [rA,↓reduceIte,reduceCtorEq,N1,N2,N3,N4,N5,N6,N7,I1,I2,I3,I4,L1,e96,hlt,hr,hw2,hcs,hwi,hi0,i64c]
    ·have e1:(a < (sumWString (s :: r):Nat)) ↔ (a - (s.size:Nat) < (sumWString r:Nat)) :=by simp only [sumWString]; omega
     have e2:a - (sumWString (s :: r):Nat) = a - (s.size:Nat) - (sumWString r:Nat) :=by simp only [sumWString]; omega
     simp only [e1,e2]
  ·intro a ⟨ha,hb⟩
   have e:¬ (a < (sumWString []:Nat)) :=by simp only [sumWString]; omega
   have e2:a - (sumWString []:Nat) = a :=by simp only [sumWString]; omega
   simp only [rA,↓reduceIte,reduceCtorEq,N1,N2,N3,N4,N5,N6,N7,I1,I2,I3,I4,L1,e96,e,e2]
theorem k_szBookObject (x:VO) (left:Int) (hx:x.ok) (h0:0 ≤ left) (h1:left ≤ 1048576):EV Tryz.prog E 53 [.val 0 true (VO.c .shr x),.val 0 false [.p (.int .i64 left)]] = some ⟨[(false,[.p (.int .i64 (subW left x.w))])],[]⟩ :=by
 refine EV_intro Tryz.func53 rfl ?_
 have hx0 :=hx
 simp only [VO.ok] at hx
 obtain ⟨o_kind,o_name,o_version,o_born,o_text,o_holds⟩ :=hx
 have w0 :=wrap64 (n :=left - x.kind.size) (by unfold maxLen at *; omega) (by omega)
 by_cases c0:left < (x.kind.size:Nat)
 ·have e:subW left x.w = -1 :=subW_lt (by unfold VO.w; omega)
  have d0:left - (x.kind.size:Int) < 0 :=by omega
  simp only [rA,↓reduceIte,reduceCtorEq,N1,N2,N3,N4,N5,N6,N7,I1,I2,I3,I4,L1,e53,Tryz.f53,VO.c,w0,d0,e]
 have d0:¬ (left - (x.kind.size:Nat) < 0) :=by omega
 have w1 :=wrap64 (n :=left - (x.kind.size:Nat) - x.name.size) (by unfold maxLen at *; omega) (by omega)
 by_cases c1:left - (x.kind.size:Nat) < (x.name.size:Nat)
 ·have e:subW left x.w = -1 :=subW_lt (by unfold VO.w; omega)
  have d1:left - (x.kind.size:Nat) - (x.name.size:Int) < 0 :=by omega
  simp only [rA,↓reduceIte,reduceCtorEq,N1,N2,N3,N4,N5,N6,N7,I1,I2,I3,I4,L1,e53,Tryz.f53,VO.c,w0,d0,w1,d1,e]
 have d1:¬ (left - (x.kind.size:Nat) - (x.name.size:Nat) < 0) :=by omega
 have w2 :=wrap64 (n :=left - (x.kind.size:Nat) - (x.name.size:Nat) - x.text.size) (by unfold maxLen at *; omega) (by omega)
 by_cases c2:left - (x.kind.size:Nat) - (x.name.size:Nat) < (x.text.size:Nat)
 ·have e:subW left x.w = -1 :=subW_lt (by unfold VO.w; omega)
  have d2:left - (x.kind.size:Nat) - (x.name.size:Nat) - (x.text.size:Int) < 0 :=by omega
  simp only [rA,↓reduceIte,reduceCtorEq,N1,N2,N3,N4,N5,N6,N7,I1,I2,I3,I4,L1,e53,Tryz.f53,VO.c,w0,d0,w1,d1,w2,d2,e]
 have d2:¬ (left - (x.kind.size:Nat) - (x.name.size:Nat) - (x.text.size:Nat) < 0) :=by omega
 have w3 :=k_szStringS x.holds (left - (x.kind.size:Nat) - (x.name.size:Nat) - (x.text.size:Nat)) o_holds (by omega) (by omega)
 by_cases c3:left - (x.kind.size:Nat) - (x.name.size:Nat) - (x.text.size:Nat) < (wSString x.holds:Nat)
 ·have e:subW left x.w = -1 :=subW_lt (by unfold VO.w; omega)
  rw [subW_lt c3] at w3
  simp only [rA,↓reduceIte,reduceCtorEq,N1,N2,N3,N4,N5,N6,N7,I1,I2,I3,I4,L1,e53,e96,Tryz.f53,VO.c,w0,d0,w1,d1,w2,d2,w3,e]
 rw [subW_ge c3] at w3
 have d3:¬ (left - (x.kind.size:Nat) - (x.name.size:Nat) - (x.text.size:Nat) - (wSString x.holds:Nat) < 0) :=by omega
 have e:subW left x.w = left - (x.kind.size:Nat) - (x.name.size:Nat) - (x.text.size:Nat) - (wSString x.holds:Nat) :=by rw [subW_ge (by unfold VO.w; omega)]; unfold VO.w; omega
 simp only [rA,↓reduceIte,reduceCtorEq,N1,N2,N3,N4,N5,N6,N7,I1,I2,I3,I4,L1,e53,e96,Tryz.f53,VO.c,w0,d0,w1,d1,w2,d2,w3,d3,e]
theorem k_szBookObjectS (l:List VO) (left:Int) (hx:l.length ≤ maxLen ∧ ∀ e ∈ l,e.ok) (h0:0 ≤ left) (h1:left ≤ 1048576):EV Tryz.prog E 22 [.val 0 false [.sl .shr 7 (l.map (VO.c .shr))],.val 0 false [.p (.int .i64 left)]] = some ⟨[(false,[.p (.int .i64 (subW left (wSBookObject l)))])],[]⟩ :=by
 refine EV_intro Tryz.func22 rfl ?_
 obtain ⟨hn,hl⟩ :=hx
 have hw :=wrap64 (n :=left - l.length) (by unfold maxLen at hn; omega) (by omega)
 by_cases hc:left - l.length < 0
 ·have e:subW left (wSBookObject l) = -1 :=subW_lt (by unfold wSBookObject; omega)
  simp only [rA,↓reduceIte,reduceCtorEq,N1,N2,N3,N4,N5,N6,N7,I1,I2,I3,I4,L1,e22,Tryz.f22,hw,hc,e]
 ·simp only [rA,↓reduceIte,reduceCtorEq,N1,N2,N3,N4,N5,N6,N7,I1,I2,I3,I4,L1,e22,Tryz.f22,hw,hc]
  rw [for_block l (fun i a =>⟨3,[(0,.val 0 false [.sl .shr 7 (l.map (VO.c .shr))]),(1,.val 1 false [.p (.int .i64 a)]),(5,.val 2 false [.p (.int .i64 i)])]⟩) (fun i a =>0 ≤ a ∧ a ≤ 1048576)
   (fun r i a =>if a < (sumWBookObject r:Nat) then .ret ⟨[(false,[.p (.int .i64 (-1))])],[]⟩ else .norm ⟨1,[(1,.val 0 false [.p (.int .i64 (a - (sumWBookObject r:Nat)))])]⟩) ?_ ?_ (a :=left - l.length) ⟨by omega,by omega⟩ (by simp only [rA,↓reduceIte,reduceCtorEq,N1,N2,N3,N4,N5,N6,N7,I1,I2,I3,I4,L1,e22]; rfl)]
  ·by_cases hz:left - l.length < (sumWBookObject l:Nat)
   ·have e:subW left (wSBookObject l) = -1 :=subW_lt (by unfold wSBookObject; omega)
    simp only [rA,↓reduceIte,reduceCtorEq,N1,N2,N3,N4,N5,N6,N7,I1,I2,I3,I4,L1,e22,hz,e]
   ·have e:subW left (wSBookObject l) = left - l.length - (sumWBookObject l:Nat) :=by rw [subW_ge (by unfold wSBookObject; omega)]; unfold wSBookObject; omega
    simp only [rA,↓reduceIte,reduceCtorEq,N1,N2,N3,N4,N5,N6,N7,I1,I2,I3,I4,L1,e22,hz,e]
  ·intro i s r a hd hi ⟨ha,hb⟩
   have hlen :=(List.getElem?_eq_some_iff.1 hi).1
   have hlt:((i:Int) < (l.length:Int)) :=by omega
   have hr :=getElem?_map_some (f :=(VO.c .shr)) hi
   have hsz :=hl s (List.mem_of_getElem? hi)
   unfold maxLen at hn
   have hwi :=wrap64 (n :=(i:Int) + 1) (by omega) (by omega)
   have hi0:(0:Int) ≤ (i:Int) :=by omega
   simp only [VO.c] at hr
   have hk :=k_szBookObject s a hsz ha hb
   simp only [VO.c] at hk
   by_cases hcs:a < (s.w:Nat)
   ·right
    rw [subW_lt hcs] at hk
    have e:a < (sumWBookObject (s :: r):Nat) :=by simp only [sumWBookObject]; omega
    simp only [rA,↓reduceIte,reduceCtorEq,N1,N2,N3,N4,N5,N6,N7,I1,I2,I3,I4,L1,e22,e53,hlt,hr,hk,hwi,hi0,e]
   ·left
    rw [subW_ge hcs] at hk
    have hnn:¬ (a - (s.w:Nat) < 0) :=by omega
    refine ⟨a - (s.w:Nat),?_,⟨by omega,by omega⟩,?_⟩
    ·simp only [rA,↓reduceIte,reduceCtorEq,N1,N2,N3,N4,N5,N6,N7,I1,I2,I3,I4,L1,e22,e53,hlt,hr,hk,hnn,hwi,hi0,i64c]
    ·have e1:(a < (sumWBookObject (s :: r):Nat)) ↔ (a - (s.w:Nat) < (sumWBookObject r:Nat)) :=by simp only [sumWBookObject]; omega
     have e2:a - (sumWBookObject (s :: r):Nat) = a - (s.w:Nat) - (sumWBookObject r:Nat) :=by simp only [sumWBookObject]; omega
     simp only [e1,e2]
  ·intro a ⟨ha,hb⟩
   have e:¬ (a < (sumWBookObject []:Nat)) :=by simp only [sumWBookObject]; omega
   have e2:a - (sumWBookObject []:Nat) = a :=by simp only [sumWBookObject]; omega
   simp only [rA,↓reduceIte,reduceCtorEq,N1,N2,N3,N4,N5,N6,N7,I1,I2,I3,I4,L1,e22,e,e2]
theorem k_szBookChange (x:VC) (left:Int) (hx:x.ok) (h0:0 ≤ left) (h1:left ≤ 1048576):EV Tryz.prog E 54 [.val 0 true (VC.c .shr x),.val 0 false [.p (.int .i64 left)]] = some ⟨[(false,[.p (.int .i64 (subW left x.w))])],[]⟩ :=by
 refine EV_intro Tryz.func54 rfl ?_
 have hx0 :=hx
 simp only [VC.ok] at hx
 obtain ⟨o_version,o_object⟩ :=hx
 have w0 :=k_szBookObject x.object (left) o_object (by omega) (by omega)
 simp only [VO.c] at w0
 by_cases c0:left < (x.object.w:Nat)
 ·have e:subW left x.w = -1 :=subW_lt (by unfold VC.w; omega)
  rw [subW_lt c0] at w0
  simp only [rA,↓reduceIte,reduceCtorEq,N1,N2,N3,N4,N5,N6,N7,I1,I2,I3,I4,L1,e54,e53,Tryz.f54,VC.c,w0,e]
 rw [subW_ge c0] at w0
 have d0:¬ (left - (x.object.w:Nat) < 0) :=by omega
 have e:subW left x.w = left - (x.object.w:Nat) :=by rw [subW_ge (by unfold VC.w; omega)]; unfold VC.w; omega
 simp only [rA,↓reduceIte,reduceCtorEq,N1,N2,N3,N4,N5,N6,N7,I1,I2,I3,I4,L1,e54,e53,Tryz.f54,VC.c,w0,d0,e]
theorem k_szBookChangeS (l:List VC) (left:Int) (hx:l.length ≤ maxLen ∧ ∀ e ∈ l,e.ok) (h0:0 ≤ left) (h1:left ≤ 1048576):EV Tryz.prog E 23 [.val 0 false [.sl .shr 9 (l.map (VC.c .shr))],.val 0 false [.p (.int .i64 left)]] = some ⟨[(false,[.p (.int .i64 (subW left (wSBookChange l)))])],[]⟩ :=by
 refine EV_intro Tryz.func23 rfl ?_
 obtain ⟨hn,hl⟩ :=hx
 have hw :=wrap64 (n :=left - l.length) (by unfold maxLen at hn; omega) (by omega)
 by_cases hc:left - l.length < 0
 ·have e:subW left (wSBookChange l) = -1 :=subW_lt (by unfold wSBookChange; omega)
  simp only [rA,↓reduceIte,reduceCtorEq,N1,N2,N3,N4,N5,N6,N7,I1,I2,I3,I4,L1,e23,Tryz.f23,hw,hc,e]
 ·simp only [rA,↓reduceIte,reduceCtorEq,N1,N2,N3,N4,N5,N6,N7,I1,I2,I3,I4,L1,e23,Tryz.f23,hw,hc]
  rw [for_block l (fun i a =>⟨3,[(0,.val 0 false [.sl .shr 9 (l.map (VC.c .shr))]),(1,.val 1 false [.p (.int .i64 a)]),(5,.val 2 false [.p (.int .i64 i)])]⟩) (fun i a =>0 ≤ a ∧ a ≤ 1048576)
   (fun r i a =>if a < (sumWBookChange r:Nat) then .ret ⟨[(false,[.p (.int .i64 (-1))])],[]⟩ else .norm ⟨1,[(1,.val 0 false [.p (.int .i64 (a - (sumWBookChange r:Nat)))])]⟩) ?_ ?_ (a :=left - l.length) ⟨by omega,by omega⟩ (by simp only [rA,↓reduceIte,reduceCtorEq,N1,N2,N3,N4,N5,N6,N7,I1,I2,I3,I4,L1,e23]; rfl)]
  ·by_cases hz:left - l.length < (sumWBookChange l:Nat)
   ·have e:subW left (wSBookChange l) = -1 :=subW_lt (by unfold wSBookChange; omega)
    simp only [rA,↓reduceIte,reduceCtorEq,N1,N2,N3,N4,N5,N6,N7,I1,I2,I3,I4,L1,e23,hz,e]
   ·have e:subW left (wSBookChange l) = left - l.length - (sumWBookChange l:Nat) :=by rw [subW_ge (by unfold wSBookChange; omega)]; unfold wSBookChange; omega
    simp only [rA,↓reduceIte,reduceCtorEq,N1,N2,N3,N4,N5,N6,N7,I1,I2,I3,I4,L1,e23,hz,e]
  ·intro i s r a hd hi ⟨ha,hb⟩
   have hlen :=(List.getElem?_eq_some_iff.1 hi).1
   have hlt:((i:Int) < (l.length:Int)) :=by omega
   have hr :=getElem?_map_some (f :=(VC.c .shr)) hi
   have hsz :=hl s (List.mem_of_getElem? hi)
   unfold maxLen at hn
   have hwi :=wrap64 (n :=(i:Int) + 1) (by omega) (by omega)
   have hi0:(0:Int) ≤ (i:Int) :=by omega
   simp only [VC.c] at hr
   have hk :=k_szBookChange s a hsz ha hb
   simp only [VC.c] at hk
   by_cases hcs:a < (s.w:Nat)
   ·right
    rw [subW_lt hcs] at hk
    have e:a < (sumWBookChange (s :: r):Nat) :=by simp only [sumWBookChange]; omega
    simp only [rA,↓reduceIte,reduceCtorEq,N1,N2,N3,N4,N5,N6,N7,I1,I2,I3,I4,L1,e23,e54,hlt,hr,hk,hwi,hi0,e]
   ·left
    rw [subW_ge hcs] at hk
    have hnn:¬ (a - (s.w:Nat) < 0) :=by omega
    refine ⟨a - (s.w:Nat),?_,⟨by omega,by omega⟩,?_⟩
    ·simp only [rA,↓reduceIte,reduceCtorEq,N1,N2,N3,N4,N5,N6,N7,I1,I2,I3,I4,L1,e23,e54,hlt,hr,hk,hnn,hwi,hi0,i64c]
    ·have e1:(a < (sumWBookChange (s :: r):Nat)) ↔ (a - (s.w:Nat) < (sumWBookChange r:Nat)) :=by simp only [sumWBookChange]; omega
     have e2:a - (sumWBookChange (s :: r):Nat) = a - (s.w:Nat) - (sumWBookChange r:Nat) :=by simp only [sumWBookChange]; omega
     simp only [e1,e2]
  ·intro a ⟨ha,hb⟩
   have e:¬ (a < (sumWBookChange []:Nat)) :=by simp only [sumWBookChange]; omega
   have e2:a - (sumWBookChange []:Nat) = a :=by simp only [sumWBookChange]; omega
   simp only [rA,↓reduceIte,reduceCtorEq,N1,N2,N3,N4,N5,N6,N7,I1,I2,I3,I4,L1,e23,e,e2]
theorem k_szBookTicket (x:VT) (left:Int) (hx:x.ok) (h0:0 ≤ left) (h1:left ≤ 1048576):EV Tryz.prog E 55 [.val 0 true (VT.c x),.val 0 false [.p (.int .i64 left)]] = some ⟨[(false,[.p (.int .i64 (subW left x.w))])],[]⟩ :=by
 refine EV_intro Tryz.func55 rfl ?_
 have hx0 :=hx
 simp only [VT.ok] at hx
 obtain ⟨o_client,o_number,o_print,o_code,o_version⟩ :=hx
 have w0 :=wrap64 (n :=left - x.client.size) (by unfold maxLen at *; omega) (by omega)
 by_cases c0:left < (x.client.size:Nat)
 ·have e:subW left x.w = -1 :=subW_lt (by unfold VT.w; omega)
  have d0:left - (x.client.size:Int) < 0 :=by omega
  simp only [rA,↓reduceIte,reduceCtorEq,N1,N2,N3,N4,N5,N6,N7,I1,I2,I3,I4,L1,e55,Tryz.f55,VT.c,w0,d0,e]
 have d0:¬ (left - (x.client.size:Nat) < 0) :=by omega
 have w1 :=wrap64 (n :=left - (x.client.size:Nat) - x.print.size) (by unfold maxLen at *; omega) (by omega)
 by_cases c1:left - (x.client.size:Nat) < (x.print.size:Nat)
 ·have e:subW left x.w = -1 :=subW_lt (by unfold VT.w; omega)
  have d1:left - (x.client.size:Nat) - (x.print.size:Int) < 0 :=by omega
  simp only [rA,↓reduceIte,reduceCtorEq,N1,N2,N3,N4,N5,N6,N7,I1,I2,I3,I4,L1,e55,Tryz.f55,VT.c,w0,d0,w1,d1,e]
 have d1:¬ (left - (x.client.size:Nat) - (x.print.size:Nat) < 0) :=by omega
 have e:subW left x.w = left - (x.client.size:Nat) - (x.print.size:Nat) :=by rw [subW_ge (by unfold VT.w; omega)]; unfold VT.w; omega
 simp only [rA,↓reduceIte,reduceCtorEq,N1,N2,N3,N4,N5,N6,N7,I1,I2,I3,I4,L1,e55,Tryz.f55,VT.c,w0,d0,w1,d1,e]
theorem k_szBookTicketS (l:List VT) (left:Int) (hx:l.length ≤ maxLen ∧ ∀ e ∈ l,e.ok) (h0:0 ≤ left) (h1:left ≤ 1048576):EV Tryz.prog E 24 [.val 0 false [.sl .shr 5 (l.map VT.c)],.val 0 false [.p (.int .i64 left)]] = some ⟨[(false,[.p (.int .i64 (subW left (wSBookTicket l)))])],[]⟩ :=by
 refine EV_intro Tryz.func24 rfl ?_
 obtain ⟨hn,hl⟩ :=hx
 have hw :=wrap64 (n :=left - l.length) (by unfold maxLen at hn; omega) (by omega)
 by_cases hc:left - l.length < 0
 ·have e:subW left (wSBookTicket l) = -1 :=subW_lt (by unfold wSBookTicket; omega)
  simp only [rA,↓reduceIte,reduceCtorEq,N1,N2,N3,N4,N5,N6,N7,I1,I2,I3,I4,L1,e24,Tryz.f24,hw,hc,e]
 ·simp only [rA,↓reduceIte,reduceCtorEq,N1,N2,N3,N4,N5,N6,N7,I1,I2,I3,I4,L1,e24,Tryz.f24,hw,hc]
  rw [for_block l (fun i a =>⟨3,[(0,.val 0 false [.sl .shr 5 (l.map VT.c)]),(1,.val 1 false [.p (.int .i64 a)]),(5,.val 2 false [.p (.int .i64 i)])]⟩) (fun i a =>0 ≤ a ∧ a ≤ 1048576)
   (fun r i a =>if a < (sumWBookTicket r:Nat) then .ret ⟨[(false,[.p (.int .i64 (-1))])],[]⟩ else .norm ⟨1,[(1,.val 0 false [.p (.int .i64 (a - (sumWBookTicket r:Nat)))])]⟩) ?_ ?_ (a :=left - l.length) ⟨by omega,by omega⟩ (by simp only [rA,↓reduceIte,reduceCtorEq,N1,N2,N3,N4,N5,N6,N7,I1,I2,I3,I4,L1,e24]; rfl)]
  ·by_cases hz:left - l.length < (sumWBookTicket l:Nat)
   ·have e:subW left (wSBookTicket l) = -1 :=subW_lt (by unfold wSBookTicket; omega)
    simp only [rA,↓reduceIte,reduceCtorEq,N1,N2,N3,N4,N5,N6,N7,I1,I2,I3,I4,L1,e24,hz,e]
   ·have e:subW left (wSBookTicket l) = left - l.length - (sumWBookTicket l:Nat) :=by rw [subW_ge (by unfold wSBookTicket; omega)]; unfold wSBookTicket; omega
    simp only [rA,↓reduceIte,reduceCtorEq,N1,N2,N3,N4,N5,N6,N7,I1,I2,I3,I4,L1,e24,hz,e]
  ·intro i s r a hd hi ⟨ha,hb⟩
   have hlen :=(List.getElem?_eq_some_iff.1 hi).1
   have hlt:((i:Int) < (l.length:Int)) :=by omega
   have hr :=getElem?_map_some (f :=VT.c) hi
   have hsz :=hl s (List.mem_of_getElem? hi)
   unfold maxLen at hn
   have hwi :=wrap64 (n :=(i:Int) + 1) (by omega) (by omega)
   have hi0:(0:Int) ≤ (i:Int) :=by omega
   simp only [VT.c] at hr
   have hk :=k_szBookTicket s a hsz ha hb
   simp only [VT.c] at hk
   by_cases hcs:a < (s.w:Nat)
   ·right
    rw [subW_lt hcs] at hk
    have e:a < (sumWBookTicket (s :: r):Nat) :=by simp only [sumWBookTicket]; omega
    simp only [rA,↓reduceIte,reduceCtorEq,N1,N2,N3,N4,N5,N6,N7,I1,I2,I3,I4,L1,e24,e55,hlt,hr,hk,hwi,hi0,e]
   ·left
    rw [subW_ge hcs] at hk
    have hnn:¬ (a - (s.w:Nat) < 0) :=by omega
    refine ⟨a - (s.w:Nat),?_,⟨by omega,by omega⟩,?_⟩
    ·simp only [rA,↓reduceIte,reduceCtorEq,N1,N2,N3,N4,N5,N6,N7,I1,I2,I3,I4,L1,e24,e55,hlt,hr,hk,hnn,hwi,hi0,i64c]
    ·have e1:(a < (sumWBookTicket (s :: r):Nat)) ↔ (a - (s.w:Nat) < (sumWBookTicket r:Nat)) :=by simp only [sumWBookTicket]; omega
     have e2:a - (sumWBookTicket (s :: r):Nat) = a - (s.w:Nat) - (sumWBookTicket r:Nat) :=by simp only [sumWBookTicket]; omega
     simp only [e1,e2]
  ·intro a ⟨ha,hb⟩
   have e:¬ (a < (sumWBookTicket []:Nat)) :=by simp only [sumWBookTicket]; omega
   have e2:a - (sumWBookTicket []:Nat) = a :=by simp only [sumWBookTicket]; omega
   simp only [rA,↓reduceIte,reduceCtorEq,N1,N2,N3,N4,N5,N6,N7,I1,I2,I3,I4,L1,e24,e,e2]
theorem k_szBook (x:VBook) (left:Int) (hx:x.ok) (h0:0 ≤ left) (h1:left ≤ 1048576):EV Tryz.prog E 5 [.val 0 true (VBook.c .shr x),.val 0 false [.p (.int .i64 left)]] = some ⟨[(false,[.p (.int .i64 (subW left x.w))])],[]⟩ :=by
 refine EV_intro Tryz.func5 rfl ?_
 have hx0 :=hx
 simp only [VBook.ok] at hx
 obtain ⟨o_now,o_floor,o_objects,o_history,o_tickets⟩ :=hx
 have w0 :=k_szBookObjectS x.objects (left) o_objects (by omega) (by omega)
 by_cases c0:left < (wSBookObject x.objects:Nat)
 ·have e:subW left x.w = -1 :=subW_lt (by unfold VBook.w; omega)
  rw [subW_lt c0] at w0
  simp only [rA,↓reduceIte,reduceCtorEq,N1,N2,N3,N4,N5,N6,N7,I1,I2,I3,I4,L1,e5,e22,Tryz.f5,VBook.c,w0,e]
 rw [subW_ge c0] at w0
 have d0:¬ (left - (wSBookObject x.objects:Nat) < 0) :=by omega
 have w1 :=k_szBookChangeS x.history (left - (wSBookObject x.objects:Nat)) o_history (by omega) (by omega)
 by_cases c1:left - (wSBookObject x.objects:Nat) < (wSBookChange x.history:Nat)
 ·have e:subW left x.w = -1 :=subW_lt (by unfold VBook.w; omega)
  rw [subW_lt c1] at w1
  simp only [rA,↓reduceIte,reduceCtorEq,N1,N2,N3,N4,N5,N6,N7,I1,I2,I3,I4,L1,e5,e22,e23,Tryz.f5,VBook.c,w0,d0,w1,e]
 rw [subW_ge c1] at w1
 have d1:¬ (left - (wSBookObject x.objects:Nat) - (wSBookChange x.history:Nat) < 0) :=by omega
 have w2 :=k_szBookTicketS x.tickets (left - (wSBookObject x.objects:Nat) - (wSBookChange x.history:Nat)) o_tickets (by omega) (by omega)
 by_cases c2:left - (wSBookObject x.objects:Nat) - (wSBookChange x.history:Nat) < (wSBookTicket x.tickets:Nat)
 ·have e:subW left x.w = -1 :=subW_lt (by unfold VBook.w; omega)
  rw [subW_lt c2] at w2
  simp only [rA,↓reduceIte,reduceCtorEq,N1,N2,N3,N4,N5,N6,N7,I1,I2,I3,I4,L1,e5,e22,e23,e24,Tryz.f5,VBook.c,w0,d0,w1,d1,w2,e]
 rw [subW_ge c2] at w2
 have d2:¬ (left - (wSBookObject x.objects:Nat) - (wSBookChange x.history:Nat) - (wSBookTicket x.tickets:Nat) < 0) :=by omega
 have e:subW left x.w = left - (wSBookObject x.objects:Nat) - (wSBookChange x.history:Nat) - (wSBookTicket x.tickets:Nat) :=by rw [subW_ge (by unfold VBook.w; omega)]; unfold VBook.w; omega
 simp only [rA,↓reduceIte,reduceCtorEq,N1,N2,N3,N4,N5,N6,N7,I1,I2,I3,I4,L1,e5,e22,e23,e24,Tryz.f5,VBook.c,w0,d0,w1,d1,w2,d2,e]
theorem k_toStringS (l:List ByteArray) (hw:wSString l ≤ 4194304):EV Tryz.prog E 103 [.val 0 false [.sl .shr 1 (l.map strC)]] = some ⟨[(false,[.sl .own 1 (l.map strC)])],[]⟩ :=by
 refine EV_intro Tryz.func103 rfl ?_
 have hn:l.length ≤ 4194304 :=by unfold wSString at hw; omega
 have h1:l.length < 4294967296 :=by omega
 have h0:(0:Int) ≤ (l.length:Int) :=by omega
 have hz :=repl_whole (z :=[.p (.string ⟨#[]⟩)]) (by simp only [rA,↓reduceIte,reduceCtorEq,N1,N2,N3,N4,N5,N6,N7,I1,I2,I3,I4,L1,Fl.isShr,Fl.isOwn]) l.length
 simp only [rA,↓reduceIte,reduceCtorEq,N1,N2,N3,N4,N5,N6,N7,I1,I2,I3,I4,L1,e103,Tryz.f103,LIM,h1,h0,hz]
 rw [for_block l (fun i (_:Unit) =>⟨3,[(0,.val 0 false [.sl .shr 1 (l.map strC)]),(3,.val 1 false [.sl .own 1 (fillR strC l [.p (.string ⟨#[]⟩)] i)]),(4,.val 2 false [.p (.int .i64 i)])]⟩) (fun i _ =>True)
   (fun r i a =>.norm ⟨1,[(3,.val 0 false [.sl .own 1 (l.map strC)])]⟩) ?_ ?_ (a :=()) trivial (by simp only [rA,↓reduceIte,reduceCtorEq,N1,N2,N3,N4,N5,N6,N7,I1,I2,I3,I4,L1,e103,fill_zero]; rfl)]
 ·simp only [rA,↓reduceIte,reduceCtorEq,N1,N2,N3,N4,N5,N6,N7,I1,I2,I3,I4,L1,e103,rowsString]
 ·intro i s r a hd hi _
  have hlen :=(List.getElem?_eq_some_iff.1 hi).1
  have hlt:((i:Int) < (l.length:Int)) :=by omega
  have hr :=getElem?_map_some (f :=strC) hi
  have hwi :=wrap64 (n :=(i:Int) + 1) (by omega) (by omega)
  have hi0:(0:Int) ≤ (i:Int) :=by omega
  have hg :=fill_get strC [.p (.string ⟨#[]⟩)] hlen
  have hs :=fill_set strC [.p (.string ⟨#[]⟩)] hi
  have hfl :=fill_length strC l [.p (.string ⟨#[]⟩)] (Nat.le_of_lt hlen)
  simp only [strC] at hr hs
  left
  refine ⟨(),?_,trivial,rfl⟩
  simp only [rA,↓reduceIte,reduceCtorEq,N1,N2,N3,N4,N5,N6,N7,I1,I2,I3,I4,L1,e103,hlt,hr,hwi,hi0,hg,hs,hfl,hlen,i64c]
 ·intro a _
  simp only [rA,↓reduceIte,reduceCtorEq,N1,N2,N3,N4,N5,N6,N7,I1,I2,I3,I4,L1,e103,fill_end]
theorem k_toBookObject (x:VO) (hw:x.w ≤ 4194304):EV Tryz.prog E 66 [.val 0 true (VO.c .shr x)] = some ⟨[(true,VO.c .own x)],[]⟩ :=by
 refine EV_intro Tryz.func66 rfl ?_
 unfold VO.w at hw
 have h0 :=k_toStringS x.holds (by omega)
 simp only [rA,↓reduceIte,reduceCtorEq,N1,N2,N3,N4,N5,N6,N7,I1,I2,I3,I4,L1,e66,e103,Tryz.f66,VO.c,h0,rowsString]
theorem k_toBookObjectS (l:List VO) (hw:wSBookObject l ≤ 4194304):EV Tryz.prog E 30 [.val 0 false [.sl .shr 7 (l.map (VO.c .shr))]] = some ⟨[(false,[.sl .own 7 (l.map (VO.c .own))])],[]⟩ :=by
 refine EV_intro Tryz.func30 rfl ?_
 have hn:l.length ≤ 4194304 :=by unfold wSBookObject at hw; omega
 have h1:l.length < 4294967296 :=by omega
 have h0:(0:Int) ≤ (l.length:Int) :=by omega
 have hz :=repl_whole (z :=[.p (.string ⟨#[]⟩),.p (.string ⟨#[]⟩),.p (.int .i64 0),.p (.int .i64 0),.p (.string ⟨#[]⟩),.p (.bool false),.sl .own 1 []]) (by simp only [rA,↓reduceIte,reduceCtorEq,N1,N2,N3,N4,N5,N6,N7,I1,I2,I3,I4,L1,Fl.isShr,Fl.isOwn]) l.length
 simp only [rA,↓reduceIte,reduceCtorEq,N1,N2,N3,N4,N5,N6,N7,I1,I2,I3,I4,L1,e30,Tryz.f30,LIM,h1,h0,hz]
 rw [for_block l (fun i (_:Unit) =>⟨3,[(0,.val 0 false [.sl .shr 7 (l.map (VO.c .shr))]),(3,.val 1 false [.sl .own 7 (fillR (VO.c .own) l [.p (.string ⟨#[]⟩),.p (.string ⟨#[]⟩),.p (.int .i64 0),.p (.int .i64 0),.p (.string ⟨#[]⟩),.p (.bool false),.sl .own 1 []] i)]),(4,.val 2 false [.p (.int .i64 i)])]⟩) (fun i _ =>True)
   (fun r i a =>.norm ⟨1,[(3,.val 0 false [.sl .own 7 (l.map (VO.c .own))])]⟩) ?_ ?_ (a :=()) trivial (by simp only [rA,↓reduceIte,reduceCtorEq,N1,N2,N3,N4,N5,N6,N7,I1,I2,I3,I4,L1,e30,fill_zero]; rfl)]
 ·simp only [rA,↓reduceIte,reduceCtorEq,N1,N2,N3,N4,N5,N6,N7,I1,I2,I3,I4,L1,e30,rowsBookObject]
 ·intro i s r a hd hi _
  have hlen :=(List.getElem?_eq_some_iff.1 hi).1
  have hlt:((i:Int) < (l.length:Int)) :=by omega
  have hr :=getElem?_map_some (f :=(VO.c .shr)) hi
  have hwi :=wrap64 (n :=(i:Int) + 1) (by omega) (by omega)
  have hi0:(0:Int) ≤ (i:Int) :=by omega
  have hg :=fill_get (VO.c .own) [.p (.string ⟨#[]⟩),.p (.string ⟨#[]⟩),.p (.int .i64 0),.p (.int .i64 0),.p (.string ⟨#[]⟩),.p (.bool false),.sl .own 1 []] hlen
  have hs :=fill_set (VO.c .own) [.p (.string ⟨#[]⟩),.p (.string ⟨#[]⟩),.p (.int .i64 0),.p (.int .i64 0),.p (.string ⟨#[]⟩),.p (.bool false),.sl .own 1 []] hi
  have hfl :=fill_length (VO.c .own) l [.p (.string ⟨#[]⟩),.p (.string ⟨#[]⟩),.p (.int .i64 0),.p (.int .i64 0),.p (.string ⟨#[]⟩),.p (.bool false),.sl .own 1 []] (Nat.le_of_lt hlen)
  simp only [VO.c] at hr hs
  have hm :=k_toBookObject s (by have :=wSBookObject_mem (List.mem_of_getElem? hi); unfold wSBookObject at hw; omega)
  simp only [VO.c] at hm
  left
  refine ⟨(),?_,trivial,rfl⟩
  simp only [rA,↓reduceIte,reduceCtorEq,N1,N2,N3,N4,N5,N6,N7,I1,I2,I3,I4,L1,e30,e66,hlt,hr,hm,hwi,hi0,hg,hs,hfl,hlen,i64c,rowsString]
 ·intro a _
  simp only [rA,↓reduceIte,reduceCtorEq,N1,N2,N3,N4,N5,N6,N7,I1,I2,I3,I4,L1,e30,fill_end]
theorem k_toBookChange (x:VC) (hw:x.w ≤ 4194304):EV Tryz.prog E 67 [.val 0 true (VC.c .shr x)] = some ⟨[(true,VC.c .own x)],[]⟩ :=by
 refine EV_intro Tryz.func67 rfl ?_
 unfold VC.w at hw
 have h0 :=k_toBookObject x.object (by omega)
 simp only [VO.c] at h0
 simp only [rA,↓reduceIte,reduceCtorEq,N1,N2,N3,N4,N5,N6,N7,I1,I2,I3,I4,L1,e67,e66,Tryz.f67,VC.c,h0,rowsString]
theorem k_toBookChangeS (l:List VC) (hw:wSBookChange l ≤ 4194304):EV Tryz.prog E 31 [.val 0 false [.sl .shr 9 (l.map (VC.c .shr))]] = some ⟨[(false,[.sl .own 9 (l.map (VC.c .own))])],[]⟩ :=by
 refine EV_intro Tryz.func31 rfl ?_
 have hn:l.length ≤ 4194304 :=by unfold wSBookChange at hw; omega
 have h1:l.length < 4294967296 :=by omega
 have h0:(0:Int) ≤ (l.length:Int) :=by omega
 have hz :=repl_whole (z :=[.p (.int .i64 0),.p (.bool false),.p (.string ⟨#[]⟩),.p (.string ⟨#[]⟩),.p (.int .i64 0),.p (.int .i64 0),.p (.string ⟨#[]⟩),.p (.bool false),.sl .own 1 []]) (by simp only [rA,↓reduceIte,reduceCtorEq,N1,N2,N3,N4,N5,N6,N7,I1,I2,I3,I4,L1,Fl.isShr,Fl.isOwn]) l.length
 simp only [rA,↓reduceIte,reduceCtorEq,N1,N2,N3,N4,N5,N6,N7,I1,I2,I3,I4,L1,e31,Tryz.f31,LIM,h1,h0,hz]
 rw [for_block l (fun i (_:Unit) =>⟨3,[(0,.val 0 false [.sl .shr 9 (l.map (VC.c .shr))]),(3,.val 1 false [.sl .own 9 (fillR (VC.c .own) l [.p (.int .i64 0),.p (.bool false),.p (.string ⟨#[]⟩),.p (.string ⟨#[]⟩),.p (.int .i64 0),.p (.int .i64 0),.p (.string ⟨#[]⟩),.p (.bool false),.sl .own 1 []] i)]),(4,.val 2 false [.p (.int .i64 i)])]⟩) (fun i _ =>True)
   (fun r i a =>.norm ⟨1,[(3,.val 0 false [.sl .own 9 (l.map (VC.c .own))])]⟩) ?_ ?_ (a :=()) trivial (by simp only [rA,↓reduceIte,reduceCtorEq,N1,N2,N3,N4,N5,N6,N7,I1,I2,I3,I4,L1,e31,fill_zero]; rfl)]
 ·simp only [rA,↓reduceIte,reduceCtorEq,N1,N2,N3,N4,N5,N6,N7,I1,I2,I3,I4,L1,e31,rowsBookChange]
 ·intro i s r a hd hi _
  have hlen :=(List.getElem?_eq_some_iff.1 hi).1
  have hlt:((i:Int) < (l.length:Int)) :=by omega
  have hr :=getElem?_map_some (f :=(VC.c .shr)) hi
  have hwi :=wrap64 (n :=(i:Int) + 1) (by omega) (by omega)
  have hi0:(0:Int) ≤ (i:Int) :=by omega
  have hg :=fill_get (VC.c .own) [.p (.int .i64 0),.p (.bool false),.p (.string ⟨#[]⟩),.p (.string ⟨#[]⟩),.p (.int .i64 0),.p (.int .i64 0),.p (.string ⟨#[]⟩),.p (.bool false),.sl .own 1 []] hlen
  have hs :=fill_set (VC.c .own) [.p (.int .i64 0),.p (.bool false),.p (.string ⟨#[]⟩),.p (.string ⟨#[]⟩),.p (.int .i64 0),.p (.int .i64 0),.p (.string ⟨#[]⟩),.p (.bool false),.sl .own 1 []] hi
  have hfl :=fill_length (VC.c .own) l [.p (.int .i64 0),.p (.bool false),.p (.string ⟨#[]⟩),.p (.string ⟨#[]⟩),.p (.int .i64 0),.p (.int .i64 0),.p (.string ⟨#[]⟩),.p (.bool false),.sl .own 1 []] (Nat.le_of_lt hlen)
  simp only [VC.c] at hr hs
  have hm :=k_toBookChange s (by have :=wSBookChange_mem (List.mem_of_getElem? hi); unfold wSBookChange at hw; omega)
  simp only [VC.c] at hm
  left
  refine ⟨(),?_,trivial,rfl⟩
  simp only [rA,↓reduceIte,reduceCtorEq,N1,N2,N3,N4,N5,N6,N7,I1,I2,I3,I4,L1,e31,e67,hlt,hr,hm,hwi,hi0,hg,hs,hfl,hlen,i64c,rowsString]
 ·intro a _
  simp only [rA,↓reduceIte,reduceCtorEq,N1,N2,N3,N4,N5,N6,N7,I1,I2,I3,I4,L1,e31,fill_end]
theorem k_toBookTicket (x:VT) (hw:x.w ≤ 4194304):EV Tryz.prog E 68 [.val 0 true (VT.c x)] = some ⟨[(true,VT.c x)],[]⟩ :=by
 refine EV_intro Tryz.func68 rfl ?_
 unfold VT.w at hw
 simp only [rA,↓reduceIte,reduceCtorEq,N1,N2,N3,N4,N5,N6,N7,I1,I2,I3,I4,L1,e68,Tryz.f68,VT.c]
theorem k_toBookTicketS (l:List VT) (hw:wSBookTicket l ≤ 4194304):EV Tryz.prog E 32 [.val 0 false [.sl .shr 5 (l.map VT.c)]] = some ⟨[(false,[.sl .own 5 (l.map VT.c)])],[]⟩ :=by
 refine EV_intro Tryz.func32 rfl ?_
 have hn:l.length ≤ 4194304 :=by unfold wSBookTicket at hw; omega
 have h1:l.length < 4294967296 :=by omega
 have h0:(0:Int) ≤ (l.length:Int) :=by omega
 have hz :=repl_whole (z :=[.p (.string ⟨#[]⟩),.p (.int .i64 0),.p (.string ⟨#[]⟩),.p (.int .i64 0),.p (.int .i64 0)]) (by simp only [rA,↓reduceIte,reduceCtorEq,N1,N2,N3,N4,N5,N6,N7,I1,I2,I3,I4,L1,Fl.isShr,Fl.isOwn]) l.length
 simp only [rA,↓reduceIte,reduceCtorEq,N1,N2,N3,N4,N5,N6,N7,I1,I2,I3,I4,L1,e32,Tryz.f32,LIM,h1,h0,hz]
 rw [for_block l (fun i (_:Unit) =>⟨3,[(0,.val 0 false [.sl .shr 5 (l.map VT.c)]),(3,.val 1 false [.sl .own 5 (fillR VT.c l [.p (.string ⟨#[]⟩),.p (.int .i64 0),.p (.string ⟨#[]⟩),.p (.int .i64 0),.p (.int .i64 0)] i)]),(4,.val 2 false [.p (.int .i64 i)])]⟩) (fun i _ =>True)
   (fun r i a =>.norm ⟨1,[(3,.val 0 false [.sl .own 5 (l.map VT.c)])]⟩) ?_ ?_ (a :=()) trivial (by simp only [rA,↓reduceIte,reduceCtorEq,N1,N2,N3,N4,N5,N6,N7,I1,I2,I3,I4,L1,e32,fill_zero]; rfl)]
 ·simp only [rA,↓reduceIte,reduceCtorEq,N1,N2,N3,N4,N5,N6,N7,I1,I2,I3,I4,L1,e32,rowsBookTicket]
 ·intro i s r a hd hi _
  have hlen :=(List.getElem?_eq_some_iff.1 hi).1
  have hlt:((i:Int) < (l.length:Int)) :=by omega
  have hr :=getElem?_map_some (f :=VT.c) hi
  have hwi :=wrap64 (n :=(i:Int) + 1) (by omega) (by omega)
  have hi0:(0:Int) ≤ (i:Int) :=by omega
  have hg :=fill_get VT.c [.p (.string ⟨#[]⟩),.p (.int .i64 0),.p (.string ⟨#[]⟩),.p (.int .i64 0),.p (.int .i64 0)] hlen
  have hs :=fill_set VT.c [.p (.string ⟨#[]⟩),.p (.int .i64 0),.p (.string ⟨#[]⟩),.p (.int .i64 0),.p (.int .i64 0)] hi
  have hfl :=fill_length VT.c l [.p (.string ⟨#[]⟩),.p (.int .i64 0),.p (.string ⟨#[]⟩),.p (.int .i64 0),.p (.int .i64 0)] (Nat.le_of_lt hlen)
  simp only [VT.c] at hr hs
  have hm :=k_toBookTicket s (by have :=wSBookTicket_mem (List.mem_of_getElem? hi); unfold wSBookTicket at hw; omega)
  simp only [VT.c] at hm
  left
  refine ⟨(),?_,trivial,rfl⟩
  simp only [rA,↓reduceIte,reduceCtorEq,N1,N2,N3,N4,N5,N6,N7,I1,I2,I3,I4,L1,e32,e68,hlt,hr,hm,hwi,hi0,hg,hs,hfl,hlen,i64c]
 ·intro a _
  simp only [rA,↓reduceIte,reduceCtorEq,N1,N2,N3,N4,N5,N6,N7,I1,I2,I3,I4,L1,e32,fill_end]
theorem k_toBook (x:VBook) (hw:x.w ≤ 4194304):EV Tryz.prog E 8 [.val 0 true (VBook.c .shr x)] = some ⟨[(true,VBook.c .own x)],[]⟩ :=by
 refine EV_intro Tryz.func8 rfl ?_
 unfold VBook.w at hw
 have h0 :=k_toBookObjectS x.objects (by omega)
 have h1 :=k_toBookChangeS x.history (by omega)
 have h2 :=k_toBookTicketS x.tickets (by omega)
 simp only [rA,↓reduceIte,reduceCtorEq,N1,N2,N3,N4,N5,N6,N7,I1,I2,I3,I4,L1,e8,e30,e31,e32,Tryz.f8,VBook.c,h0,h1,h2,rowsBookObject,rowsBookChange,rowsBookTicket]
theorem k_eqStringS (l:List ByteArray) (hw:wSString l ≤ 4194304):EV Tryz.prog E 109 [.val 0 false [.sl .shr 1 (l.map strC)],.val 0 false [.sl .shr 1 (l.map strC)]] = some ⟨[(false,[.p (.bool true)])],[]⟩ :=by
 refine EV_intro Tryz.func109 rfl ?_
 have hn:l.length ≤ 4194304 :=by unfold wSString at hw; omega
 simp only [rA,↓reduceIte,reduceCtorEq,N1,N2,N3,N4,N5,N6,N7,I1,I2,I3,I4,L1,e109,Tryz.f109]
 rw [for_block l (fun i (_:Unit) =>⟨3,[(0,.val 0 false [.sl .shr 1 (l.map strC)]),(1,.val 1 false [.sl .shr 1 (l.map strC)]),(5,.val 2 false [.p (.int .i64 i)])]⟩) (fun i _ =>True)
   (fun r i a =>.norm ⟨0,[]⟩) ?_ ?_ (a :=()) trivial (by simp only [rA,↓reduceIte,reduceCtorEq,N1,N2,N3,N4,N5,N6,N7,I1,I2,I3,I4,L1,e109]; rfl)]
 ·simp only [rA,↓reduceIte,reduceCtorEq,N1,N2,N3,N4,N5,N6,N7,I1,I2,I3,I4,L1,e109]
 ·intro i s r a hd hi _
  have hlen :=(List.getElem?_eq_some_iff.1 hi).1
  have hlt:((i:Int) < (l.length:Int)) :=by omega
  have hr :=getElem?_map_some (f :=strC) hi
  have hwi :=wrap64 (n :=(i:Int) + 1) (by omega) (by omega)
  have hi0:(0:Int) ≤ (i:Int) :=by omega
  simp only [strC] at hr
  left
  refine ⟨(),?_,trivial,rfl⟩
  simp only [rA,↓reduceIte,reduceCtorEq,N1,N2,N3,N4,N5,N6,N7,I1,I2,I3,I4,L1,e109,hlt,hr,hwi,hi0,i64c,beq_self_eq_true]
 ·intro a _
  simp only [rA,↓reduceIte,reduceCtorEq,N1,N2,N3,N4,N5,N6,N7,I1,I2,I3,I4,L1,e109]
theorem k_eqBookObject (x:VO) (hw:x.w ≤ 4194304):EV Tryz.prog E 78 [.val 0 true (VO.c .shr x),.val 0 true (VO.c .shr x)] = some ⟨[(false,[.p (.bool true)])],[]⟩ :=by
 refine EV_intro Tryz.func78 rfl ?_
 unfold VO.w at hw
 have h0 :=k_eqStringS x.holds (by omega)
 simp only [rA,↓reduceIte,reduceCtorEq,N1,N2,N3,N4,N5,N6,N7,I1,I2,I3,I4,L1,e78,e109,Tryz.f78,VO.c,h0,beq_self_eq_true]
theorem k_eqBookObjectS (l:List VO) (hw:wSBookObject l ≤ 4194304):EV Tryz.prog E 39 [.val 0 false [.sl .shr 7 (l.map (VO.c .shr))],.val 0 false [.sl .shr 7 (l.map (VO.c .shr))]] = some ⟨[(false,[.p (.bool true)])],[]⟩ :=by
 refine EV_intro Tryz.func39 rfl ?_
 have hn:l.length ≤ 4194304 :=by unfold wSBookObject at hw; omega
 simp only [rA,↓reduceIte,reduceCtorEq,N1,N2,N3,N4,N5,N6,N7,I1,I2,I3,I4,L1,e39,Tryz.f39]
 rw [for_block l (fun i (_:Unit) =>⟨3,[(0,.val 0 false [.sl .shr 7 (l.map (VO.c .shr))]),(1,.val 1 false [.sl .shr 7 (l.map (VO.c .shr))]),(5,.val 2 false [.p (.int .i64 i)])]⟩) (fun i _ =>True)
   (fun r i a =>.norm ⟨0,[]⟩) ?_ ?_ (a :=()) trivial (by simp only [rA,↓reduceIte,reduceCtorEq,N1,N2,N3,N4,N5,N6,N7,I1,I2,I3,I4,L1,e39]; rfl)]
 ·simp only [rA,↓reduceIte,reduceCtorEq,N1,N2,N3,N4,N5,N6,N7,I1,I2,I3,I4,L1,e39]
 ·intro i s r a hd hi _
  have hlen :=(List.getElem?_eq_some_iff.1 hi).1
  have hlt:((i:Int) < (l.length:Int)) :=by omega
  have hr :=getElem?_map_some (f :=(VO.c .shr)) hi
  have hwi :=wrap64 (n :=(i:Int) + 1) (by omega) (by omega)
  have hi0:(0:Int) ≤ (i:Int) :=by omega
  simp only [VO.c] at hr
  have hm :=k_eqBookObject s (by have :=wSBookObject_mem (List.mem_of_getElem? hi); unfold wSBookObject at hw; omega)
  simp only [VO.c] at hm
  left
  refine ⟨(),?_,trivial,rfl⟩
  simp only [rA,↓reduceIte,reduceCtorEq,N1,N2,N3,N4,N5,N6,N7,I1,I2,I3,I4,L1,e39,e78,hlt,hr,hm,hwi,hi0,i64c,beq_self_eq_true]
 ·intro a _
  simp only [rA,↓reduceIte,reduceCtorEq,N1,N2,N3,N4,N5,N6,N7,I1,I2,I3,I4,L1,e39]
theorem k_eqBookChange (x:VC) (hw:x.w ≤ 4194304):EV Tryz.prog E 79 [.val 0 true (VC.c .shr x),.val 0 true (VC.c .shr x)] = some ⟨[(false,[.p (.bool true)])],[]⟩ :=by
 refine EV_intro Tryz.func79 rfl ?_
 unfold VC.w at hw
 have h0 :=k_eqBookObject x.object (by omega)
 simp only [VO.c] at h0
 simp only [rA,↓reduceIte,reduceCtorEq,N1,N2,N3,N4,N5,N6,N7,I1,I2,I3,I4,L1,e79,e78,Tryz.f79,VC.c,h0,beq_self_eq_true]
theorem k_eqBookChangeS (l:List VC) (hw:wSBookChange l ≤ 4194304):EV Tryz.prog E 40 [.val 0 false [.sl .shr 9 (l.map (VC.c .shr))],.val 0 false [.sl .shr 9 (l.map (VC.c .shr))]] = some ⟨[(false,[.p (.bool true)])],[]⟩ :=by
 refine EV_intro Tryz.func40 rfl ?_
 have hn:l.length ≤ 4194304 :=by unfold wSBookChange at hw; omega
 simp only [rA,↓reduceIte,reduceCtorEq,N1,N2,N3,N4,N5,N6,N7,I1,I2,I3,I4,L1,e40,Tryz.f40]
 rw [for_block l (fun i (_:Unit) =>⟨3,[(0,.val 0 false [.sl .shr 9 (l.map (VC.c .shr))]),(1,.val 1 false [.sl .shr 9 (l.map (VC.c .shr))]),(5,.val 2 false [.p (.int .i64 i)])]⟩) (fun i _ =>True)
   (fun r i a =>.norm ⟨0,[]⟩) ?_ ?_ (a :=()) trivial (by simp only [rA,↓reduceIte,reduceCtorEq,N1,N2,N3,N4,N5,N6,N7,I1,I2,I3,I4,L1,e40]; rfl)]
 ·simp only [rA,↓reduceIte,reduceCtorEq,N1,N2,N3,N4,N5,N6,N7,I1,I2,I3,I4,L1,e40]
 ·intro i s r a hd hi _
  have hlen :=(List.getElem?_eq_some_iff.1 hi).1
  have hlt:((i:Int) < (l.length:Int)) :=by omega
  have hr :=getElem?_map_some (f :=(VC.c .shr)) hi
  have hwi :=wrap64 (n :=(i:Int) + 1) (by omega) (by omega)
  have hi0:(0:Int) ≤ (i:Int) :=by omega
  simp only [VC.c] at hr
  have hm :=k_eqBookChange s (by have :=wSBookChange_mem (List.mem_of_getElem? hi); unfold wSBookChange at hw; omega)
  simp only [VC.c] at hm
  left
  refine ⟨(),?_,trivial,rfl⟩
  simp only [rA,↓reduceIte,reduceCtorEq,N1,N2,N3,N4,N5,N6,N7,I1,I2,I3,I4,L1,e40,e79,hlt,hr,hm,hwi,hi0,i64c,beq_self_eq_true]
 ·intro a _
  simp only [rA,↓reduceIte,reduceCtorEq,N1,N2,N3,N4,N5,N6,N7,I1,I2,I3,I4,L1,e40]
theorem k_eqBookTicket (x:VT) (hw:x.w ≤ 4194304):EV Tryz.prog E 80 [.val 0 true (VT.c x),.val 0 true (VT.c x)] = some ⟨[(false,[.p (.bool true)])],[]⟩ :=by
 refine EV_intro Tryz.func80 rfl ?_
 unfold VT.w at hw
 simp only [rA,↓reduceIte,reduceCtorEq,N1,N2,N3,N4,N5,N6,N7,I1,I2,I3,I4,L1,e80,Tryz.f80,VT.c,beq_self_eq_true]
theorem k_eqBookTicketS (l:List VT) (hw:wSBookTicket l ≤ 4194304):EV Tryz.prog E 41 [.val 0 false [.sl .shr 5 (l.map VT.c)],.val 0 false [.sl .shr 5 (l.map VT.c)]] = some ⟨[(false,[.p (.bool true)])],[]⟩ :=by
 refine EV_intro Tryz.func41 rfl ?_
 have hn:l.length ≤ 4194304 :=by unfold wSBookTicket at hw; omega
 simp only [rA,↓reduceIte,reduceCtorEq,N1,N2,N3,N4,N5,N6,N7,I1,I2,I3,I4,L1,e41,Tryz.f41]
 rw [for_block l (fun i (_:Unit) =>⟨3,[(0,.val 0 false [.sl .shr 5 (l.map VT.c)]),(1,.val 1 false [.sl .shr 5 (l.map VT.c)]),(5,.val 2 false [.p (.int .i64 i)])]⟩) (fun i _ =>True)
   (fun r i a =>.norm ⟨0,[]⟩) ?_ ?_ (a :=()) trivial (by simp only [rA,↓reduceIte,reduceCtorEq,N1,N2,N3,N4,N5,N6,N7,I1,I2,I3,I4,L1,e41]; rfl)]
 ·simp only [rA,↓reduceIte,reduceCtorEq,N1,N2,N3,N4,N5,N6,N7,I1,I2,I3,I4,L1,e41]
 ·intro i s r a hd hi _
  have hlen :=(List.getElem?_eq_some_iff.1 hi).1
  have hlt:((i:Int) < (l.length:Int)) :=by omega
  have hr :=getElem?_map_some (f :=VT.c) hi
  have hwi :=wrap64 (n :=(i:Int) + 1) (by omega) (by omega)
  have hi0:(0:Int) ≤ (i:Int) :=by omega
  simp only [VT.c] at hr
  have hm :=k_eqBookTicket s (by have :=wSBookTicket_mem (List.mem_of_getElem? hi); unfold wSBookTicket at hw; omega)
  simp only [VT.c] at hm
  left
  refine ⟨(),?_,trivial,rfl⟩
  simp only [rA,↓reduceIte,reduceCtorEq,N1,N2,N3,N4,N5,N6,N7,I1,I2,I3,I4,L1,e41,e80,hlt,hr,hm,hwi,hi0,i64c,beq_self_eq_true]
 ·intro a _
  simp only [rA,↓reduceIte,reduceCtorEq,N1,N2,N3,N4,N5,N6,N7,I1,I2,I3,I4,L1,e41]
theorem k_eqBook (x:VBook) (hw:x.w ≤ 4194304):EV Tryz.prog E 12 [.val 0 true (VBook.c .shr x),.val 0 true (VBook.c .shr x)] = some ⟨[(false,[.p (.bool true)])],[]⟩ :=by
 refine EV_intro Tryz.func12 rfl ?_
 unfold VBook.w at hw
 have h0 :=k_eqBookObjectS x.objects (by omega)
 have h1 :=k_eqBookChangeS x.history (by omega)
 have h2 :=k_eqBookTicketS x.tickets (by omega)
 simp only [rA,↓reduceIte,reduceCtorEq,N1,N2,N3,N4,N5,N6,N7,I1,I2,I3,I4,L1,e12,e39,e40,e41,Tryz.f12,VBook.c,h0,h1,h2,beq_self_eq_true]
abbrev objC (x:VO):List C :=VO.c .shr x
abbrev keyC (k n:ByteArray):List C :=[.p (.string k),.p (.string n)]
def isKey (k n:ByteArray) (o:VO):Bool :=decide (o.kind = k) && decide (o.name = n)
def nilObj:VO :=⟨⟨#[]⟩,⟨#[]⟩,0,0,⟨#[]⟩,false,[]⟩

theorem k102 (x:VO) (hl:x.holds.length ≤ 4194304):EV Tryz.prog E 102 [.val 0 true (VO.c .shr x)] = some ⟨[(true,x.c .own)],[]⟩ :=by
 refine EV_intro Tryz.func102 rfl ?_
 have h1:0 + x.holds.length < 4294967296 :=by omega
 have h2:x.holds.length < 4294967296 :=by omega
 simp only [rA,↓reduceIte,reduceCtorEq,N1,N2,N3,N4,N5,N6,N7,I1,I2,I3,I4,L1,e102,Tryz.f102,VO.c,LIM,h1,h2,rowsString]
theorem k90 (x:VO) (hl:x.holds.length ≤ 4194304):EV Tryz.prog E 90 [.val 0 true (VO.c .shr x)] = some ⟨[(true,x.c .own)],[]⟩ :=by
 refine EV_intro Tryz.func90 rfl ?_
 have h1:0 + x.holds.length < 4294967296 :=by omega
 have h2:x.holds.length < 4294967296 :=by omega
 simp only [rA,↓reduceIte,reduceCtorEq,N1,N2,N3,N4,N5,N6,N7,I1,I2,I3,I4,L1,e90,Tryz.f90,VO.c,LIM,h1,h2,rowsString]
theorem k71 (x:VO):EV Tryz.prog E 71 [.val 0 true (VO.c .shr x)] = some ⟨[(true,keyC x.kind x.name)],[]⟩ :=by
 refine EV_intro Tryz.func71 rfl ?_
 simp only [rA,↓reduceIte,reduceCtorEq,N1,N2,N3,N4,N5,N6,N7,I1,I2,I3,I4,L1,e71,Tryz.f71,VO.c]
theorem k108 (x:VO) (k n:ByteArray):EV Tryz.prog E 108 [.val 0 true (VO.c .shr x),.rp (keyC k n)] = some ⟨[(false,[.p (.bool (isKey k n x))])],[]⟩ :=by
 refine EV_intro Tryz.func108 rfl ?_
 have h :=k71 x
 simp only [VO.c] at h
 unfold isKey
 simp only [rA,↓reduceIte,reduceCtorEq,N1,N2,N3,N4,N5,N6,N7,I1,I2,I3,I4,L1,e108,e71,Tryz.f108,VO.c,h]

def idxF (p:VO → Bool):List VO → Nat → Int
 | [],_ =>-1
 | x :: r,i =>if p x = true then (i:Int) else idxF p r (i + 1)
theorem idxF_find (p:VO → Bool):∀ (l:List VO) (k:Nat),(l.find? p = none ∧ idxF p l k = -1) ∨ ∃ i o,l.find? p = some o ∧ l[i]? = some o ∧ p o = true ∧ idxF p l k = ((k + i:Nat):Int)
 | [],k =>.inl ⟨rfl,rfl⟩
 | x :: r,k =>by
  by_cases h:p x = true
  ·exact .inr ⟨0,x,by simp [h],rfl,h,by simp [idxF,h]⟩
  ·rcases idxF_find p r (k + 1) with ⟨h1,h2⟩ | ⟨i,o,h1,h2,h3,h4⟩
   ·exact .inl ⟨by simp [h,h1],by simp [idxF,h,h2]⟩
   ·exact .inr ⟨i + 1,o,by simp [h,h1],by simpa using h2,h3,by simp only [idxF,h]; rw [if_neg (by simp),h4]; omega⟩
theorem idxF_lt (p:VO → Bool) {l:List VO}:idxF p l 0 < l.length ∧ -1 ≤ idxF p l 0 :=by
 rcases idxF_find p l 0 with ⟨h1,h2⟩ | ⟨i,o,h1,h2,h3,h4⟩
 ·rw [h2]; omega
 ·have :=(List.getElem?_eq_some_iff.1 h2).1
  rw [h4]; omega

theorem k107 {f:FuncId} {cp:List C} {p:VO → Bool} (l:List VO) (hl:l.length ≤ 4194304) (hm:(E.ann f).modes = [])
  (hp:∀ x,EV Tryz.prog E f [.val 0 true (VO.c .shr x),.rp cp] = some ⟨[(false,[.p (.bool (p x))])],[]⟩) :
  EV Tryz.prog E 107 [.val 0 false [.sl .shr 7 (l.map (VO.c .shr))],.fn f [cp]] = some ⟨[(false,[.p (.int .i64 (idxF p l 0))])],[]⟩ :=by
 refine EV_intro Tryz.func107 rfl ?_
 simp only [rA,↓reduceIte,reduceCtorEq,N1,N2,N3,N4,N5,N6,N7,I1,I2,I3,I4,L1,e107,Tryz.f107]
 rw [for_block l (fun i (_:Unit) =>⟨4,[(0,.val 0 false [.sl .shr 7 (l.map (VO.c .shr))]),(1,.fn f [cp]),(7,.val 2 false [.p (.int .i64 l.length)]),(8,.val 3 false [.p (.int .i64 i)])]⟩) (fun i _ =>True)
   (fun r i a =>if idxF p r i < 0 then .norm ⟨0,[]⟩ else .ret ⟨[(false,[.p (.int .i64 (idxF p r i))])],[]⟩) ?_ ?_ (a :=()) trivial (by simp only [rA,↓reduceIte,reduceCtorEq,N1,N2,N3,N4,N5,N6,N7,I1,I2,I3,I4,L1,e107]; rfl)]
 ·by_cases h:idxF p l 0 < 0
  ·have e:idxF p l 0 = -1 :=by have :=(idxF_lt p (l :=l)).2; omega
   simp only [rA,↓reduceIte,reduceCtorEq,N1,N2,N3,N4,N5,N6,N7,I1,I2,I3,I4,L1,e107,h,e]
  ·simp only [rA,↓reduceIte,reduceCtorEq,N1,N2,N3,N4,N5,N6,N7,I1,I2,I3,I4,L1,e107,h]
 ·intro i x r a hd hi _
  have hlen :=(List.getElem?_eq_some_iff.1 hi).1
  have hlt:((i:Int) < (l.length:Int)) :=by omega
  have hr :=getElem?_map_some (f :=VO.c .shr) hi
  have hwi :=wrap64 (n :=(i:Int) + 1) (by omega) (by omega)
  have hi0:(0:Int) ≤ (i:Int) :=by omega
  have hk :=hp x
  simp only [VO.c] at hr hk
  cases d:p x
  ·left
   refine ⟨(),?_,trivial,by simp [idxF,d]⟩
   simp only [rA,↓reduceIte,reduceCtorEq,N1,N2,N3,N4,N5,N6,N7,I1,I2,I3,I4,L1,e107,hlt,hr,hwi,hi0,hk,hm,d,i64c]
  ·right
   have hn:¬ ((i:Int) < 0) :=by omega
   simp only [rA,↓reduceIte,reduceCtorEq,N1,N2,N3,N4,N5,N6,N7,I1,I2,I3,I4,L1,e107,hlt,hr,hwi,hi0,hk,hm,d,idxF,hn]
 ·intro a _
  have hn:¬ ((l.length:Int) < (l.length:Int)) :=by omega
  simp only [rA,↓reduceIte,reduceCtorEq,N1,N2,N3,N4,N5,N6,N7,I1,I2,I3,I4,L1,e107,hn,idxF]
theorem k77 (l:List VO) (k n:ByteArray) (hl:l.length ≤ 4194304) :
  EV Tryz.prog E 77 [.val 0 false [.sl .shr 7 (l.map (VO.c .shr))],.val 0 true (keyC k n)] = some ⟨[(false,[.p (.int .i64 (idxF (isKey k n) l 0))])],[]⟩ :=by
 refine EV_intro Tryz.func77 rfl ?_
 have h :=k107 (cp :=keyC k n) (p :=isKey k n) l hl (show (E.ann 108).modes = [] from rfl) (fun x =>k108 x k n)
 simp only [rA,↓reduceIte,reduceCtorEq,N1,N2,N3,N4,N5,N6,N7,I1,I2,I3,I4,L1,e77,e107,Tryz.f77,h]

def bfind (l:List VO) (k n:ByteArray):VO × Bool :=match l.find? (isKey k n) with
 | some o =>(o,true)
 | none =>(nilObj,false)
theorem sum_obj_le {l:List VO} {x:VO} (h:x ∈ l):x.w ≤ sumWBookObject l :=wSBookObject_mem h
theorem bfind_w (b:VBook) (k n:ByteArray):(bfind b.objects k n).1.w ≤ b.w :=by
 unfold bfind
 cases h:b.objects.find? (isKey k n) with
 | none =>
  have e:(⟨#[]⟩:ByteArray).size = 0 :=rfl
  simp only [nilObj,VO.w,wSString,sumWString,List.length_nil,e]
  omega
 | some o =>
  have :=sum_obj_le (List.mem_of_find?_eq_some h)
  simp only
  unfold VBook.w wSBookObject
  omega
theorem holds_le {x:VO} {n:Nat} (h:x.w ≤ n):x.holds.length ≤ n :=by
 unfold VO.w wSString at h
 omega

theorem k63 (b:VBook) (k n:ByteArray) (hw:b.w ≤ 4194304):EV Tryz.prog E 63 [.val 0 true (b.c .shr),.val 0 false [.p (.string k)],.val 0 false [.p (.string n)]] =
  some ⟨[(true,(bfind b.objects k n).1.c .own),(false,[.p (.bool (bfind b.objects k n).2)])],[]⟩ :=by
 refine EV_intro Tryz.func63 rfl ?_
 have hll:b.objects.length ≤ 4194304 :=by unfold VBook.w wSBookObject at hw; omega
 simp only [rA,↓reduceIte,reduceCtorEq,N1,N2,N3,N4,N5,N6,N7,I1,I2,I3,I4,L1,e63,Tryz.f63,VBook.c]
 rw [for_block b.objects (fun i (_:Unit) =>⟨5,[(1,.val 0 false [.p (.string k)]),(2,.val 1 false [.p (.string n)]),(3,.box 2 2 (b.c .shr)),(6,.box 3 3 (nilObj.c .own)),(8,.val 4 false [.p (.int .i64 i)])]⟩) (fun i _ =>True)
   (fun r i a =>match r.find? (isKey k n) with
    | some o =>.ret ⟨[(true,o.c .own),(false,[.p (.bool true)])],[]⟩
    | none =>.norm ⟨1,[(6,.box 0 0 (nilObj.c .own))]⟩) ?_ ?_ (a :=()) trivial (by simp only [rA,↓reduceIte,reduceCtorEq,N1,N2,N3,N4,N5,N6,N7,I1,I2,I3,I4,L1,e63,VBook.c,VO.c,nilObj]; rfl)]
 ·unfold bfind
  cases h:b.objects.find? (isKey k n) with
  | none =>simp only [rA,↓reduceIte,reduceCtorEq,N1,N2,N3,N4,N5,N6,N7,I1,I2,I3,I4,L1,e63,VO.c,nilObj,List.map_nil]
  | some o =>simp only [rA,↓reduceIte,reduceCtorEq,N1,N2,N3,N4,N5,N6,N7,I1,I2,I3,I4,L1,e63]
 ·intro i x r a hd hi _
  have hlen :=(List.getElem?_eq_some_iff.1 hi).1
  have hlt:((i:Int) < (b.objects.length:Int)) :=by omega
  have hr :=getElem?_map_some (f :=VO.c .shr) hi
  have hwi :=wrap64 (n :=(i:Int) + 1) (by omega) (by omega)
  have hi0:(0:Int) ≤ (i:Int) :=by omega
  have hxw:x.w ≤ 4194304 :=by have :=sum_obj_le (List.mem_of_getElem? hi); unfold VBook.w wSBookObject at hw; omega
  have h56 :=k102 x (holds_le hxw)
  simp only [VO.c] at hr h56
  by_cases d1:x.kind = k
  ·by_cases d2:x.name = n
   ·right
    have hf:(x :: r).find? (isKey k n) = some x :=by simp [isKey,d1,d2]
    rw [hf]
    subst d1 d2
    simp only [rA,↓reduceIte,reduceCtorEq,N1,N2,N3,N4,N5,N6,N7,I1,I2,I3,I4,L1,e63,e102,VBook.c,VO.c,nilObj,hlt,hr,hi0,h56,rowsString,List.map_nil]
   ·left
    have hf:(x :: r).find? (isKey k n) = r.find? (isKey k n) :=by simp [isKey,d2]
    refine ⟨(),?_,trivial,by rw [hf]⟩
    simp only [rA,↓reduceIte,reduceCtorEq,N1,N2,N3,N4,N5,N6,N7,I1,I2,I3,I4,L1,e63,VBook.c,VO.c,nilObj,hlt,hr,hi0,hwi,d1,d2,i64c]
  ·left
   have hf:(x :: r).find? (isKey k n) = r.find? (isKey k n) :=by simp [isKey,d1]
   refine ⟨(),?_,trivial,by rw [hf]⟩
   simp only [rA,↓reduceIte,reduceCtorEq,N1,N2,N3,N4,N5,N6,N7,I1,I2,I3,I4,L1,e63,VBook.c,VO.c,nilObj,hlt,hr,hi0,hwi,d1,i64c]
 ·intro a _
  have hn:¬ ((b.objects.length:Int) < (b.objects.length:Int)) :=by omega
  simp only [rA,↓reduceIte,reduceCtorEq,N1,N2,N3,N4,N5,N6,N7,I1,I2,I3,I4,L1,e63,VBook.c,VO.c,nilObj,hn,List.find?_nil]
def byteB (c:UInt8):Bool :=decide (97 ≤ (c.toNat:Int)) && decide ((c.toNat:Int) ≤ 122) || decide (48 ≤ (c.toNat:Int)) && decide ((c.toNat:Int) ≤ 57) || decide ((c.toNat:Int) = 45) || decide ((c.toNat:Int) = 46)
def nameB (s:ByteArray):Bool :=decide (1 ≤ s.size) && decide (s.size ≤ 20) && s.data.toList.all byteB
theorem sz_data (s:ByteArray):s.data.toList.length = s.size :=Array.length_toList
def inR (n a b:Int):Bool :=decide (a ≤ n) && decide (n ≤ b)
theorem k57 (n a b:Int):EV Tryz.prog E 57 [.val 0 false [.p (.int .i64 n)],.val 0 false [.p (.int .i64 a)],.val 0 false [.p (.int .i64 b)]] = some ⟨[(false,[.p (.bool (inR n a b))])],[]⟩ :=by
 refine EV_intro Tryz.func57 rfl ?_
 cases h:decide (a ≤ n)
 ·simp only [rA,↓reduceIte,reduceCtorEq,N1,N2,N3,N4,N5,N6,N7,I1,I2,I3,I4,L1,e57,Tryz.f57,h,inR]
 ·simp only [rA,↓reduceIte,reduceCtorEq,N1,N2,N3,N4,N5,N6,N7,I1,I2,I3,I4,L1,e57,Tryz.f57,h,inR]
theorem k74 (s:ByteArray):EV Tryz.prog E 74 [.val 0 false [.p (.string s)]] = some ⟨[(false,[.p (.bool (nameB s))])],[]⟩ :=by
 refine EV_intro Tryz.func74 rfl ?_
 unfold nameB
 by_cases h1:1 ≤ s.size
 ·by_cases h2:s.size ≤ 20
  ·have h1':¬ ((s.size:Int) < 1) :=by omega
   have h2':¬ ((20:Int) < (s.size:Int)) :=by omega
   simp only [rA,↓reduceIte,reduceCtorEq,N1,N2,N3,N4,N5,N6,N7,I1,I2,I3,I4,L1,e74,Tryz.f74,h1',h2',h1,h2]
   rw [for_block s.data.toList (fun i (_:Unit) =>⟨3,[(0,.val 0 false [.p (.string s)]),(14,.val 1 false [.p (.int .i64 s.size)]),(15,.val 2 false [.p (.int .i64 i)])]⟩) (fun i _ =>True)
    (fun r i a =>if r.all byteB = true then .norm ⟨0,[]⟩ else .ret ⟨[(false,[.p (.bool false)])],[]⟩) ?_ ?_ (a :=()) trivial (by simp only [rA,↓reduceIte,reduceCtorEq,N1,N2,N3,N4,N5,N6,N7,I1,I2,I3,I4,L1,e74]; rfl)]
   ·cases h:s.data.toList.all byteB
    ·simp only [rA,↓reduceIte,reduceCtorEq,N1,N2,N3,N4,N5,N6,N7,I1,I2,I3,I4,L1,e74,h]
    ·simp only [rA,↓reduceIte,reduceCtorEq,N1,N2,N3,N4,N5,N6,N7,I1,I2,I3,I4,L1,e74,h]
   ·intro i x r a hd hi _
    have hlen :=(List.getElem?_eq_some_iff.1 hi).1
    rw [sz_data] at hlen
    have hlt:((i:Int) < (s.size:Int)) :=by omega
    have hwi :=wrap64 (n :=(i:Int) + 1) (by omega) (by omega)
    have hi0:(0:Int) ≤ (i:Int) :=by omega
    unfold byteB
    by_cases d1:97 ≤ (x.toNat:Int) <;> by_cases d2:(x.toNat:Int) ≤ 122 <;> by_cases d3:48 ≤ (x.toNat:Int) <;> by_cases d4:(x.toNat:Int) ≤ 57 <;> by_cases d5:(x.toNat:Int) = 45 <;> by_cases d6:(x.toNat:Int) = 46 <;> first
    | (exfalso; omega)
    | (left; refine ⟨(),?_,trivial,by simp [byteB,d1,d2,d3,d4,d5,d6]⟩; simp only [rA,↓reduceIte,reduceCtorEq,N1,N2,N3,N4,N5,N6,N7,I1,I2,I3,I4,L1,e74,hlt,hwi,hi0,hi,i64c,d1,d2,d3,d4,d5,d6]; done)
    | (right; simp only [rA,↓reduceIte,reduceCtorEq,N1,N2,N3,N4,N5,N6,N7,I1,I2,I3,I4,L1,e74,hlt,hwi,hi0,hi,i64c,d1,d2,d3,d4,d5,d6,List.all_cons]; done)
   ·intro a _
    simp only [rA,↓reduceIte,reduceCtorEq,N1,N2,N3,N4,N5,N6,N7,I1,I2,I3,I4,L1,e74,sz_data,List.all_nil]
  ·have h1':¬ ((s.size:Int) < 1) :=by omega
   have h2':((20:Int) < (s.size:Int)) :=by omega
   simp only [rA,↓reduceIte,reduceCtorEq,N1,N2,N3,N4,N5,N6,N7,I1,I2,I3,I4,L1,e74,Tryz.f74,h1',h2',h1,h2]
 ·have h1':((s.size:Int) < 1) :=by omega
  simp only [rA,↓reduceIte,reduceCtorEq,N1,N2,N3,N4,N5,N6,N7,I1,I2,I3,I4,L1,e74,Tryz.f74,h1',h1]
theorem k61 (s:ByteArray):EV Tryz.prog E 61 [.val 0 false [.p (.string s)]] = some ⟨[(false,[.p (.bool (nameB s))])],[]⟩ :=by
 refine EV_intro Tryz.func61 rfl ?_
 have h75 :=k57 s.size 1 20
 unfold nameB
 by_cases h1:1 ≤ s.size
 ·by_cases h2:s.size ≤ 20
  ·have hr:inR s.size 1 20 = true :=by unfold inR; simp; omega
   rw [hr] at h75
   simp only [rA,↓reduceIte,reduceCtorEq,N1,N2,N3,N4,N5,N6,N7,I1,I2,I3,I4,L1,e61,e57,Tryz.f61,h75,h1,h2]
   rw [for_block s.data.toList (fun i (_:Unit) =>⟨2,[(0,.val 0 false [.p (.string s)]),(3,.val 1 false [.p (.int .i64 i)])]⟩) (fun i _ =>True)
    (fun r i a =>if r.all byteB = true then .norm ⟨0,[]⟩ else .ret ⟨[(false,[.p (.bool false)])],[]⟩) ?_ ?_ (a :=()) trivial (by simp only [rA,↓reduceIte,reduceCtorEq,N1,N2,N3,N4,N5,N6,N7,I1,I2,I3,I4,L1,e61]; rfl)]
   ·cases h:s.data.toList.all byteB
    ·simp only [rA,↓reduceIte,reduceCtorEq,N1,N2,N3,N4,N5,N6,N7,I1,I2,I3,I4,L1,e61,h]
    ·simp only [rA,↓reduceIte,reduceCtorEq,N1,N2,N3,N4,N5,N6,N7,I1,I2,I3,I4,L1,e61,h]
   ·intro i x r a hd hi _
    have hlen :=(List.getElem?_eq_some_iff.1 hi).1
    rw [sz_data] at hlen
    have hlt:((i:Int) < (s.size:Int)) :=by omega
    have hwi :=wrap64 (n :=(i:Int) + 1) (by omega) (by omega)
    have hi0:(0:Int) ≤ (i:Int) :=by omega
    by_cases d1:97 ≤ (x.toNat:Int) <;> by_cases d2:(x.toNat:Int) ≤ 122 <;> by_cases d3:48 ≤ (x.toNat:Int) <;> by_cases d4:(x.toNat:Int) ≤ 57 <;> by_cases d5:(x.toNat:Int) = 45 <;> by_cases d6:(x.toNat:Int) = 46 <;> first
    | (exfalso; omega)
    | (left; refine ⟨(),?_,trivial,by simp [byteB,d1,d2,d3,d4,d5,d6]⟩; simp only [rA,↓reduceIte,reduceCtorEq,N1,N2,N3,N4,N5,N6,N7,I1,I2,I3,I4,L1,e61,hlt,hwi,hi0,hi,i64c,d1,d2,d3,d4,d5,d6]; done)
    | (right; simp only [rA,↓reduceIte,reduceCtorEq,N1,N2,N3,N4,N5,N6,N7,I1,I2,I3,I4,L1,e61,hlt,hwi,hi0,hi,i64c,d1,d2,d3,d4,d5,d6,List.all_cons,byteB]; done)
   ·intro a _
    simp only [rA,↓reduceIte,reduceCtorEq,N1,N2,N3,N4,N5,N6,N7,I1,I2,I3,I4,L1,e61,sz_data,List.all_nil]
  ·have hr:inR s.size 1 20 = false :=by unfold inR; simp; omega
   rw [hr] at h75
   simp only [rA,↓reduceIte,reduceCtorEq,N1,N2,N3,N4,N5,N6,N7,I1,I2,I3,I4,L1,e61,e57,Tryz.f61,h75,h1,h2]
 ·have hr:inR s.size 1 20 = false :=by unfold inR; simp; omega
  rw [hr] at h75
  simp only [rA,↓reduceIte,reduceCtorEq,N1,N2,N3,N4,N5,N6,N7,I1,I2,I3,I4,L1,e61,e57,Tryz.f61,h75,h1]

def ascF:Option ByteArray → List ByteArray → Bool
 | _,[] =>true
 | none,x :: r =>nameB x && ascF (some x) r
 | some p,x :: r =>nameB x && (Op.bytesLess p.toList x.toList && ascF (some x) r)
def prevO {α:Type} (l:List α):Nat → Option α
 | 0 =>none
 | i + 1 =>l[i]?
theorem prevO_cases {α:Type} (l:List α) {i:Nat} (hi:i ≤ l.length) (hl:l.length ≤ 4194304):(¬ ((0:Int) < (i:Int)) ∧ prevO l i = none) ∨ ∃ p,((0:Int) < (i:Int)) ∧ (0:Int) ≤ ((i - 1:Nat):Int) ∧ IntKind.i64.wrap ((i:Int) - 1) = ((i - 1:Nat):Int) ∧ l[i - 1]? = some p ∧ prevO l i = some p :=by
 cases i with
 | zero =>exact .inl ⟨by simp,rfl⟩
 | succ j =>
  have hj:l[j]? = some l[j] :=List.getElem?_eq_getElem (by omega)
  refine .inr ⟨l[j],by omega,by omega,?_,?_,?_⟩
  ·rw [wrap64 (by omega) (by omega)]; omega
  ·simp
  ·simp [prevO]
theorem k104 (l:List ByteArray) (hl:l.length ≤ 4194304):EV Tryz.prog E 104 [.val 0 false [.sl .shr 1 (l.map strC)]] = some ⟨[(false,[.p (.bool (ascF none l))])],[]⟩ :=by
 refine EV_intro Tryz.func104 rfl ?_
 simp only [rA,↓reduceIte,reduceCtorEq,N1,N2,N3,N4,N5,N6,N7,I1,I2,I3,I4,L1,e104,Tryz.f104]
 rw [for_block l (fun i (_:Unit) =>⟨4,[(0,.val 0 false [.sl .shr 1 (l.map strC)]),(5,.val 1 false [.sl .shr 1 (l.map strC)]),(6,.val 2 false [.p (.int .i64 l.length)]),(7,.val 3 false [.p (.int .i64 i)])]⟩) (fun i _ =>True)
  (fun r i a =>if ascF (prevO l i) r = true then .norm ⟨0,[]⟩ else .ret ⟨[(false,[.p (.bool false)])],[]⟩) ?_ ?_ (a :=()) trivial (by simp only [rA,↓reduceIte,reduceCtorEq,N1,N2,N3,N4,N5,N6,N7,I1,I2,I3,I4,L1,e104]; rfl)]
 ·cases h:ascF none l
  ·simp only [rA,↓reduceIte,reduceCtorEq,N1,N2,N3,N4,N5,N6,N7,I1,I2,I3,I4,L1,e104,h,prevO]
  ·simp only [rA,↓reduceIte,reduceCtorEq,N1,N2,N3,N4,N5,N6,N7,I1,I2,I3,I4,L1,e104,h,prevO]
 ·intro i x r a hd hi _
  have hlen :=(List.getElem?_eq_some_iff.1 hi).1
  have hlt:((i:Int) < (l.length:Int)) :=by omega
  have hr :=getElem?_map_some (f :=strC) hi
  have hi0:(0:Int) ≤ (i:Int) :=by omega
  have hk :=k74 x
  have hwi :=wrap64 (n :=(i:Int) + 1) (by omega) (by omega)
  have hp:prevO l (i + 1) = some x :=hi
  cases d1:nameB x
  ·right
   have hf:ascF (prevO l i) (x :: r) = false :=by cases hq:prevO l i <;> simp [ascF,d1]
   simp only [rA,↓reduceIte,reduceCtorEq,N1,N2,N3,N4,N5,N6,N7,I1,I2,I3,I4,L1,e104,e74,hlt,hr,hi0,hk,d1,strC,hf]
  ·rcases prevO_cases l (Nat.le_of_lt hlen) hl with ⟨h0,h1⟩ | ⟨p,h0,hj0,hw2,hj,h1⟩
   ·left
    refine ⟨(),?_,trivial,by rw [hp,h1]; simp [ascF,d1]⟩
    simp only [rA,↓reduceIte,reduceCtorEq,N1,N2,N3,N4,N5,N6,N7,I1,I2,I3,I4,L1,e104,e74,hlt,hr,hi0,hk,d1,strC,hwi,h0,i64c]
   ·have hrj :=getElem?_map_some (f :=strC) hj
    cases d2:Op.bytesLess p.toList x.toList
    ·right
     have hf:ascF (prevO l i) (x :: r) = false :=by simp [h1,ascF,d2]
     simp only [rA,↓reduceIte,reduceCtorEq,N1,N2,N3,N4,N5,N6,N7,I1,I2,I3,I4,L1,e104,e74,hlt,hr,hi0,hk,d1,d2,strC,hwi,h0,hj0,hw2,hrj,hf]
    ·left
     refine ⟨(),?_,trivial,by rw [hp,h1]; simp [ascF,d1,d2]⟩
     simp only [rA,↓reduceIte,reduceCtorEq,N1,N2,N3,N4,N5,N6,N7,I1,I2,I3,I4,L1,e104,e74,hlt,hr,hi0,hk,d1,d2,strC,hwi,h0,hj0,hw2,hrj,i64c]
 ·intro a _
  simp only [rA,↓reduceIte,reduceCtorEq,N1,N2,N3,N4,N5,N6,N7,I1,I2,I3,I4,L1,e104,ascF]
theorem k117 (l:List ByteArray) (hl:l.length ≤ 4194304):EV Tryz.prog E 117 [.val 0 false [.sl .shr 1 (l.map strC)]] = some ⟨[(false,[.p (.bool (ascF none l))])],[]⟩ :=by
 refine EV_intro Tryz.func117 rfl ?_
 simp only [rA,↓reduceIte,reduceCtorEq,N1,N2,N3,N4,N5,N6,N7,I1,I2,I3,I4,L1,e117,Tryz.f117]
 rw [for_block l (fun i (_:Unit) =>⟨2,[(0,.val 0 false [.sl .shr 1 (l.map strC)]),(3,.val 1 false [.p (.int .i64 i)])]⟩) (fun i _ =>True)
  (fun r i a =>if ascF (prevO l i) r = true then .norm ⟨0,[]⟩ else .ret ⟨[(false,[.p (.bool false)])],[]⟩) ?_ ?_ (a :=()) trivial (by simp only [rA,↓reduceIte,reduceCtorEq,N1,N2,N3,N4,N5,N6,N7,I1,I2,I3,I4,L1,e117]; rfl)]
 ·cases h:ascF none l
  ·simp only [rA,↓reduceIte,reduceCtorEq,N1,N2,N3,N4,N5,N6,N7,I1,I2,I3,I4,L1,e117,h,prevO]
  ·simp only [rA,↓reduceIte,reduceCtorEq,N1,N2,N3,N4,N5,N6,N7,I1,I2,I3,I4,L1,e117,h,prevO]
 ·intro i x r a hd hi _
  have hlen :=(List.getElem?_eq_some_iff.1 hi).1
  have hlt:((i:Int) < (l.length:Int)) :=by omega
  have hr :=getElem?_map_some (f :=strC) hi
  have hi0:(0:Int) ≤ (i:Int) :=by omega
  have hk :=k61 x
  have hwi :=wrap64 (n :=(i:Int) + 1) (by omega) (by omega)
  have hp:prevO l (i + 1) = some x :=hi
  cases d1:nameB x
  ·right
   have hf:ascF (prevO l i) (x :: r) = false :=by cases hq:prevO l i <;> simp [ascF,d1]
   simp only [rA,↓reduceIte,reduceCtorEq,N1,N2,N3,N4,N5,N6,N7,I1,I2,I3,I4,L1,e117,e61,hlt,hr,hi0,hk,d1,strC,hf]
  ·rcases prevO_cases l (Nat.le_of_lt hlen) hl with ⟨h0,h1⟩ | ⟨p,h0,hj0,hw2,hj,h1⟩
   ·left
    refine ⟨(),?_,trivial,by rw [hp,h1]; simp [ascF,d1]⟩
    simp only [rA,↓reduceIte,reduceCtorEq,N1,N2,N3,N4,N5,N6,N7,I1,I2,I3,I4,L1,e117,e61,hlt,hr,hi0,hk,d1,strC,hwi,h0,i64c]
   ·have hrj :=getElem?_map_some (f :=strC) hj
    cases d2:Op.bytesLess p.toList x.toList
    ·right
     have hf:ascF (prevO l i) (x :: r) = false :=by simp [h1,ascF,d2]
     simp only [rA,↓reduceIte,reduceCtorEq,N1,N2,N3,N4,N5,N6,N7,I1,I2,I3,I4,L1,e117,e61,hlt,hr,hi0,hk,d1,d2,strC,hwi,h0,hj0,hw2,hrj,hf]
    ·left
     refine ⟨(),?_,trivial,by rw [hp,h1]; simp [ascF,d1,d2]⟩
     simp only [rA,↓reduceIte,reduceCtorEq,N1,N2,N3,N4,N5,N6,N7,I1,I2,I3,I4,L1,e117,e61,hlt,hr,hi0,hk,d1,d2,strC,hwi,h0,hj0,hw2,hrj,i64c]
 ·intro a _
  simp only [rA,↓reduceIte,reduceCtorEq,N1,N2,N3,N4,N5,N6,N7,I1,I2,I3,I4,L1,e117,ascF]
theorem k118 (a b:ByteArray):EV Tryz.prog E 118 [.val 0 false [.p (.string a)],.val 0 false [.p (.string b)]] = some ⟨[(false,[.p (.int .i64 (cmpS a b))])],[]⟩ :=by
 refine EV_intro Tryz.func118 rfl ?_
 simp only [rA,↓reduceIte,reduceCtorEq,N1,N2,N3,N4,N5,N6,N7,I1,I2,I3,I4,L1,e118,e130,Tryz.f118]
theorem k105 (a b:ByteArray):EV Tryz.prog E 105 [.val 0 false [.p (.string a)],.val 0 false [.p (.string b)]] = some ⟨[(false,[.p (.int .i64 (cmpS a b))])],[]⟩ :=by
 refine EV_intro Tryz.func105 rfl ?_
 have h :=k118 a b
 simp only [rA,↓reduceIte,reduceCtorEq,N1,N2,N3,N4,N5,N6,N7,I1,I2,I3,I4,L1,e105,e118,Tryz.f105,h]
def keyI (ak an bk bn:ByteArray):Int :=if cmpS ak bk = 0 then cmpS an bn else cmpS ak bk
theorem k72 (ak an bk bn:ByteArray):EV Tryz.prog E 72 [.val 0 true (keyC ak an),.val 0 true (keyC bk bn)] = some ⟨[(false,[.p (.int .i64 (keyI ak an bk bn))])],[]⟩ :=by
 refine EV_intro Tryz.func72 rfl ?_
 have h1 :=k105 ak bk
 have h2 :=k105 an bn
 unfold keyI
 by_cases h:cmpS ak bk = 0
 ·rw [h] at h1
  simp only [rA,↓reduceIte,reduceCtorEq,N1,N2,N3,N4,N5,N6,N7,I1,I2,I3,I4,L1,e72,e105,Tryz.f72,h1,h2,h]
 ·simp only [rA,↓reduceIte,reduceCtorEq,N1,N2,N3,N4,N5,N6,N7,I1,I2,I3,I4,L1,e72,e105,Tryz.f72,h1,h2,h]
def keyO (x y:VO):Int :=keyI x.kind x.name y.kind y.name
theorem k98 (x y:VO):EV Tryz.prog E 98 [.val 0 true (VO.c .shr x),.val 0 true (VO.c .shr y)] = some ⟨[(false,[.p (.int .i64 (keyO x y))])],[]⟩ :=by
 refine EV_intro Tryz.func98 rfl ?_
 unfold keyO keyI cmpS
 cases h1:Op.bytesLess x.kind.toList y.kind.toList
 ·cases h2:Op.bytesLess y.kind.toList x.kind.toList
  ·cases h3:Op.bytesLess x.name.toList y.name.toList
   ·cases h4:Op.bytesLess y.name.toList x.name.toList
    ·simp only [rA,↓reduceIte,reduceCtorEq,N1,N2,N3,N4,N5,N6,N7,I1,I2,I3,I4,L1,e98,Tryz.f98,VO.c,h1,h2,h3,h4]
    ·simp only [rA,↓reduceIte,reduceCtorEq,N1,N2,N3,N4,N5,N6,N7,I1,I2,I3,I4,L1,e98,Tryz.f98,VO.c,h1,h2,h3,h4]
   ·simp only [rA,↓reduceIte,reduceCtorEq,N1,N2,N3,N4,N5,N6,N7,I1,I2,I3,I4,L1,e98,Tryz.f98,VO.c,h1,h2,h3]
  ·simp only [rA,↓reduceIte,reduceCtorEq,N1,N2,N3,N4,N5,N6,N7,I1,I2,I3,I4,L1,e98,Tryz.f98,VO.c,h1,h2]
 ·simp only [rA,↓reduceIte,reduceCtorEq,N1,N2,N3,N4,N5,N6,N7,I1,I2,I3,I4,L1,e98,Tryz.f98,VO.c,h1]

def partsB (x:VO) (now:Int):Bool :=nameB x.kind && (nameB x.name && (inR x.version 1 now && (inR x.born 1 x.version && (decide ((x.text.size:Int) ≤ 300) && (decide ((x.holds.length:Int) ≤ 5) && ascF none x.holds)))))
theorem k97 (x:VO) (now:Int) (hl:x.holds.length ≤ 4194304):EV Tryz.prog E 97 [.val 0 true (VO.c .shr x),.val 0 false [.p (.int .i64 now)]] = some ⟨[(false,[.p (.bool (partsB x now))])],[]⟩ :=by
 refine EV_intro Tryz.func97 rfl ?_
 have h1 :=k61 x.kind
 have h2 :=k61 x.name
 have h3 :=k57 x.version 1 now
 have h4 :=k57 x.born 1 x.version
 have h5 :=k117 x.holds hl
 unfold partsB
 cases c1:nameB x.kind
 ·simp only [rA,↓reduceIte,reduceCtorEq,N1,N2,N3,N4,N5,N6,N7,I1,I2,I3,I4,L1,e97,e61,e57,e117,Tryz.f97,VO.c,h1,c1]
 cases c2:nameB x.name
 ·simp only [rA,↓reduceIte,reduceCtorEq,N1,N2,N3,N4,N5,N6,N7,I1,I2,I3,I4,L1,e97,e61,e57,e117,Tryz.f97,VO.c,h1,c1,h2,c2]
 cases c3:inR x.version 1 now
 ·simp only [rA,↓reduceIte,reduceCtorEq,N1,N2,N3,N4,N5,N6,N7,I1,I2,I3,I4,L1,e97,e61,e57,e117,Tryz.f97,VO.c,h1,c1,h2,c2,h3,c3]
 cases c4:inR x.born 1 x.version
 ·simp only [rA,↓reduceIte,reduceCtorEq,N1,N2,N3,N4,N5,N6,N7,I1,I2,I3,I4,L1,e97,e61,e57,e117,Tryz.f97,VO.c,h1,c1,h2,c2,h3,c3,h4,c4]
 by_cases c5:(x.text.size:Int) ≤ 300
 ·by_cases c6:(x.holds.length:Int) ≤ 5
  ·simp only [rA,↓reduceIte,reduceCtorEq,N1,N2,N3,N4,N5,N6,N7,I1,I2,I3,I4,L1,e97,e61,e57,e117,Tryz.f97,VO.c,h1,c1,h2,c2,h3,c3,h4,c4,c5,c6,h5]
  ·simp only [rA,↓reduceIte,reduceCtorEq,N1,N2,N3,N4,N5,N6,N7,I1,I2,I3,I4,L1,e97,e61,e57,e117,Tryz.f97,VO.c,h1,c1,h2,c2,h3,c3,h4,c4,c5,c6]
 ·simp only [rA,↓reduceIte,reduceCtorEq,N1,N2,N3,N4,N5,N6,N7,I1,I2,I3,I4,L1,e97,e61,e57,e117,Tryz.f97,VO.c,h1,c1,h2,c2,h3,c3,h4,c4,c5]
def endB (x:VO) (gone:Bool):Bool :=if gone = true then x.ending && (decide ((x.holds.length:Int) = 0) && decide (x.born < x.version)) else !x.ending || decide ((0:Int) < (x.holds.length:Int))
theorem k70 (x:VO) (now:Int) (gone:Bool) (hl:x.holds.length ≤ 4194304):EV Tryz.prog E 70 [.val 0 true (VO.c .shr x),.val 0 false [.p (.int .i64 now)],.val 0 false [.p (.bool gone)]] = some ⟨[(false,[.p (.bool (partsB x now && endB x gone))])],[]⟩ :=by
 refine EV_intro Tryz.func70 rfl ?_
 have h1 :=k74 x.kind
 have h2 :=k74 x.name
 have h5 :=k104 x.holds hl
 unfold partsB inR
 cases c1:nameB x.kind
 ·simp only [rA,↓reduceIte,reduceCtorEq,N1,N2,N3,N4,N5,N6,N7,I1,I2,I3,I4,L1,e70,e74,e104,Tryz.f70,VO.c,h1,c1]
 cases c2:nameB x.name
 ·simp only [rA,↓reduceIte,reduceCtorEq,N1,N2,N3,N4,N5,N6,N7,I1,I2,I3,I4,L1,e70,e74,e104,Tryz.f70,VO.c,h1,c1,h2,c2]
 by_cases c3:1 ≤ x.version
 case neg =>
  have d3:x.version < 1 :=by omega
  simp only [rA,↓reduceIte,reduceCtorEq,N1,N2,N3,N4,N5,N6,N7,I1,I2,I3,I4,L1,e70,e74,e104,Tryz.f70,VO.c,h1,c1,h2,c2,d3,c3]
 have d3:¬ x.version < 1 :=by omega
 by_cases c4:x.version ≤ now
 case neg =>
  have d4:now < x.version :=by omega
  simp only [rA,↓reduceIte,reduceCtorEq,N1,N2,N3,N4,N5,N6,N7,I1,I2,I3,I4,L1,e70,e74,e104,Tryz.f70,VO.c,h1,c1,h2,c2,d3,c3,d4,c4]
 have d4:¬ now < x.version :=by omega
 by_cases c5:1 ≤ x.born
 case neg =>
  have d5:x.born < 1 :=by omega
  simp only [rA,↓reduceIte,reduceCtorEq,N1,N2,N3,N4,N5,N6,N7,I1,I2,I3,I4,L1,e70,e74,e104,Tryz.f70,VO.c,h1,c1,h2,c2,d3,c3,d4,c4,d5,c5]
 have d5:¬ x.born < 1 :=by omega
 by_cases c6:x.born ≤ x.version
 case neg =>
  have d6:x.version < x.born :=by omega
  simp only [rA,↓reduceIte,reduceCtorEq,N1,N2,N3,N4,N5,N6,N7,I1,I2,I3,I4,L1,e70,e74,e104,Tryz.f70,VO.c,h1,c1,h2,c2,d3,c3,d4,c4,d5,c5,d6,c6]
 have d6:¬ x.version < x.born :=by omega
 by_cases c7:(x.text.size:Int) ≤ 300
 case neg =>
  have d7:300 < (x.text.size:Int) :=by omega
  simp only [rA,↓reduceIte,reduceCtorEq,N1,N2,N3,N4,N5,N6,N7,I1,I2,I3,I4,L1,e70,e74,e104,Tryz.f70,VO.c,h1,c1,h2,c2,d3,c3,d4,c4,d5,c5,d6,c6,d7,c7]
 have d7:¬ 300 < (x.text.size:Int) :=by omega
 by_cases c8:(x.holds.length:Int) ≤ 5
 case neg =>
  have d8:5 < (x.holds.length:Int) :=by omega
  simp only [rA,↓reduceIte,reduceCtorEq,N1,N2,N3,N4,N5,N6,N7,I1,I2,I3,I4,L1,e70,e74,e104,Tryz.f70,VO.c,h1,c1,h2,c2,d3,c3,d4,c4,d5,c5,d6,c6,d7,c7,d8,c8]
 have d8:¬ 5 < (x.holds.length:Int) :=by omega
 cases c9:ascF none x.holds
 ·simp only [rA,↓reduceIte,reduceCtorEq,N1,N2,N3,N4,N5,N6,N7,I1,I2,I3,I4,L1,e70,e74,e104,Tryz.f70,VO.c,h1,c1,h2,c2,d3,c3,d4,c4,d5,c5,d6,c6,d7,c7,d8,c8,h5,c9]
 unfold endB
 cases gone
 ·cases e:x.ending
  ·simp only [rA,↓reduceIte,reduceCtorEq,N1,N2,N3,N4,N5,N6,N7,I1,I2,I3,I4,L1,e70,e74,e104,Tryz.f70,VO.c,h1,c1,h2,c2,d3,c3,d4,c4,d5,c5,d6,c6,d7,c7,d8,c8,h5,c9,e]
  ·simp only [rA,↓reduceIte,reduceCtorEq,N1,N2,N3,N4,N5,N6,N7,I1,I2,I3,I4,L1,e70,e74,e104,Tryz.f70,VO.c,h1,c1,h2,c2,d3,c3,d4,c4,d5,c5,d6,c6,d7,c7,d8,c8,h5,c9,e]
 ·cases e:x.ending
  ·simp only [rA,↓reduceIte,reduceCtorEq,N1,N2,N3,N4,N5,N6,N7,I1,I2,I3,I4,L1,e70,e74,e104,Tryz.f70,VO.c,h1,c1,h2,c2,d3,c3,d4,c4,d5,c5,d6,c6,d7,c7,d8,c8,h5,c9,e]
  ·by_cases f:(x.holds.length:Int) = 0
   ·simp only [rA,↓reduceIte,reduceCtorEq,N1,N2,N3,N4,N5,N6,N7,I1,I2,I3,I4,L1,e70,e74,e104,Tryz.f70,VO.c,h1,c1,h2,c2,d3,c3,d4,c4,d5,c5,d6,c6,d7,c7,d8,c8,h5,c9,e,f]
   ·simp only [rA,↓reduceIte,reduceCtorEq,N1,N2,N3,N4,N5,N6,N7,I1,I2,I3,I4,L1,e70,e74,e104,Tryz.f70,VO.c,h1,c1,h2,c2,d3,c3,d4,c4,d5,c5,d6,c6,d7,c7,d8,c8,h5,c9,e,f]
theorem k106 (l m:List ByteArray) (hl:l.length ≤ 4194304) (hm:m.length ≤ 4194304):EV Tryz.prog E 106 [.val 0 false [.sl .shr 1 (l.map strC)],.val 0 false [.sl .shr 1 (m.map strC)]] = some ⟨[(false,[.p (.bool (decide (l = m)))])],[]⟩ :=by
 refine EV_intro Tryz.func106 rfl ?_
 by_cases hn:(l.length:Int) = (m.length:Int)
 ·simp only [rA,↓reduceIte,reduceCtorEq,N1,N2,N3,N4,N5,N6,N7,I1,I2,I3,I4,L1,e106,Tryz.f106,hn]
  rw [for_block l (fun i (_:Unit) =>⟨4,[(0,.val 0 false [.sl .shr 1 (l.map strC)]),(1,.val 1 false [.sl .shr 1 (m.map strC)]),(12,.val 2 false [.p (.int .i64 m.length)]),(13,.val 3 false [.p (.int .i64 i)])]⟩) (fun i _ =>True)
   (fun r i a =>if r = m.drop i then .norm ⟨0,[]⟩ else .ret ⟨[(false,[.p (.bool false)])],[]⟩) ?_ ?_ (a :=()) trivial (by simp only [rA,↓reduceIte,reduceCtorEq,N1,N2,N3,N4,N5,N6,N7,I1,I2,I3,I4,L1,e106,hn]; rfl)]
  ·by_cases h:l = m
   ·simp only [rA,↓reduceIte,reduceCtorEq,N1,N2,N3,N4,N5,N6,N7,I1,I2,I3,I4,L1,e106,h]
   ·simp only [rA,↓reduceIte,reduceCtorEq,N1,N2,N3,N4,N5,N6,N7,I1,I2,I3,I4,L1,e106,h]
  ·intro i x r a hd hi _
   have hlen :=(List.getElem?_eq_some_iff.1 hi).1
   have hlt:((i:Int) < (m.length:Int)) :=by omega
   have hr :=getElem?_map_some (f :=strC) hi
   have hi0:(0:Int) ≤ (i:Int) :=by omega
   have hy:m[i]? = some (m[i]'(by omega)) :=List.getElem?_eq_getElem (by omega)
   have hd2:m.drop i = m[i]'(by omega) :: m.drop (i + 1) :=List.drop_eq_getElem_cons (by omega)
   generalize m[i]'(by omega) = y at hy hd2
   have hry :=getElem?_map_some (f :=strC) hy
   have hwi :=wrap64 (n :=(i:Int) + 1) (by omega) (by omega)
   by_cases d1:x = y
   ·left
    refine ⟨(),?_,trivial,by rw [hd2,d1]; simp⟩
    simp only [rA,↓reduceIte,reduceCtorEq,N1,N2,N3,N4,N5,N6,N7,I1,I2,I3,I4,L1,e106,hlt,hr,hi0,hry,d1,strC,hwi,i64c]
   ·right
    have hf:¬ (x :: r = m.drop i) :=by rw [hd2]; intro e; exact d1 (List.cons.inj e).1
    simp only [rA,↓reduceIte,reduceCtorEq,N1,N2,N3,N4,N5,N6,N7,I1,I2,I3,I4,L1,e106,hlt,hr,hi0,hry,d1,strC,hwi,i64c,hf]
  ·intro a _
   have e1:(l.length:Int) = m.length :=hn
   have e2:m.drop l.length = [] :=List.drop_eq_nil_of_le (by omega)
   simp only [rA,↓reduceIte,reduceCtorEq,N1,N2,N3,N4,N5,N6,N7,I1,I2,I3,I4,L1,e106,e1,e2]
 ·have h:¬ l = m :=fun e =>hn (by rw [e])
  simp only [rA,↓reduceIte,reduceCtorEq,N1,N2,N3,N4,N5,N6,N7,I1,I2,I3,I4,L1,e106,Tryz.f106,hn,h]
def sameB (x y:VO):Bool :=decide (x.kind = y.kind) && (decide (x.name = y.name) && (decide (x.version = y.version) && (decide (x.born = y.born) && (decide (x.text = y.text) && ((x.ending == y.ending) && decide (x.holds = y.holds))))))
theorem k73 (x y:VO) (hl:x.holds.length ≤ 4194304) (hm:y.holds.length ≤ 4194304):EV Tryz.prog E 73 [.val 0 true (VO.c .shr x),.val 0 true (VO.c .shr y)] = some ⟨[(false,[.p (.bool (sameB x y))])],[]⟩ :=by
 refine EV_intro Tryz.func73 rfl ?_
 have h :=k106 x.holds y.holds hl hm
 unfold sameB
 by_cases c1:x.kind = y.kind
 case neg =>simp only [rA,↓reduceIte,reduceCtorEq,N1,N2,N3,N4,N5,N6,N7,I1,I2,I3,I4,L1,e73,e106,Tryz.f73,VO.c,c1]
 by_cases c2:x.name = y.name
 case neg =>simp only [rA,↓reduceIte,reduceCtorEq,N1,N2,N3,N4,N5,N6,N7,I1,I2,I3,I4,L1,e73,e106,Tryz.f73,VO.c,c1,c2]
 by_cases c3:x.version = y.version
 case neg =>simp only [rA,↓reduceIte,reduceCtorEq,N1,N2,N3,N4,N5,N6,N7,I1,I2,I3,I4,L1,e73,e106,Tryz.f73,VO.c,c1,c2,c3]
 by_cases c4:x.born = y.born
 case neg =>simp only [rA,↓reduceIte,reduceCtorEq,N1,N2,N3,N4,N5,N6,N7,I1,I2,I3,I4,L1,e73,e106,Tryz.f73,VO.c,c1,c2,c3,c4]
 by_cases c5:x.text = y.text
 case neg =>simp only [rA,↓reduceIte,reduceCtorEq,N1,N2,N3,N4,N5,N6,N7,I1,I2,I3,I4,L1,e73,e106,Tryz.f73,VO.c,c1,c2,c3,c4,c5]
 cases c6:x.ending == y.ending
 ·simp only [rA,↓reduceIte,reduceCtorEq,N1,N2,N3,N4,N5,N6,N7,I1,I2,I3,I4,L1,e73,e106,Tryz.f73,VO.c,c1,c2,c3,c4,c5,c6]
 ·simp only [rA,↓reduceIte,reduceCtorEq,N1,N2,N3,N4,N5,N6,N7,I1,I2,I3,I4,L1,e73,e106,Tryz.f73,VO.c,c1,c2,c3,c4,c5,c6,h]
theorem k101 (x y:VO) (hl:x.holds.length ≤ 4194304) (hm:y.holds.length ≤ 4194304):EV Tryz.prog E 101 [.val 0 true (VO.c .shr x),.val 0 true (VO.c .shr y)] = some ⟨[(false,[.p (.bool (sameB x y))])],[]⟩ :=by
 refine EV_intro Tryz.func101 rfl ?_
 unfold sameB
 by_cases c1:x.kind = y.kind
 case neg =>simp only [rA,↓reduceIte,reduceCtorEq,N1,N2,N3,N4,N5,N6,N7,I1,I2,I3,I4,L1,e101,Tryz.f101,VO.c,c1]
 by_cases c2:x.name = y.name
 case neg =>simp only [rA,↓reduceIte,reduceCtorEq,N1,N2,N3,N4,N5,N6,N7,I1,I2,I3,I4,L1,e101,Tryz.f101,VO.c,c1,c2]
 by_cases c3:x.version = y.version
 case neg =>simp only [rA,↓reduceIte,reduceCtorEq,N1,N2,N3,N4,N5,N6,N7,I1,I2,I3,I4,L1,e101,Tryz.f101,VO.c,c1,c2,c3]
 by_cases c4:x.born = y.born
 case neg =>simp only [rA,↓reduceIte,reduceCtorEq,N1,N2,N3,N4,N5,N6,N7,I1,I2,I3,I4,L1,e101,Tryz.f101,VO.c,c1,c2,c3,c4]
 by_cases c5:x.text = y.text
 case neg =>simp only [rA,↓reduceIte,reduceCtorEq,N1,N2,N3,N4,N5,N6,N7,I1,I2,I3,I4,L1,e101,Tryz.f101,VO.c,c1,c2,c3,c4,c5]
 cases c6:x.ending == y.ending
 ·simp only [rA,↓reduceIte,reduceCtorEq,N1,N2,N3,N4,N5,N6,N7,I1,I2,I3,I4,L1,e101,Tryz.f101,VO.c,c1,c2,c3,c4,c5,c6]
 by_cases hn:(x.holds.length:Int) = (y.holds.length:Int)
 case neg =>
  have h:¬ x.holds = y.holds :=fun e =>hn (by rw [e])
  simp only [rA,↓reduceIte,reduceCtorEq,N1,N2,N3,N4,N5,N6,N7,I1,I2,I3,I4,L1,e101,Tryz.f101,VO.c,c1,c2,c3,c4,c5,c6,hn,h]
 simp only [rA,↓reduceIte,reduceCtorEq,N1,N2,N3,N4,N5,N6,N7,I1,I2,I3,I4,L1,e101,Tryz.f101,VO.c,c1,c2,c3,c4,c5,c6,hn]
 rw [for_block x.holds (fun i (_:Unit) =>⟨3,[(2,.box 0 0 (x.c .shr)),(3,.box 1 1 (y.c .shr)),(5,.val 2 false [.p (.int .i64 i)])]⟩) (fun i _ =>True)
   (fun r i a =>if r = y.holds.drop i then .norm ⟨0,[]⟩ else .ret ⟨[(false,[.p (.bool false)])],[]⟩) ?_ ?_ (a :=()) trivial (by simp only [rA,↓reduceIte,reduceCtorEq,N1,N2,N3,N4,N5,N6,N7,I1,I2,I3,I4,L1,e101,VO.c,c1,c2,c3,c4,c5]; rfl)]
 ·by_cases h:x.holds = y.holds
  ·simp only [rA,↓reduceIte,reduceCtorEq,N1,N2,N3,N4,N5,N6,N7,I1,I2,I3,I4,L1,e101,h]
  ·simp only [rA,↓reduceIte,reduceCtorEq,N1,N2,N3,N4,N5,N6,N7,I1,I2,I3,I4,L1,e101,h]
 ·intro i e r a hd hi _
  have hlen :=(List.getElem?_eq_some_iff.1 hi).1
  have hlt:((i:Int) < (x.holds.length:Int)) :=by omega
  have hr :=getElem?_map_some (f :=strC) hi
  have hi0:(0:Int) ≤ (i:Int) :=by omega
  have hy:y.holds[i]? = some (y.holds[i]'(by omega)) :=List.getElem?_eq_getElem (by omega)
  have hd2:y.holds.drop i = y.holds[i]'(by omega) :: y.holds.drop (i + 1) :=List.drop_eq_getElem_cons (by omega)
  generalize y.holds[i]'(by omega) = u at hy hd2
  have hry :=getElem?_map_some (f :=strC) hy
  have hwi :=wrap64 (n :=(i:Int) + 1) (by omega) (by omega)
  by_cases d1:e = u
  ·left
   refine ⟨(),?_,trivial,by rw [hd2,d1]; simp⟩
   simp only [rA,↓reduceIte,reduceCtorEq,N1,N2,N3,N4,N5,N6,N7,I1,I2,I3,I4,L1,e101,VO.c,hlt,hr,hi0,hry,d1,strC,hwi,i64c]
  ·right
   have hf:¬ (e :: r = y.holds.drop i) :=by rw [hd2]; intro e; exact d1 (List.cons.inj e).1
   simp only [rA,↓reduceIte,reduceCtorEq,N1,N2,N3,N4,N5,N6,N7,I1,I2,I3,I4,L1,e101,VO.c,hlt,hr,hi0,hry,d1,strC,hwi,i64c,hf]
 ·intro a _
  have e2:y.holds.drop x.holds.length = [] :=List.drop_eq_nil_of_le (by omega)
  simp only [rA,↓reduceIte,reduceCtorEq,N1,N2,N3,N4,N5,N6,N7,I1,I2,I3,I4,L1,e101,VO.c,e2]
def creaB (x:VC):Bool :=!x.gone && decide (x.object.born = x.version)
theorem k100 (x:VC):EV Tryz.prog E 100 [.val 0 true (VC.c .shr x)] = some ⟨[(false,[.p (.bool (creaB x))])],[]⟩ :=by
 refine EV_intro Tryz.func100 rfl ?_
 unfold creaB
 cases h:x.gone
 ·simp only [rA,↓reduceIte,reduceCtorEq,N1,N2,N3,N4,N5,N6,N7,I1,I2,I3,I4,L1,e100,Tryz.f100,VC.c,h]
 ·simp only [rA,↓reduceIte,reduceCtorEq,N1,N2,N3,N4,N5,N6,N7,I1,I2,I3,I4,L1,e100,Tryz.f100,VC.c,h]
def lastF (h:List VC) (o:VO):Nat → Int
 | 0 =>-1
 | n + 1 =>match h[n]? with
  | some c =>if keyO c.object o = 0 then n else lastF h o n
  | none =>-1
theorem k99 (h:List VC) (o:VO) (n:Nat) (hn:n ≤ h.length) (hl:h.length ≤ 4194304):EV Tryz.prog E 99 [.val 0 false [.sl .shr 9 (h.map (VC.c .shr))],.val 0 true (VO.c .shr o),.val 0 false [.p (.int .i64 n)]] = some ⟨[(false,[.p (.int .i64 (lastF h o n))])],[]⟩ :=by
 refine EV_intro Tryz.func99 rfl ?_
 have hw0 :=wrap64 (n :=(n:Int) - 1) (by omega) (by omega)
 simp only [rA,↓reduceIte,reduceCtorEq,N1,N2,N3,N4,N5,N6,N7,I1,I2,I3,I4,L1,e99,Tryz.f99,VO.c,hw0]
 rw [while_block (fun i:Nat =>⟨3,[(0,.val 0 false [.sl .shr 9 (h.map (VC.c .shr))]),(4,.box 1 1 (o.c .shr)),(7,.val 2 false [.p (.int .i64 ((i:Int) - 1))])]⟩) (fun i =>i ≤ n)
  (fun i =>if lastF h o i < 0 then .norm ⟨0,[]⟩ else .ret ⟨[(false,[.p (.int .i64 (lastF h o i))])],[]⟩) (fun i =>i) ?_ (i :=n) (Nat.le_refl n) (by simp only [rA,↓reduceIte,reduceCtorEq,N1,N2,N3,N4,N5,N6,N7,I1,I2,I3,I4,L1,e99,VO.c])]
 ·by_cases hh:lastF h o n < 0
  ·have e:lastF h o n = -1 :=by
    have:∀ n,lastF h o n < 0 → lastF h o n = -1 :=by
     intro n
     induction n with
     | zero =>intro _; rfl
     | succ n ih =>
      intro e
      unfold lastF at e ⊢
      split at e
      ·split at e
       ·omega
       ·rename_i hc hk
        rw [if_neg hk]
        exact ih e
      ·rfl
    exact this n hh
   simp only [rA,↓reduceIte,reduceCtorEq,N1,N2,N3,N4,N5,N6,N7,I1,I2,I3,I4,L1,e99,hh,e]
  ·simp only [rA,↓reduceIte,reduceCtorEq,N1,N2,N3,N4,N5,N6,N7,I1,I2,I3,I4,L1,e99,hh]
 ·intro i hi
  cases i with
  | zero =>
   right
   have e0:lastF h o 0 = -1 :=rfl
   have e1:((0:Nat):Int) - 1 = -1 :=rfl
   simp only [rA,↓reduceIte,reduceCtorEq,N1,N2,N3,N4,N5,N6,N7,I1,I2,I3,I4,L1,e99,VO.c,e0,e1]
  | succ j =>
   have hj:h[j]? = some (h[j]'(by omega)) :=List.getElem?_eq_getElem (by omega)
   generalize h[j]'(by omega) = c at hj
   have hr :=getElem?_map_some (f :=VC.c .shr) hj
   have hs:(j:Int) + 1 - 1 = j :=by omega
   have hj0:(0:Int) ≤ (j:Int) :=by omega
   have hwj :=wrap64 (n :=(j:Int) - 1) (by omega) (by omega)
   have hk :=k98 c.object o
   simp only [VO.c,VC.c] at hk hr
   have hl1:lastF h o (j + 1) = if keyO c.object o = 0 then (j:Int) else lastF h o j :=by simp [lastF,hj]
   by_cases d:keyO c.object o = 0
   ·right
    have hn0:¬ ((j:Int) < 0) :=by omega
    rw [hl1,if_pos d]
    simp only [rA,↓reduceIte,reduceCtorEq,N1,N2,N3,N4,N5,N6,N7,I1,I2,I3,I4,L1,e99,e98,VO.c,VC.c,i64c,hs,hj0,hr,hk,d,hn0]
   ·left
    refine ⟨j,?_,by omega,by omega,by rw [hl1,if_neg d]⟩
    simp only [rA,↓reduceIte,reduceCtorEq,N1,N2,N3,N4,N5,N6,N7,I1,I2,I3,I4,L1,e99,e98,VO.c,VC.c,i64c,hs,hj0,hr,hk,d,hwj]
def objAt (b:VBook) (i:Nat) (x:VO):Bool :=partsB x b.now && (!(x.ending && decide ((x.holds.length:Int) = 0)) && ((match prevO b.objects i with | none =>true | some p =>decide (keyO p x < 0)) && (b.objects.take i).all fun y =>!decide (y.version = x.version)))
def objsF (b:VBook):Nat → List VO → Bool
 | _,[] =>true
 | i,x :: r =>objAt b i x && objsF b (i + 1) r
theorem k58 (b:VBook) (hw:b.w ≤ 4194304):EV Tryz.prog E 58 [.val 0 true (b.c .shr)] = some ⟨[(false,[.p (.bool (decide ((b.objects.length:Int) ≤ 100) && objsF b 0 b.objects))])],[]⟩ :=by
 refine EV_intro Tryz.func58 rfl ?_
 have hll:b.objects.length ≤ 4194304 :=by unfold VBook.w wSBookObject at hw; omega
 by_cases c0:(100:Int) < (b.objects.length:Int)
 ·have c0':¬ (b.objects.length:Int) ≤ 100 :=by omega
  simp only [rA,↓reduceIte,reduceCtorEq,N1,N2,N3,N4,N5,N6,N7,I1,I2,I3,I4,L1,e58,Tryz.f58,VBook.c,c0,c0']
 have c0':(b.objects.length:Int) ≤ 100 :=by omega
 simp only [rA,↓reduceIte,reduceCtorEq,N1,N2,N3,N4,N5,N6,N7,I1,I2,I3,I4,L1,e58,Tryz.f58,VBook.c,c0,c0']
 rw [for_block b.objects (fun i (_:Unit) =>⟨2,[(1,.box 0 0 (b.c .shr)),(3,.val 1 false [.p (.int .i64 i)])]⟩) (fun i _ =>True)
  (fun r i a =>if objsF b i r = true then .norm ⟨0,[]⟩ else .ret ⟨[(false,[.p (.bool false)])],[]⟩) ?_ ?_ (a :=()) trivial (by simp only [rA,↓reduceIte,reduceCtorEq,N1,N2,N3,N4,N5,N6,N7,I1,I2,I3,I4,L1,e58,VBook.c]; rfl)]
 ·cases h:objsF b 0 b.objects
  ·simp only [rA,↓reduceIte,reduceCtorEq,N1,N2,N3,N4,N5,N6,N7,I1,I2,I3,I4,L1,e58,h]
  ·simp only [rA,↓reduceIte,reduceCtorEq,N1,N2,N3,N4,N5,N6,N7,I1,I2,I3,I4,L1,e58,h]
 ·intro i x r a hd hi _
  have hlen :=(List.getElem?_eq_some_iff.1 hi).1
  have hlt:((i:Int) < (b.objects.length:Int)) :=by omega
  have hr :=getElem?_map_some (f :=VO.c .shr) hi
  have hi0:(0:Int) ≤ (i:Int) :=by omega
  have hwi :=wrap64 (n :=(i:Int) + 1) (by omega) (by omega)
  have hxw :=sum_obj_le (List.mem_of_getElem? hi)
  have hxl:x.holds.length ≤ 4194304 :=holds_le (n :=4194304) (by unfold VBook.w wSBookObject at hw; omega)
  have h1 :=k97 x b.now hxl
  simp only [VO.c] at h1 hr
  by_cases hA:partsB x b.now = true ∧ ¬ (x.ending = true ∧ (x.holds.length:Int) = 0) ∧ (match prevO b.objects i with | none =>true | some p =>decide (keyO p x < 0)) = true
  case neg =>
   right
   have hf:objAt b i x = false :=by
    unfold objAt
    cases e1:partsB x b.now
    ·rfl
    cases e2:x.ending <;> by_cases e3:(x.holds.length:Int) = 0 <;> simp_all
   have hf':objsF b i (x :: r) = false :=by simp [objsF,hf]
   cases c1:partsB x b.now
   ·rw [c1] at h1
    simp only [rA,↓reduceIte,reduceCtorEq,N1,N2,N3,N4,N5,N6,N7,I1,I2,I3,I4,L1,e58,e97,VBook.c,VO.c,hlt,hr,hi0,h1,hf']
   rw [c1] at h1
   by_cases c2:x.ending = true ∧ (x.holds.length:Int) = 0
   ·obtain ⟨c2,c3⟩ :=c2
    simp only [c2] at h1 hr
    simp only [rA,↓reduceIte,reduceCtorEq,N1,N2,N3,N4,N5,N6,N7,I1,I2,I3,I4,L1,e58,e97,VBook.c,VO.c,hlt,hr,hi0,h1,hf',c2,c3]
   ·rcases prevO_cases b.objects (Nat.le_of_lt hlen) hll with ⟨h0,hp⟩ | ⟨p,h0,hj0,hw2,hj,hp⟩
    ·rw [hp] at hA
     exact absurd ⟨c1,c2,rfl⟩ hA
    ·have hk:¬ keyO p x < 0 :=fun e =>hA ⟨c1,c2,by rw [hp]; simpa using e⟩
     have hk':0 ≤ keyO p x :=by omega
     have hrj :=getElem?_map_some (f :=VO.c .shr) hj
     have h2 :=k98 p x
     simp only [VO.c] at h2 hrj
     cases c3:x.ending
     ·simp only [c3] at h1 hr h2
      simp only [rA,↓reduceIte,reduceCtorEq,N1,N2,N3,N4,N5,N6,N7,I1,I2,I3,I4,L1,e58,e97,e98,VBook.c,VO.c,hlt,hr,hi0,h1,hf',c3,h0,hj0,hw2,hrj,h2,hk']
     ·have c4:¬ (x.holds.length:Int) = 0 :=fun e =>c2 ⟨c3,e⟩
      simp only [c3] at h1 hr h2
      simp only [rA,↓reduceIte,reduceCtorEq,N1,N2,N3,N4,N5,N6,N7,I1,I2,I3,I4,L1,e58,e97,e98,VBook.c,VO.c,hlt,hr,hi0,h1,hf',c3,c4,h0,hj0,hw2,hrj,h2,hk']
  case pos =>
   obtain ⟨c1,c2,c3⟩ :=hA
   rw [c1] at h1
   have hin:∀ (s:St),mask [1,3,4,5] s = ⟨4,[(1,.box 0 0 (b.c .shr)),(3,.val 1 false [.p (.int .i64 i)]),(4,.box 2 2 (x.c .shr)),(5,.val 3 false [.p (.int .i64 0)])]⟩ →
     True :=fun _ _ =>trivial
   have hf0:objAt b i x = (b.objects.take i).all fun y =>!decide (y.version = x.version) :=by
    unfold objAt
    rw [c1,c3]
    cases e2:x.ending <;> by_cases e3:(x.holds.length:Int) = 0 <;> simp_all
   have htl:(b.objects.take i).length = i :=by rw [List.length_take]; omega
   have e4:¬ (x.ending = true ∧ (x.holds.length:Int) = 0) :=c2
   have hout:objsF b i (x :: r) = ((b.objects.take i).all (fun y =>!decide (y.version = x.version)) && objsF b (i + 1) r) :=by rw [objsF,hf0]
   have IL:∀ (F:Fr) (g:St → Option O),(∀ k y,k < i → (b.objects)[k]? = some y → nxtB F 2 [1,3,4,5] (g ⟨4,[(1,.box 0 0 (b.c .shr)),(3,.val 1 false [.p (.int .i64 i)]),(4,.box 2 2 (x.c .shr)),(5,.val 3 false [.p (.int .i64 k)])]⟩) =
      some (if y.version = x.version then .inr (.ret ⟨[(false,[.p (.bool false)])],[]⟩) else .inl ⟨4,[(1,.box 0 0 (b.c .shr)),(3,.val 1 false [.p (.int .i64 i)]),(4,.box 2 2 (x.c .shr)),(5,.val 3 false [.p (.int .i64 ((k:Int) + 1))])]⟩)) →
     nxtB F 2 [1,3,4,5] (g ⟨4,[(1,.box 0 0 (b.c .shr)),(3,.val 1 false [.p (.int .i64 i)]),(4,.box 2 2 (x.c .shr)),(5,.val 3 false [.p (.int .i64 i)])]⟩) = some (.inr (.norm ⟨2,[(1,.box 0 0 (b.c .shr)),(3,.val 1 false [.p (.int .i64 i)])]⟩)) →
     ∀ s,mask [1,3,4,5] s = ⟨4,[(1,.box 0 0 (b.c .shr)),(3,.val 1 false [.p (.int .i64 i)]),(4,.box 2 2 (x.c .shr)),(5,.val 3 false [.p (.int .i64 0)])]⟩ →
     blockO F 2 (itω [1,3,4,5] g s) = some (if (b.objects.take i).all (fun y =>!decide (y.version = x.version)) = true then .norm ⟨2,[(1,.box 0 0 (b.c .shr)),(3,.val 1 false [.p (.int .i64 i)])]⟩ else .ret ⟨[(false,[.p (.bool false)])],[]⟩) :=by
    intro F g hst hen s hs
    refine for_block (b.objects.take i) (fun k (_:Unit) =>⟨4,[(1,.box 0 0 (b.c .shr)),(3,.val 1 false [.p (.int .i64 i)]),(4,.box 2 2 (x.c .shr)),(5,.val 3 false [.p (.int .i64 k)])]⟩) (fun _ _ =>True)
     (fun r k a =>if r.all (fun y =>!decide (y.version = x.version)) = true then .norm ⟨2,[(1,.box 0 0 (b.c .shr)),(3,.val 1 false [.p (.int .i64 i)])]⟩ else .ret ⟨[(false,[.p (.bool false)])],[]⟩) ?_ ?_ (a :=()) trivial hs
    ·intro k y q a hd hk _
     have hkl :=(List.getElem?_eq_some_iff.1 hk).1
     rw [htl] at hkl
     rw [List.getElem?_take_of_lt hkl] at hk
     have h :=hst k y hkl hk
     by_cases d:y.version = x.version
     ·right
      rw [h,if_pos d]
      simp [d]
     ·left
      refine ⟨(),?_,trivial,by simp [d]⟩
      rw [h,if_neg d]
      simp
    ·intro a _
     rw [htl]
     simpa using hen
   simp only [VBook.c,VO.c] at IL
   have hstep:∀ (e:Bool) (k:Nat) (y:VO),k < i → b.objects[k]? = some y → (k:Int) < i ∧ (0:Int) ≤ k ∧ IntKind.i64.wrap ((k:Int) + 1) = (k:Int) + 1 ∧ (b.objects.map (VO.c .shr))[k]? = some (y.c .shr) :=
    fun e k y hk hy =>⟨by omega,by omega,wrap64 (by omega) (by omega),getElem?_map_some hy⟩
   have cc:∃ e,x.ending = e ∧ (e = false ∧ True ∨ e = true ∧ ¬ (x.holds.length:Int) = 0) :=by
    cases c4:x.ending
    ·exact ⟨false,rfl,.inl ⟨rfl,trivial⟩⟩
    ·exact ⟨true,rfl,.inr ⟨rfl,fun e =>c2 ⟨c4,e⟩⟩⟩
   obtain ⟨e,c4,⟨rfl,c5⟩ | ⟨rfl,c5⟩⟩ :=cc
   all_goals (simp only [c4] at h1 hr IL)
   all_goals (rcases prevO_cases b.objects (Nat.le_of_lt hlen) hll with ⟨h0,hp⟩ | ⟨p,h0,hj0,hw2,hj,hp⟩)
   all_goals (first
    | (have hrj :=getElem?_map_some (f :=VO.c .shr) hj; have h2 :=k98 p x; have hk:¬ 0 ≤ keyO p x :=(by rw [hp] at c3; have :=of_decide_eq_true c3; omega); simp only [VO.c,c4] at h2 hrj; simp only [rA,↓reduceIte,reduceCtorEq,N1,N2,N3,N4,N5,N6,N7,I1,I2,I3,I4,L1,e58,e97,e98,VBook.c,VO.c,hlt,hr,hi0,h1,c4,c5,h0,hj0,hw2,hrj,h2,hk])
    | simp only [rA,↓reduceIte,reduceCtorEq,N1,N2,N3,N4,N5,N6,N7,I1,I2,I3,I4,L1,e58,e97,VBook.c,VO.c,hlt,hr,hi0,h1,c4,c5,h0])
   all_goals (rw [IL _ _ (by
     intro k y hk hy
     obtain ⟨q1,q2,q3,q4⟩ :=hstep true k y hk hy
     simp only [VO.c] at q4
     by_cases d:y.version = x.version
     ·simp only [rA,↓reduceIte,reduceCtorEq,N1,N2,N3,N4,N5,N6,N7,I1,I2,I3,I4,L1,e58,VBook.c,VO.c,q1,q2,q3,q4,d]
     ·simp only [rA,↓reduceIte,reduceCtorEq,N1,N2,N3,N4,N5,N6,N7,I1,I2,I3,I4,L1,e58,VBook.c,VO.c,q1,q2,q3,q4,d]) (by simp only [rA,↓reduceIte,reduceCtorEq,N1,N2,N3,N4,N5,N6,N7,I1,I2,I3,I4,L1,e58,VBook.c,VO.c]) _ (by simp only [rA,↓reduceIte,reduceCtorEq,N1,N2,N3,N4,N5,N6,N7,I1,I2,I3,I4,L1,e58,VBook.c,VO.c])])
   all_goals (cases d:(b.objects.take i).all fun y =>!decide (y.version = x.version))
   all_goals first
    | (right; simp only [rA,↓reduceIte,reduceCtorEq,N1,N2,N3,N4,N5,N6,N7,I1,I2,I3,I4,L1,e58,VBook.c,hout,d,hwi]; done)
    | (left; refine ⟨(),?_,trivial,by rw [hout,d,Bool.true_and]⟩; simp only [rA,↓reduceIte,reduceCtorEq,N1,N2,N3,N4,N5,N6,N7,I1,I2,I3,I4,L1,e58,VBook.c,hout,d,hwi,i64c]; done)
 ·intro a _
  simp only [rA,↓reduceIte,reduceCtorEq,N1,N2,N3,N4,N5,N6,N7,I1,I2,I3,I4,L1,e58,VBook.c,objsF]
def ahead (p:Option VT) (x:VT):Bool :=match p with
 | none =>true
 | some p =>Op.bytesLess p.client.toList x.client.toList
def tick1 (now:Int) (p:Option VT) (x:VT):Bool :=nameB x.client && (ahead p x && (inR x.number 1 1000000 && (decide ((x.print.size:Int) = 8) && (inR x.code 0 9 && inR x.version 0 now))))
def tickF (now:Int):Option VT → List VT → Bool
 | _,[] =>true
 | p,x :: r =>tick1 now p x && tickF now (some x) r
theorem k60 (b:VBook) (hw:b.w ≤ 4194304):EV Tryz.prog E 60 [.val 0 true (b.c .shr)] = some ⟨[(false,[.p (.bool (decide ((b.tickets.length:Int) ≤ 50) && tickF b.now none b.tickets))])],[]⟩ :=by
 refine EV_intro Tryz.func60 rfl ?_
 have hll:b.tickets.length ≤ 4194304 :=by unfold VBook.w wSBookTicket at hw; omega
 by_cases c0:(50:Int) < (b.tickets.length:Int)
 ·have c0':¬ (b.tickets.length:Int) ≤ 50 :=by omega
  simp only [rA,↓reduceIte,reduceCtorEq,N1,N2,N3,N4,N5,N6,N7,I1,I2,I3,I4,L1,e60,Tryz.f60,VBook.c,c0,c0']
 have c0':(b.tickets.length:Int) ≤ 50 :=by omega
 simp only [rA,↓reduceIte,reduceCtorEq,N1,N2,N3,N4,N5,N6,N7,I1,I2,I3,I4,L1,e60,Tryz.f60,VBook.c,c0,c0']
 rw [for_block b.tickets (fun i (_:Unit) =>⟨2,[(1,.box 0 0 (b.c .shr)),(3,.val 1 false [.p (.int .i64 i)])]⟩) (fun i _ =>True)
  (fun r i a =>if tickF b.now (prevO b.tickets i) r = true then .norm ⟨0,[]⟩ else .ret ⟨[(false,[.p (.bool false)])],[]⟩) ?_ ?_ (a :=()) trivial (by simp only [rA,↓reduceIte,reduceCtorEq,N1,N2,N3,N4,N5,N6,N7,I1,I2,I3,I4,L1,e60,VBook.c]; rfl)]
 ·cases h:tickF b.now none b.tickets
  ·simp only [rA,↓reduceIte,reduceCtorEq,N1,N2,N3,N4,N5,N6,N7,I1,I2,I3,I4,L1,e60,h,prevO]
  ·simp only [rA,↓reduceIte,reduceCtorEq,N1,N2,N3,N4,N5,N6,N7,I1,I2,I3,I4,L1,e60,h,prevO]
 ·intro i x r a hd hi _
  have hlen :=(List.getElem?_eq_some_iff.1 hi).1
  have hlt:((i:Int) < (b.tickets.length:Int)) :=by omega
  have hr :=getElem?_map_some (f :=VT.c) hi
  have hi0:(0:Int) ≤ (i:Int) :=by omega
  have hwi :=wrap64 (n :=(i:Int) + 1) (by omega) (by omega)
  have hp':prevO b.tickets (i + 1) = some x :=hi
  have h1 :=k61 x.client
  have h2 :=k57 x.number 1 1000000
  have h3 :=k57 x.code 0 9
  have h4 :=k57 x.version 0 b.now
  simp only [VT.c] at hr
  have hF:tickF b.now (prevO b.tickets i) (x :: r) = (tick1 b.now (prevO b.tickets i) x && tickF b.now (some x) r) :=rfl
  cases c1:nameB x.client
  ·right
   have hf:tick1 b.now (prevO b.tickets i) x = false :=by simp [tick1,c1]
   rw [hf,Bool.false_and] at hF
   simp only [rA,↓reduceIte,reduceCtorEq,N1,N2,N3,N4,N5,N6,N7,I1,I2,I3,I4,L1,e60,e61,e57,VBook.c,VT.c,hlt,hr,hi0,h1,c1,hF]
  rcases prevO_cases b.tickets (Nat.le_of_lt hlen) hll with ⟨h0,hp⟩ | ⟨p,h0,hj0,hw2,hj,hp⟩
  ·cases c2:inR x.number 1 1000000
   ·right
    have hf:tick1 b.now (prevO b.tickets i) x = false :=by simp [tick1,c1,hp,ahead,c2]
    rw [hf,Bool.false_and] at hF
    simp only [rA,↓reduceIte,reduceCtorEq,N1,N2,N3,N4,N5,N6,N7,I1,I2,I3,I4,L1,e60,e61,e57,VBook.c,VT.c,hlt,hr,hi0,h1,c1,h0,h2,c2,hF]
   by_cases c3:(x.print.size:Int) = 8
   case neg =>
    right
    have hf:tick1 b.now (prevO b.tickets i) x = false :=by simp [tick1,c1,hp,ahead,c2,c3]
    rw [hf,Bool.false_and] at hF
    simp only [rA,↓reduceIte,reduceCtorEq,N1,N2,N3,N4,N5,N6,N7,I1,I2,I3,I4,L1,e60,e61,e57,VBook.c,VT.c,hlt,hr,hi0,h1,c1,h0,h2,c2,c3,hF]
   cases c4:inR x.code 0 9
   ·right
    have hf:tick1 b.now (prevO b.tickets i) x = false :=by simp [tick1,c1,hp,ahead,c2,c3,c4]
    rw [hf,Bool.false_and] at hF
    simp only [rA,↓reduceIte,reduceCtorEq,N1,N2,N3,N4,N5,N6,N7,I1,I2,I3,I4,L1,e60,e61,e57,VBook.c,VT.c,hlt,hr,hi0,h1,c1,h0,h2,c2,c3,h3,c4,hF]
   cases c5:inR x.version 0 b.now
   ·right
    have hf:tick1 b.now (prevO b.tickets i) x = false :=by simp [tick1,c1,hp,ahead,c2,c3,c4,c5]
    rw [hf,Bool.false_and] at hF
    simp only [rA,↓reduceIte,reduceCtorEq,N1,N2,N3,N4,N5,N6,N7,I1,I2,I3,I4,L1,e60,e61,e57,VBook.c,VT.c,hlt,hr,hi0,h1,c1,h0,h2,c2,c3,h3,c4,h4,c5,hF]
   ·left
    have hf:tick1 b.now (prevO b.tickets i) x = true :=by simp [tick1,c1,hp,ahead,c2,c3,c4,c5]
    rw [hf,Bool.true_and] at hF
    refine ⟨(),?_,trivial,by rw [hF,hp']⟩
    simp only [rA,↓reduceIte,reduceCtorEq,N1,N2,N3,N4,N5,N6,N7,I1,I2,I3,I4,L1,e60,e61,e57,VBook.c,VT.c,hlt,hr,hi0,h1,c1,h0,h2,c2,c3,h3,c4,h4,c5,hwi,i64c]
  ·have hrj :=getElem?_map_some (f :=VT.c) hj
   simp only [VT.c] at hrj
   cases c6:Op.bytesLess p.client.toList x.client.toList
   ·right
    have hf:tick1 b.now (prevO b.tickets i) x = false :=by simp [tick1,c1,hp,ahead,c6]
    rw [hf,Bool.false_and] at hF
    simp only [rA,↓reduceIte,reduceCtorEq,N1,N2,N3,N4,N5,N6,N7,I1,I2,I3,I4,L1,e60,e61,e57,VBook.c,VT.c,hlt,hr,hi0,h1,c1,h0,hj0,hw2,hrj,c6,hF]
   cases c2:inR x.number 1 1000000
   ·right
    have hf:tick1 b.now (prevO b.tickets i) x = false :=by simp [tick1,c1,hp,ahead,c6,c2]
    rw [hf,Bool.false_and] at hF
    simp only [rA,↓reduceIte,reduceCtorEq,N1,N2,N3,N4,N5,N6,N7,I1,I2,I3,I4,L1,e60,e61,e57,VBook.c,VT.c,hlt,hr,hi0,h1,c1,h0,hj0,hw2,hrj,c6,h2,c2,hF]
   by_cases c3:(x.print.size:Int) = 8
   case neg =>
    right
    have hf:tick1 b.now (prevO b.tickets i) x = false :=by simp [tick1,c1,hp,ahead,c6,c2,c3]
    rw [hf,Bool.false_and] at hF
    simp only [rA,↓reduceIte,reduceCtorEq,N1,N2,N3,N4,N5,N6,N7,I1,I2,I3,I4,L1,e60,e61,e57,VBook.c,VT.c,hlt,hr,hi0,h1,c1,h0,hj0,hw2,hrj,c6,h2,c2,c3,hF]
   cases c4:inR x.code 0 9
   ·right
    have hf:tick1 b.now (prevO b.tickets i) x = false :=by simp [tick1,c1,hp,ahead,c6,c2,c3,c4]
    rw [hf,Bool.false_and] at hF
    simp only [rA,↓reduceIte,reduceCtorEq,N1,N2,N3,N4,N5,N6,N7,I1,I2,I3,I4,L1,e60,e61,e57,VBook.c,VT.c,hlt,hr,hi0,h1,c1,h0,hj0,hw2,hrj,c6,h2,c2,c3,h3,c4,hF]
   cases c5:inR x.version 0 b.now
   ·right
    have hf:tick1 b.now (prevO b.tickets i) x = false :=by simp [tick1,c1,hp,ahead,c6,c2,c3,c4,c5]
    rw [hf,Bool.false_and] at hF
    simp only [rA,↓reduceIte,reduceCtorEq,N1,N2,N3,N4,N5,N6,N7,I1,I2,I3,I4,L1,e60,e61,e57,VBook.c,VT.c,hlt,hr,hi0,h1,c1,h0,hj0,hw2,hrj,c6,h2,c2,c3,h3,c4,h4,c5,hF]
   ·left
    have hf:tick1 b.now (prevO b.tickets i) x = true :=by simp [tick1,c1,hp,ahead,c6,c2,c3,c4,c5]
    rw [hf,Bool.true_and] at hF
    refine ⟨(),?_,trivial,by rw [hF,hp']⟩
    simp only [rA,↓reduceIte,reduceCtorEq,N1,N2,N3,N4,N5,N6,N7,I1,I2,I3,I4,L1,e60,e61,e57,VBook.c,VT.c,hlt,hr,hi0,h1,c1,h0,hj0,hw2,hrj,c6,h2,c2,c3,h3,c4,h4,c5,hwi,i64c]
 ·intro a _
  simp only [rA,↓reduceIte,reduceCtorEq,N1,N2,N3,N4,N5,N6,N7,I1,I2,I3,I4,L1,e60,VBook.c,tickF]
theorem take_snoc {α:Type} {l:List α} {i:Nat} {x:α} (h:l[i]? = some x):l.take (i + 1) = l.take i ++ [x] :=by
 rw [List.take_add_one,h]; rfl
theorem lt_irrefl (a:List UInt8):Op.bytesLess a a = false :=by
 rw [bytesLess_eq]
 exact decide_eq_false (List.lt_irrefl a)
theorem lt_tri {a b:ByteArray} (h1:Op.bytesLess a.toList b.toList = false) (h2:Op.bytesLess b.toList a.toList = false):a = b :=by
 rw [bytesLess_eq] at h1 h2
 have e:a.toList = b.toList :=List.le_antisymm (List.not_lt.1 (of_decide_eq_false h2)) (List.not_lt.1 (of_decide_eq_false h1))
 rw [Lib.toList_data,Lib.toList_data] at e
 cases a; cases b
 simp only [ByteArray.mk.injEq]
 exact Array.toList_inj.1 e
theorem cmp_zero (a b:ByteArray):cmpS a b = 0 ↔ a = b :=by
 unfold cmpS
 constructor
 ·intro h
  split at h
  ·cases h
  ·split at h
   ·cases h
   ·rename_i h1 h2
    exact lt_tri (by simpa using h1) (by simpa using h2)
 ·rintro rfl
  rw [lt_irrefl]; rfl
theorem key_zero (x y:VO):keyO x y = 0 ↔ x.kind = y.kind ∧ x.name = y.name :=by
 unfold keyO keyI
 by_cases h:cmpS x.kind y.kind = 0
 ·rw [if_pos h,cmp_zero]
  exact ⟨fun e =>⟨(cmp_zero _ _).1 h,e⟩,fun e =>e.2⟩
 ·rw [if_neg h]
  exact ⟨fun e =>absurd e h,fun e =>absurd ((cmp_zero _ _).2 e.1) h⟩
end Go.Proofs.YtfpconipgllkkaaGreat
