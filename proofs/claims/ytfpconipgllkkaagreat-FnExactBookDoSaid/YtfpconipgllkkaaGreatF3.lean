/- Typed views of the book's structs; what the conversions compute (written by a program). -/
import Derived.Test.YtfpconipgllkkaaGreatTab3
import Derived.Test.YtfpconipgllkkaaGreatSxD
namespace Go.Proofs.YtfpconipgllkkaaGreat
open Go.Sx
open Nat renaming reduceEqDiff → N1,reduceAdd → N2,reduceSub → N3,reduceMul → N4,reduceLeDiff → N5,reduceBEq → N6,reduceLT → N7
open Int renaming reduceLT → I1,reduceNeg → I2,reduceLE → I3,reduceEq → I4
open List renaming reduceReplicate → L1
set_option maxRecDepth 100000
set_option maxHeartbeats 4000000
set_option linter.unusedVariables false
set_option linter.unusedSimpArgs false
def intC (n : Int) : List C :=[.p (.int .i64 n)]
def strC (s : ByteArray) : List C :=[.p (.string s)]
def boolC (b : Bool) : List C :=[.p (.bool b)]
def i64ok (n : Int) : Prop :=-9223372036854775808 ≤ n ∧ n ≤ 9223372036854775807
def subW (left : Int) (w : Nat) : Int :=if left < w then -1 else left - w
theorem subW_lt {left : Int} {w : Nat} (h : left < w) : subW left w = -1 :=if_pos h
theorem subW_ge {left : Int} {w : Nat} (h : ¬ left < w) : subW left w = left - w :=if_neg h
theorem rowsString (l : List ByteArray) : borRows (l.map strC) = l.map strC ∧ mineRows (l.map strC) = true ∧ wholeRows (l.map strC) = true ∧ allFreeRows (l.map strC) = true :=flat_rows strC (fun _ =>rfl) l

def sumWString : List ByteArray → Nat
  | [] =>0
  | x :: r =>x.size + sumWString r
def wSString (l : List ByteArray) : Nat :=l.length + sumWString l
structure VO where
  kind : ByteArray
  name : ByteArray
  version : Int
  born : Int
  text : ByteArray
  ending : Bool
  holds : List ByteArray
def VO.c (f : Fl) (x : VO) : List C :=[.p (.string x.kind),.p (.string x.name),.p (.int .i64 x.version),.p (.int .i64 x.born),.p (.string x.text),.p (.bool x.ending),.sl f 1 (x.holds.map strC)]
def VO.w (x : VO) : Nat :=x.kind.size + x.name.size + x.text.size + wSString x.holds
def VO.ok (x : VO) : Prop :=x.kind.size ≤ maxLen ∧ x.name.size ≤ maxLen ∧ i64ok x.version ∧ i64ok x.born ∧ x.text.size ≤ maxLen ∧ (x.holds.length ≤ maxLen ∧ ∀ e ∈ x.holds,e.size ≤ maxLen)
theorem rowBookObject (x : VO) : borRow (VO.c .own x) = VO.c .shr x ∧ mineRow (VO.c .own x) = true ∧ wholeRow (VO.c .own x) = true ∧ wholeRow (VO.c .shr x) = true ∧ allFree (VO.c .shr x) = true :=by
  refine ⟨?_,?_,?_,?_,?_⟩ <;> simp only [rA,↓reduceIte,reduceCtorEq,N1,N2,N3,N4,N5,N6,N7,I1,I2,I3,I4,L1,VO.c,rowsString,Fl.isShr,Fl.isOwn]
theorem rowsBookObject (l : List VO) : borRows (l.map (VO.c .own)) = l.map (VO.c .shr) ∧ mineRows (l.map (VO.c .own)) = true ∧ wholeRows (l.map (VO.c .own)) = true ∧ wholeRows (l.map (VO.c .shr)) = true ∧ allFreeRows (l.map (VO.c .shr)) = true :=rows_by (fun x =>(rowBookObject x).1) (fun x =>(rowBookObject x).2.1) (fun x =>(rowBookObject x).2.2.1) (fun x =>(rowBookObject x).2.2.2.1) (fun x =>(rowBookObject x).2.2.2.2) l
def sumWBookObject : List VO → Nat
  | [] =>0
  | x :: r =>x.w + sumWBookObject r
def wSBookObject (l : List VO) : Nat :=l.length + sumWBookObject l
theorem wSBookObject_mem {l : List VO} {x : VO} (h : x ∈ l) : x.w ≤ sumWBookObject l :=by
  induction l with
  | nil =>cases h
  | cons y r ih =>
    simp only [sumWBookObject]
    rcases List.mem_cons.1 h with rfl | h
    · omega
    · have :=ih h
      omega
structure VC where
  version : Int
  gone : Bool
  object : VO
def VC.c (f : Fl) (x : VC) : List C :=[.p (.int .i64 x.version),.p (.bool x.gone),.p (.string x.object.kind),.p (.string x.object.name),.p (.int .i64 x.object.version),.p (.int .i64 x.object.born),.p (.string x.object.text),.p (.bool x.object.ending),.sl f 1 (x.object.holds.map strC)]
def VC.w (x : VC) : Nat :=x.object.w
def VC.ok (x : VC) : Prop :=i64ok x.version ∧ x.object.ok
theorem rowBookChange (x : VC) : borRow (VC.c .own x) = VC.c .shr x ∧ mineRow (VC.c .own x) = true ∧ wholeRow (VC.c .own x) = true ∧ wholeRow (VC.c .shr x) = true ∧ allFree (VC.c .shr x) = true :=by
  refine ⟨?_,?_,?_,?_,?_⟩ <;> simp only [rA,↓reduceIte,reduceCtorEq,N1,N2,N3,N4,N5,N6,N7,I1,I2,I3,I4,L1,VC.c,rowsString,Fl.isShr,Fl.isOwn]
theorem rowsBookChange (l : List VC) : borRows (l.map (VC.c .own)) = l.map (VC.c .shr) ∧ mineRows (l.map (VC.c .own)) = true ∧ wholeRows (l.map (VC.c .own)) = true ∧ wholeRows (l.map (VC.c .shr)) = true ∧ allFreeRows (l.map (VC.c .shr)) = true :=rows_by (fun x =>(rowBookChange x).1) (fun x =>(rowBookChange x).2.1) (fun x =>(rowBookChange x).2.2.1) (fun x =>(rowBookChange x).2.2.2.1) (fun x =>(rowBookChange x).2.2.2.2) l
def sumWBookChange : List VC → Nat
  | [] =>0
  | x :: r =>x.w + sumWBookChange r
def wSBookChange (l : List VC) : Nat :=l.length + sumWBookChange l
theorem wSBookChange_mem {l : List VC} {x : VC} (h : x ∈ l) : x.w ≤ sumWBookChange l :=by
  induction l with
  | nil =>cases h
  | cons y r ih =>
    simp only [sumWBookChange]
    rcases List.mem_cons.1 h with rfl | h
    · omega
    · have :=ih h
      omega
structure VT where
  client : ByteArray
  number : Int
  print : ByteArray
  code : Int
  version : Int
def VT.c (x : VT) : List C :=[.p (.string x.client),.p (.int .i64 x.number),.p (.string x.print),.p (.int .i64 x.code),.p (.int .i64 x.version)]
def VT.w (x : VT) : Nat :=x.client.size + x.print.size
def VT.ok (x : VT) : Prop :=x.client.size ≤ maxLen ∧ i64ok x.number ∧ x.print.size ≤ maxLen ∧ i64ok x.code ∧ i64ok x.version
theorem rowsBookTicket (l : List VT) : borRows (l.map VT.c) = l.map VT.c ∧ mineRows (l.map VT.c) = true ∧ wholeRows (l.map VT.c) = true ∧ allFreeRows (l.map VT.c) = true :=flat_rows VT.c (fun _ =>rfl) l
def sumWBookTicket : List VT → Nat
  | [] =>0
  | x :: r =>x.w + sumWBookTicket r
def wSBookTicket (l : List VT) : Nat :=l.length + sumWBookTicket l
theorem wSBookTicket_mem {l : List VT} {x : VT} (h : x ∈ l) : x.w ≤ sumWBookTicket l :=by
  induction l with
  | nil =>cases h
  | cons y r ih =>
    simp only [sumWBookTicket]
    rcases List.mem_cons.1 h with rfl | h
    · omega
    · have :=ih h
      omega
structure VBook where
  now : Int
  floor : Int
  objects : List VO
  history : List VC
  tickets : List VT
def VBook.c (f : Fl) (x : VBook) : List C :=[.p (.int .i64 x.now),.p (.int .i64 x.floor),.sl f 7 (x.objects.map (VO.c f)),.sl f 9 (x.history.map (VC.c f)),.sl f 5 (x.tickets.map VT.c)]
def VBook.w (x : VBook) : Nat :=wSBookObject x.objects + wSBookChange x.history + wSBookTicket x.tickets
def VBook.ok (x : VBook) : Prop :=i64ok x.now ∧ i64ok x.floor ∧ (x.objects.length ≤ maxLen ∧ ∀ e ∈ x.objects,e.ok) ∧ (x.history.length ≤ maxLen ∧ ∀ e ∈ x.history,e.ok) ∧ (x.tickets.length ≤ maxLen ∧ ∀ e ∈ x.tickets,e.ok)
theorem k_szStringS (l : List ByteArray) (left : Int) (hx : l.length ≤ maxLen ∧ ∀ e ∈ l,e.size ≤ maxLen) (h0 : 0 ≤ left) (h1 : left ≤ 1048576) : EV Tryz.prog E 96 [.val 0 false [.sl .shr 1 (l.map strC)],.val 0 false [.p (.int .i64 left)]] = some ⟨[(false,[.p (.int .i64 (subW left (wSString l)))])],[]⟩ :=by
  refine EV_intro Tryz.func96 rfl ?_
  obtain ⟨hn,hl⟩ :=hx
  have hw :=wrap64 (n :=left - l.length) (by unfold maxLen at hn; omega) (by omega)
  by_cases hc : left - l.length < 0
  · have e : subW left (wSString l) = -1 :=subW_lt (by unfold wSString; omega)
    simp only [rA,↓reduceIte,reduceCtorEq,N1,N2,N3,N4,N5,N6,N7,I1,I2,I3,I4,L1,e96,Tryz.f96,hw,hc,e]
  · simp only [rA,↓reduceIte,reduceCtorEq,N1,N2,N3,N4,N5,N6,N7,I1,I2,I3,I4,L1,e96,Tryz.f96,hw,hc]
    rw [for_block l (fun i a =>⟨3,[(0,.val 0 false [.sl .shr 1 (l.map strC)]),(1,.val 1 false [.p (.int .i64 a)]),(5,.val 2 false [.p (.int .i64 i)])]⟩) (fun i a =>0 ≤ a ∧ a ≤ 1048576)
      (fun r i a =>if a < (sumWString r : Nat) then .ret ⟨[(false,[.p (.int .i64 (-1))])],[]⟩ else .norm ⟨1,[(1,.val 0 false [.p (.int .i64 (a - (sumWString r : Nat)))])]⟩) ?_ ?_ (a :=left - l.length) ⟨by omega,by omega⟩ (by simp only [rA,↓reduceIte,reduceCtorEq,N1,N2,N3,N4,N5,N6,N7,I1,I2,I3,I4,L1,e96]; rfl)]
    · by_cases hz : left - l.length < (sumWString l : Nat)
      · have e : subW left (wSString l) = -1 :=subW_lt (by unfold wSString; omega)
        simp only [rA,↓reduceIte,reduceCtorEq,N1,N2,N3,N4,N5,N6,N7,I1,I2,I3,I4,L1,e96,hz,e]
      · have e : subW left (wSString l) = left - l.length - (sumWString l : Nat) :=by rw [subW_ge (by unfold wSString; omega)]; unfold wSString; omega
        simp only [rA,↓reduceIte,reduceCtorEq,N1,N2,N3,N4,N5,N6,N7,I1,I2,I3,I4,L1,e96,hz,e]
    · intro i s r a hd hi ⟨ha,hb⟩
      have hlen :=(List.getElem?_eq_some_iff.1 hi).1
      have hlt : ((i : Int) < (l.length : Int)) :=by omega
      have hr :=getElem?_map_some (f :=strC) hi
      have hsz :=hl s (List.mem_of_getElem? hi)
      unfold maxLen at hn
      have hwi :=wrap64 (n :=(i : Int) + 1) (by omega) (by omega)
      have hi0 : (0 : Int) ≤ (i : Int) :=by omega
      simp only [strC] at hr
      have hw2 :=wrap64 (n :=a - s.size) (by unfold maxLen at hsz; omega) (by omega)
      by_cases hcs : a - s.size < 0
      · right
        have e : a < (sumWString (s :: r) : Nat) :=by simp only [sumWString]; omega
        simp only [rA,↓reduceIte,reduceCtorEq,N1,N2,N3,N4,N5,N6,N7,I1,I2,I3,I4,L1,e96,hlt,hr,hw2,hcs,hwi,hi0,e]
      · left
        refine ⟨a - s.size,?_,⟨by omega,by omega⟩,?_⟩
        · simp only [rA,↓reduceIte,reduceCtorEq,N1,N2,N3,N4,N5,N6,N7,I1,I2,I3,I4,L1,e96,hlt,hr,hw2,hcs,hwi,hi0,i64c]
        · have e1 : (a < (sumWString (s :: r) : Nat)) ↔ (a - (s.size : Nat) < (sumWString r : Nat)) :=by simp only [sumWString]; omega
          have e2 : a - (sumWString (s :: r) : Nat) = a - (s.size : Nat) - (sumWString r : Nat) :=by simp only [sumWString]; omega
          simp only [e1,e2]
    · intro a ⟨ha,hb⟩
      have e : ¬ (a < (sumWString [] : Nat)) :=by simp only [sumWString]; omega
      have e2 : a - (sumWString [] : Nat) = a :=by simp only [sumWString]; omega
      simp only [rA,↓reduceIte,reduceCtorEq,N1,N2,N3,N4,N5,N6,N7,I1,I2,I3,I4,L1,e96,e,e2]
theorem k_szBookObject (x : VO) (left : Int) (hx : x.ok) (h0 : 0 ≤ left) (h1 : left ≤ 1048576) : EV Tryz.prog E 53 [.val 0 true (VO.c .shr x),.val 0 false [.p (.int .i64 left)]] = some ⟨[(false,[.p (.int .i64 (subW left x.w))])],[]⟩ :=by
  refine EV_intro Tryz.func53 rfl ?_
  have hx0 :=hx
  simp only [VO.ok] at hx
  obtain ⟨o_kind,o_name,o_version,o_born,o_text,o_holds⟩ :=hx
  have w0 :=wrap64 (n :=left - x.kind.size) (by unfold maxLen at *; omega) (by omega)
  by_cases c0 : left < (x.kind.size : Nat)
  · have e : subW left x.w = -1 :=subW_lt (by unfold VO.w; omega)
    have d0 : left - (x.kind.size : Int) < 0 :=by omega
    simp only [rA,↓reduceIte,reduceCtorEq,N1,N2,N3,N4,N5,N6,N7,I1,I2,I3,I4,L1,e53,Tryz.f53,VO.c,w0,d0,e]
  have d0 : ¬ (left - (x.kind.size : Nat) < 0) :=by omega
  have w1 :=wrap64 (n :=left - (x.kind.size : Nat) - x.name.size) (by unfold maxLen at *; omega) (by omega)
  by_cases c1 : left - (x.kind.size : Nat) < (x.name.size : Nat)
  · have e : subW left x.w = -1 :=subW_lt (by unfold VO.w; omega)
    have d1 : left - (x.kind.size : Nat) - (x.name.size : Int) < 0 :=by omega
    simp only [rA,↓reduceIte,reduceCtorEq,N1,N2,N3,N4,N5,N6,N7,I1,I2,I3,I4,L1,e53,Tryz.f53,VO.c,w0,d0,w1,d1,e]
  have d1 : ¬ (left - (x.kind.size : Nat) - (x.name.size : Nat) < 0) :=by omega
  have w2 :=wrap64 (n :=left - (x.kind.size : Nat) - (x.name.size : Nat) - x.text.size) (by unfold maxLen at *; omega) (by omega)
  by_cases c2 : left - (x.kind.size : Nat) - (x.name.size : Nat) < (x.text.size : Nat)
  · have e : subW left x.w = -1 :=subW_lt (by unfold VO.w; omega)
    have d2 : left - (x.kind.size : Nat) - (x.name.size : Nat) - (x.text.size : Int) < 0 :=by omega
    simp only [rA,↓reduceIte,reduceCtorEq,N1,N2,N3,N4,N5,N6,N7,I1,I2,I3,I4,L1,e53,Tryz.f53,VO.c,w0,d0,w1,d1,w2,d2,e]
  have d2 : ¬ (left - (x.kind.size : Nat) - (x.name.size : Nat) - (x.text.size : Nat) < 0) :=by omega
  have w3 :=k_szStringS x.holds (left - (x.kind.size : Nat) - (x.name.size : Nat) - (x.text.size : Nat)) o_holds (by omega) (by omega)
  by_cases c3 : left - (x.kind.size : Nat) - (x.name.size : Nat) - (x.text.size : Nat) < (wSString x.holds : Nat)
  · have e : subW left x.w = -1 :=subW_lt (by unfold VO.w; omega)
    rw [subW_lt c3] at w3
    simp only [rA,↓reduceIte,reduceCtorEq,N1,N2,N3,N4,N5,N6,N7,I1,I2,I3,I4,L1,e53,e96,Tryz.f53,VO.c,w0,d0,w1,d1,w2,d2,w3,e]
  rw [subW_ge c3] at w3
  have d3 : ¬ (left - (x.kind.size : Nat) - (x.name.size : Nat) - (x.text.size : Nat) - (wSString x.holds : Nat) < 0) :=by omega
  have e : subW left x.w = left - (x.kind.size : Nat) - (x.name.size : Nat) - (x.text.size : Nat) - (wSString x.holds : Nat) :=by rw [subW_ge (by unfold VO.w; omega)]; unfold VO.w; omega
  simp only [rA,↓reduceIte,reduceCtorEq,N1,N2,N3,N4,N5,N6,N7,I1,I2,I3,I4,L1,e53,e96,Tryz.f53,VO.c,w0,d0,w1,d1,w2,d2,w3,d3,e]
theorem k_szBookObjectS (l : List VO) (left : Int) (hx : l.length ≤ maxLen ∧ ∀ e ∈ l,e.ok) (h0 : 0 ≤ left) (h1 : left ≤ 1048576) : EV Tryz.prog E 22 [.val 0 false [.sl .shr 7 (l.map (VO.c .shr))],.val 0 false [.p (.int .i64 left)]] = some ⟨[(false,[.p (.int .i64 (subW left (wSBookObject l)))])],[]⟩ :=by
  refine EV_intro Tryz.func22 rfl ?_
  obtain ⟨hn,hl⟩ :=hx
  have hw :=wrap64 (n :=left - l.length) (by unfold maxLen at hn; omega) (by omega)
  by_cases hc : left - l.length < 0
  · have e : subW left (wSBookObject l) = -1 :=subW_lt (by unfold wSBookObject; omega)
    simp only [rA,↓reduceIte,reduceCtorEq,N1,N2,N3,N4,N5,N6,N7,I1,I2,I3,I4,L1,e22,Tryz.f22,hw,hc,e]
  · simp only [rA,↓reduceIte,reduceCtorEq,N1,N2,N3,N4,N5,N6,N7,I1,I2,I3,I4,L1,e22,Tryz.f22,hw,hc]
    rw [for_block l (fun i a =>⟨3,[(0,.val 0 false [.sl .shr 7 (l.map (VO.c .shr))]),(1,.val 1 false [.p (.int .i64 a)]),(5,.val 2 false [.p (.int .i64 i)])]⟩) (fun i a =>0 ≤ a ∧ a ≤ 1048576)
      (fun r i a =>if a < (sumWBookObject r : Nat) then .ret ⟨[(false,[.p (.int .i64 (-1))])],[]⟩ else .norm ⟨1,[(1,.val 0 false [.p (.int .i64 (a - (sumWBookObject r : Nat)))])]⟩) ?_ ?_ (a :=left - l.length) ⟨by omega,by omega⟩ (by simp only [rA,↓reduceIte,reduceCtorEq,N1,N2,N3,N4,N5,N6,N7,I1,I2,I3,I4,L1,e22]; rfl)]
    · by_cases hz : left - l.length < (sumWBookObject l : Nat)
      · have e : subW left (wSBookObject l) = -1 :=subW_lt (by unfold wSBookObject; omega)
        simp only [rA,↓reduceIte,reduceCtorEq,N1,N2,N3,N4,N5,N6,N7,I1,I2,I3,I4,L1,e22,hz,e]
      · have e : subW left (wSBookObject l) = left - l.length - (sumWBookObject l : Nat) :=by rw [subW_ge (by unfold wSBookObject; omega)]; unfold wSBookObject; omega
        simp only [rA,↓reduceIte,reduceCtorEq,N1,N2,N3,N4,N5,N6,N7,I1,I2,I3,I4,L1,e22,hz,e]
    · intro i s r a hd hi ⟨ha,hb⟩
      have hlen :=(List.getElem?_eq_some_iff.1 hi).1
      have hlt : ((i : Int) < (l.length : Int)) :=by omega
      have hr :=getElem?_map_some (f :=(VO.c .shr)) hi
      have hsz :=hl s (List.mem_of_getElem? hi)
      unfold maxLen at hn
      have hwi :=wrap64 (n :=(i : Int) + 1) (by omega) (by omega)
      have hi0 : (0 : Int) ≤ (i : Int) :=by omega
      simp only [VO.c] at hr
      have hk :=k_szBookObject s a hsz ha hb
      simp only [VO.c] at hk
      by_cases hcs : a < (s.w : Nat)
      · right
        rw [subW_lt hcs] at hk
        have e : a < (sumWBookObject (s :: r) : Nat) :=by simp only [sumWBookObject]; omega
        simp only [rA,↓reduceIte,reduceCtorEq,N1,N2,N3,N4,N5,N6,N7,I1,I2,I3,I4,L1,e22,e53,hlt,hr,hk,hwi,hi0,e]
      · left
        rw [subW_ge hcs] at hk
        have hnn : ¬ (a - (s.w : Nat) < 0) :=by omega
        refine ⟨a - (s.w : Nat),?_,⟨by omega,by omega⟩,?_⟩
        · simp only [rA,↓reduceIte,reduceCtorEq,N1,N2,N3,N4,N5,N6,N7,I1,I2,I3,I4,L1,e22,e53,hlt,hr,hk,hnn,hwi,hi0,i64c]
        · have e1 : (a < (sumWBookObject (s :: r) : Nat)) ↔ (a - (s.w : Nat) < (sumWBookObject r : Nat)) :=by simp only [sumWBookObject]; omega
          have e2 : a - (sumWBookObject (s :: r) : Nat) = a - (s.w : Nat) - (sumWBookObject r : Nat) :=by simp only [sumWBookObject]; omega
          simp only [e1,e2]
    · intro a ⟨ha,hb⟩
      have e : ¬ (a < (sumWBookObject [] : Nat)) :=by simp only [sumWBookObject]; omega
      have e2 : a - (sumWBookObject [] : Nat) = a :=by simp only [sumWBookObject]; omega
      simp only [rA,↓reduceIte,reduceCtorEq,N1,N2,N3,N4,N5,N6,N7,I1,I2,I3,I4,L1,e22,e,e2]
theorem k_szBookChange (x : VC) (left : Int) (hx : x.ok) (h0 : 0 ≤ left) (h1 : left ≤ 1048576) : EV Tryz.prog E 54 [.val 0 true (VC.c .shr x),.val 0 false [.p (.int .i64 left)]] = some ⟨[(false,[.p (.int .i64 (subW left x.w))])],[]⟩ :=by
  refine EV_intro Tryz.func54 rfl ?_
  have hx0 :=hx
  simp only [VC.ok] at hx
  obtain ⟨o_version,o_object⟩ :=hx
  have w0 :=k_szBookObject x.object (left) o_object (by omega) (by omega)
  simp only [VO.c] at w0
  by_cases c0 : left < (x.object.w : Nat)
  · have e : subW left x.w = -1 :=subW_lt (by unfold VC.w; omega)
    rw [subW_lt c0] at w0
    simp only [rA,↓reduceIte,reduceCtorEq,N1,N2,N3,N4,N5,N6,N7,I1,I2,I3,I4,L1,e54,e53,Tryz.f54,VC.c,w0,e]
  rw [subW_ge c0] at w0
  have d0 : ¬ (left - (x.object.w : Nat) < 0) :=by omega
  have e : subW left x.w = left - (x.object.w : Nat) :=by rw [subW_ge (by unfold VC.w; omega)]; unfold VC.w; omega
  simp only [rA,↓reduceIte,reduceCtorEq,N1,N2,N3,N4,N5,N6,N7,I1,I2,I3,I4,L1,e54,e53,Tryz.f54,VC.c,w0,d0,e]
theorem k_szBookChangeS (l : List VC) (left : Int) (hx : l.length ≤ maxLen ∧ ∀ e ∈ l,e.ok) (h0 : 0 ≤ left) (h1 : left ≤ 1048576) : EV Tryz.prog E 23 [.val 0 false [.sl .shr 9 (l.map (VC.c .shr))],.val 0 false [.p (.int .i64 left)]] = some ⟨[(false,[.p (.int .i64 (subW left (wSBookChange l)))])],[]⟩ :=by
  refine EV_intro Tryz.func23 rfl ?_
  obtain ⟨hn,hl⟩ :=hx
  have hw :=wrap64 (n :=left - l.length) (by unfold maxLen at hn; omega) (by omega)
  by_cases hc : left - l.length < 0
  · have e : subW left (wSBookChange l) = -1 :=subW_lt (by unfold wSBookChange; omega)
    simp only [rA,↓reduceIte,reduceCtorEq,N1,N2,N3,N4,N5,N6,N7,I1,I2,I3,I4,L1,e23,Tryz.f23,hw,hc,e]
  · simp only [rA,↓reduceIte,reduceCtorEq,N1,N2,N3,N4,N5,N6,N7,I1,I2,I3,I4,L1,e23,Tryz.f23,hw,hc]
    rw [for_block l (fun i a =>⟨3,[(0,.val 0 false [.sl .shr 9 (l.map (VC.c .shr))]),(1,.val 1 false [.p (.int .i64 a)]),(5,.val 2 false [.p (.int .i64 i)])]⟩) (fun i a =>0 ≤ a ∧ a ≤ 1048576)
      (fun r i a =>if a < (sumWBookChange r : Nat) then .ret ⟨[(false,[.p (.int .i64 (-1))])],[]⟩ else .norm ⟨1,[(1,.val 0 false [.p (.int .i64 (a - (sumWBookChange r : Nat)))])]⟩) ?_ ?_ (a :=left - l.length) ⟨by omega,by omega⟩ (by simp only [rA,↓reduceIte,reduceCtorEq,N1,N2,N3,N4,N5,N6,N7,I1,I2,I3,I4,L1,e23]; rfl)]
    · by_cases hz : left - l.length < (sumWBookChange l : Nat)
      · have e : subW left (wSBookChange l) = -1 :=subW_lt (by unfold wSBookChange; omega)
        simp only [rA,↓reduceIte,reduceCtorEq,N1,N2,N3,N4,N5,N6,N7,I1,I2,I3,I4,L1,e23,hz,e]
      · have e : subW left (wSBookChange l) = left - l.length - (sumWBookChange l : Nat) :=by rw [subW_ge (by unfold wSBookChange; omega)]; unfold wSBookChange; omega
        simp only [rA,↓reduceIte,reduceCtorEq,N1,N2,N3,N4,N5,N6,N7,I1,I2,I3,I4,L1,e23,hz,e]
    · intro i s r a hd hi ⟨ha,hb⟩
      have hlen :=(List.getElem?_eq_some_iff.1 hi).1
      have hlt : ((i : Int) < (l.length : Int)) :=by omega
      have hr :=getElem?_map_some (f :=(VC.c .shr)) hi
      have hsz :=hl s (List.mem_of_getElem? hi)
      unfold maxLen at hn
      have hwi :=wrap64 (n :=(i : Int) + 1) (by omega) (by omega)
      have hi0 : (0 : Int) ≤ (i : Int) :=by omega
      simp only [VC.c] at hr
      have hk :=k_szBookChange s a hsz ha hb
      simp only [VC.c] at hk
      by_cases hcs : a < (s.w : Nat)
      · right
        rw [subW_lt hcs] at hk
        have e : a < (sumWBookChange (s :: r) : Nat) :=by simp only [sumWBookChange]; omega
        simp only [rA,↓reduceIte,reduceCtorEq,N1,N2,N3,N4,N5,N6,N7,I1,I2,I3,I4,L1,e23,e54,hlt,hr,hk,hwi,hi0,e]
      · left
        rw [subW_ge hcs] at hk
        have hnn : ¬ (a - (s.w : Nat) < 0) :=by omega
        refine ⟨a - (s.w : Nat),?_,⟨by omega,by omega⟩,?_⟩
        · simp only [rA,↓reduceIte,reduceCtorEq,N1,N2,N3,N4,N5,N6,N7,I1,I2,I3,I4,L1,e23,e54,hlt,hr,hk,hnn,hwi,hi0,i64c]
        · have e1 : (a < (sumWBookChange (s :: r) : Nat)) ↔ (a - (s.w : Nat) < (sumWBookChange r : Nat)) :=by simp only [sumWBookChange]; omega
          have e2 : a - (sumWBookChange (s :: r) : Nat) = a - (s.w : Nat) - (sumWBookChange r : Nat) :=by simp only [sumWBookChange]; omega
          simp only [e1,e2]
    · intro a ⟨ha,hb⟩
      have e : ¬ (a < (sumWBookChange [] : Nat)) :=by simp only [sumWBookChange]; omega
      have e2 : a - (sumWBookChange [] : Nat) = a :=by simp only [sumWBookChange]; omega
      simp only [rA,↓reduceIte,reduceCtorEq,N1,N2,N3,N4,N5,N6,N7,I1,I2,I3,I4,L1,e23,e,e2]
theorem k_szBookTicket (x : VT) (left : Int) (hx : x.ok) (h0 : 0 ≤ left) (h1 : left ≤ 1048576) : EV Tryz.prog E 55 [.val 0 true (VT.c x),.val 0 false [.p (.int .i64 left)]] = some ⟨[(false,[.p (.int .i64 (subW left x.w))])],[]⟩ :=by
  refine EV_intro Tryz.func55 rfl ?_
  have hx0 :=hx
  simp only [VT.ok] at hx
  obtain ⟨o_client,o_number,o_print,o_code,o_version⟩ :=hx
  have w0 :=wrap64 (n :=left - x.client.size) (by unfold maxLen at *; omega) (by omega)
  by_cases c0 : left < (x.client.size : Nat)
  · have e : subW left x.w = -1 :=subW_lt (by unfold VT.w; omega)
    have d0 : left - (x.client.size : Int) < 0 :=by omega
    simp only [rA,↓reduceIte,reduceCtorEq,N1,N2,N3,N4,N5,N6,N7,I1,I2,I3,I4,L1,e55,Tryz.f55,VT.c,w0,d0,e]
  have d0 : ¬ (left - (x.client.size : Nat) < 0) :=by omega
  have w1 :=wrap64 (n :=left - (x.client.size : Nat) - x.print.size) (by unfold maxLen at *; omega) (by omega)
  by_cases c1 : left - (x.client.size : Nat) < (x.print.size : Nat)
  · have e : subW left x.w = -1 :=subW_lt (by unfold VT.w; omega)
    have d1 : left - (x.client.size : Nat) - (x.print.size : Int) < 0 :=by omega
    simp only [rA,↓reduceIte,reduceCtorEq,N1,N2,N3,N4,N5,N6,N7,I1,I2,I3,I4,L1,e55,Tryz.f55,VT.c,w0,d0,w1,d1,e]
  have d1 : ¬ (left - (x.client.size : Nat) - (x.print.size : Nat) < 0) :=by omega
  have e : subW left x.w = left - (x.client.size : Nat) - (x.print.size : Nat) :=by rw [subW_ge (by unfold VT.w; omega)]; unfold VT.w; omega
  simp only [rA,↓reduceIte,reduceCtorEq,N1,N2,N3,N4,N5,N6,N7,I1,I2,I3,I4,L1,e55,Tryz.f55,VT.c,w0,d0,w1,d1,e]
theorem k_szBookTicketS (l : List VT) (left : Int) (hx : l.length ≤ maxLen ∧ ∀ e ∈ l,e.ok) (h0 : 0 ≤ left) (h1 : left ≤ 1048576) : EV Tryz.prog E 24 [.val 0 false [.sl .shr 5 (l.map VT.c)],.val 0 false [.p (.int .i64 left)]] = some ⟨[(false,[.p (.int .i64 (subW left (wSBookTicket l)))])],[]⟩ :=by
  refine EV_intro Tryz.func24 rfl ?_
  obtain ⟨hn,hl⟩ :=hx
  have hw :=wrap64 (n :=left - l.length) (by unfold maxLen at hn; omega) (by omega)
  by_cases hc : left - l.length < 0
  · have e : subW left (wSBookTicket l) = -1 :=subW_lt (by unfold wSBookTicket; omega)
    simp only [rA,↓reduceIte,reduceCtorEq,N1,N2,N3,N4,N5,N6,N7,I1,I2,I3,I4,L1,e24,Tryz.f24,hw,hc,e]
  · simp only [rA,↓reduceIte,reduceCtorEq,N1,N2,N3,N4,N5,N6,N7,I1,I2,I3,I4,L1,e24,Tryz.f24,hw,hc]
    rw [for_block l (fun i a =>⟨3,[(0,.val 0 false [.sl .shr 5 (l.map VT.c)]),(1,.val 1 false [.p (.int .i64 a)]),(5,.val 2 false [.p (.int .i64 i)])]⟩) (fun i a =>0 ≤ a ∧ a ≤ 1048576)
      (fun r i a =>if a < (sumWBookTicket r : Nat) then .ret ⟨[(false,[.p (.int .i64 (-1))])],[]⟩ else .norm ⟨1,[(1,.val 0 false [.p (.int .i64 (a - (sumWBookTicket r : Nat)))])]⟩) ?_ ?_ (a :=left - l.length) ⟨by omega,by omega⟩ (by simp only [rA,↓reduceIte,reduceCtorEq,N1,N2,N3,N4,N5,N6,N7,I1,I2,I3,I4,L1,e24]; rfl)]
    · by_cases hz : left - l.length < (sumWBookTicket l : Nat)
      · have e : subW left (wSBookTicket l) = -1 :=subW_lt (by unfold wSBookTicket; omega)
        simp only [rA,↓reduceIte,reduceCtorEq,N1,N2,N3,N4,N5,N6,N7,I1,I2,I3,I4,L1,e24,hz,e]
      · have e : subW left (wSBookTicket l) = left - l.length - (sumWBookTicket l : Nat) :=by rw [subW_ge (by unfold wSBookTicket; omega)]; unfold wSBookTicket; omega
        simp only [rA,↓reduceIte,reduceCtorEq,N1,N2,N3,N4,N5,N6,N7,I1,I2,I3,I4,L1,e24,hz,e]
    · intro i s r a hd hi ⟨ha,hb⟩
      have hlen :=(List.getElem?_eq_some_iff.1 hi).1
      have hlt : ((i : Int) < (l.length : Int)) :=by omega
      have hr :=getElem?_map_some (f :=VT.c) hi
      have hsz :=hl s (List.mem_of_getElem? hi)
      unfold maxLen at hn
      have hwi :=wrap64 (n :=(i : Int) + 1) (by omega) (by omega)
      have hi0 : (0 : Int) ≤ (i : Int) :=by omega
      simp only [VT.c] at hr
      have hk :=k_szBookTicket s a hsz ha hb
      simp only [VT.c] at hk
      by_cases hcs : a < (s.w : Nat)
      · right
        rw [subW_lt hcs] at hk
        have e : a < (sumWBookTicket (s :: r) : Nat) :=by simp only [sumWBookTicket]; omega
        simp only [rA,↓reduceIte,reduceCtorEq,N1,N2,N3,N4,N5,N6,N7,I1,I2,I3,I4,L1,e24,e55,hlt,hr,hk,hwi,hi0,e]
      · left
        rw [subW_ge hcs] at hk
        have hnn : ¬ (a - (s.w : Nat) < 0) :=by omega
        refine ⟨a - (s.w : Nat),?_,⟨by omega,by omega⟩,?_⟩
        · simp only [rA,↓reduceIte,reduceCtorEq,N1,N2,N3,N4,N5,N6,N7,I1,I2,I3,I4,L1,e24,e55,hlt,hr,hk,hnn,hwi,hi0,i64c]
        · have e1 : (a < (sumWBookTicket (s :: r) : Nat)) ↔ (a - (s.w : Nat) < (sumWBookTicket r : Nat)) :=by simp only [sumWBookTicket]; omega
          have e2 : a - (sumWBookTicket (s :: r) : Nat) = a - (s.w : Nat) - (sumWBookTicket r : Nat) :=by simp only [sumWBookTicket]; omega
          simp only [e1,e2]
    · intro a ⟨ha,hb⟩
      have e : ¬ (a < (sumWBookTicket [] : Nat)) :=by simp only [sumWBookTicket]; omega
      have e2 : a - (sumWBookTicket [] : Nat) = a :=by simp only [sumWBookTicket]; omega
      simp only [rA,↓reduceIte,reduceCtorEq,N1,N2,N3,N4,N5,N6,N7,I1,I2,I3,I4,L1,e24,e,e2]
theorem k_szBook (x : VBook) (left : Int) (hx : x.ok) (h0 : 0 ≤ left) (h1 : left ≤ 1048576) : EV Tryz.prog E 5 [.val 0 true (VBook.c .shr x),.val 0 false [.p (.int .i64 left)]] = some ⟨[(false,[.p (.int .i64 (subW left x.w))])],[]⟩ :=by
  refine EV_intro Tryz.func5 rfl ?_
  have hx0 :=hx
  simp only [VBook.ok] at hx
  obtain ⟨o_now,o_floor,o_objects,o_history,o_tickets⟩ :=hx
  have w0 :=k_szBookObjectS x.objects (left) o_objects (by omega) (by omega)
  by_cases c0 : left < (wSBookObject x.objects : Nat)
  · have e : subW left x.w = -1 :=subW_lt (by unfold VBook.w; omega)
    rw [subW_lt c0] at w0
    simp only [rA,↓reduceIte,reduceCtorEq,N1,N2,N3,N4,N5,N6,N7,I1,I2,I3,I4,L1,e5,e22,Tryz.f5,VBook.c,w0,e]
  rw [subW_ge c0] at w0
  have d0 : ¬ (left - (wSBookObject x.objects : Nat) < 0) :=by omega
  have w1 :=k_szBookChangeS x.history (left - (wSBookObject x.objects : Nat)) o_history (by omega) (by omega)
  by_cases c1 : left - (wSBookObject x.objects : Nat) < (wSBookChange x.history : Nat)
  · have e : subW left x.w = -1 :=subW_lt (by unfold VBook.w; omega)
    rw [subW_lt c1] at w1
    simp only [rA,↓reduceIte,reduceCtorEq,N1,N2,N3,N4,N5,N6,N7,I1,I2,I3,I4,L1,e5,e22,e23,Tryz.f5,VBook.c,w0,d0,w1,e]
  rw [subW_ge c1] at w1
  have d1 : ¬ (left - (wSBookObject x.objects : Nat) - (wSBookChange x.history : Nat) < 0) :=by omega
  have w2 :=k_szBookTicketS x.tickets (left - (wSBookObject x.objects : Nat) - (wSBookChange x.history : Nat)) o_tickets (by omega) (by omega)
  by_cases c2 : left - (wSBookObject x.objects : Nat) - (wSBookChange x.history : Nat) < (wSBookTicket x.tickets : Nat)
  · have e : subW left x.w = -1 :=subW_lt (by unfold VBook.w; omega)
    rw [subW_lt c2] at w2
    simp only [rA,↓reduceIte,reduceCtorEq,N1,N2,N3,N4,N5,N6,N7,I1,I2,I3,I4,L1,e5,e22,e23,e24,Tryz.f5,VBook.c,w0,d0,w1,d1,w2,e]
  rw [subW_ge c2] at w2
  have d2 : ¬ (left - (wSBookObject x.objects : Nat) - (wSBookChange x.history : Nat) - (wSBookTicket x.tickets : Nat) < 0) :=by omega
  have e : subW left x.w = left - (wSBookObject x.objects : Nat) - (wSBookChange x.history : Nat) - (wSBookTicket x.tickets : Nat) :=by rw [subW_ge (by unfold VBook.w; omega)]; unfold VBook.w; omega
  simp only [rA,↓reduceIte,reduceCtorEq,N1,N2,N3,N4,N5,N6,N7,I1,I2,I3,I4,L1,e5,e22,e23,e24,Tryz.f5,VBook.c,w0,d0,w1,d1,w2,d2,e]
theorem k_toStringS (l : List ByteArray) (hw : wSString l ≤ 4194304) : EV Tryz.prog E 103 [.val 0 false [.sl .shr 1 (l.map strC)]] = some ⟨[(false,[.sl .own 1 (l.map strC)])],[]⟩ :=by
  refine EV_intro Tryz.func103 rfl ?_
  have hn : l.length ≤ 4194304 :=by unfold wSString at hw; omega
  have h1 : l.length < 4294967296 :=by omega
  have h0 : (0 : Int) ≤ (l.length : Int) :=by omega
  have hz :=repl_whole (z :=[.p (.string ⟨#[]⟩)]) (by simp only [rA,↓reduceIte,reduceCtorEq,N1,N2,N3,N4,N5,N6,N7,I1,I2,I3,I4,L1,Fl.isShr,Fl.isOwn]) l.length
  simp only [rA,↓reduceIte,reduceCtorEq,N1,N2,N3,N4,N5,N6,N7,I1,I2,I3,I4,L1,e103,Tryz.f103,LIM,h1,h0,hz]
  rw [for_block l (fun i (_ : Unit) =>⟨3,[(0,.val 0 false [.sl .shr 1 (l.map strC)]),(3,.val 1 false [.sl .own 1 (fillR strC l [.p (.string ⟨#[]⟩)] i)]),(4,.val 2 false [.p (.int .i64 i)])]⟩) (fun i _ =>True)
      (fun r i a =>.norm ⟨1,[(3,.val 0 false [.sl .own 1 (l.map strC)])]⟩) ?_ ?_ (a :=()) trivial (by simp only [rA,↓reduceIte,reduceCtorEq,N1,N2,N3,N4,N5,N6,N7,I1,I2,I3,I4,L1,e103,fill_zero]; rfl)]
  · simp only [rA,↓reduceIte,reduceCtorEq,N1,N2,N3,N4,N5,N6,N7,I1,I2,I3,I4,L1,e103,rowsString]
  · intro i s r a hd hi _
    have hlen :=(List.getElem?_eq_some_iff.1 hi).1
    have hlt : ((i : Int) < (l.length : Int)) :=by omega
    have hr :=getElem?_map_some (f :=strC) hi
    have hwi :=wrap64 (n :=(i : Int) + 1) (by omega) (by omega)
    have hi0 : (0 : Int) ≤ (i : Int) :=by omega
    have hg :=fill_get strC [.p (.string ⟨#[]⟩)] hlen
    have hs :=fill_set strC [.p (.string ⟨#[]⟩)] hi
    have hfl :=fill_length strC l [.p (.string ⟨#[]⟩)] (Nat.le_of_lt hlen)
    simp only [strC] at hr hs
    left
    refine ⟨(),?_,trivial,rfl⟩
    simp only [rA,↓reduceIte,reduceCtorEq,N1,N2,N3,N4,N5,N6,N7,I1,I2,I3,I4,L1,e103,hlt,hr,hwi,hi0,hg,hs,hfl,hlen,i64c]
  · intro a _
    simp only [rA,↓reduceIte,reduceCtorEq,N1,N2,N3,N4,N5,N6,N7,I1,I2,I3,I4,L1,e103,fill_end]
theorem k_toBookObject (x : VO) (hw : x.w ≤ 4194304) : EV Tryz.prog E 66 [.val 0 true (VO.c .shr x)] = some ⟨[(true,VO.c .own x)],[]⟩ :=by
  refine EV_intro Tryz.func66 rfl ?_
  unfold VO.w at hw
  have h0 :=k_toStringS x.holds (by omega)
  simp only [rA,↓reduceIte,reduceCtorEq,N1,N2,N3,N4,N5,N6,N7,I1,I2,I3,I4,L1,e66,e103,Tryz.f66,VO.c,h0,rowsString]
theorem k_toBookObjectS (l : List VO) (hw : wSBookObject l ≤ 4194304) : EV Tryz.prog E 30 [.val 0 false [.sl .shr 7 (l.map (VO.c .shr))]] = some ⟨[(false,[.sl .own 7 (l.map (VO.c .own))])],[]⟩ :=by
  refine EV_intro Tryz.func30 rfl ?_
  have hn : l.length ≤ 4194304 :=by unfold wSBookObject at hw; omega
  have h1 : l.length < 4294967296 :=by omega
  have h0 : (0 : Int) ≤ (l.length : Int) :=by omega
  have hz :=repl_whole (z :=[.p (.string ⟨#[]⟩),.p (.string ⟨#[]⟩),.p (.int .i64 0),.p (.int .i64 0),.p (.string ⟨#[]⟩),.p (.bool false),.sl .own 1 []]) (by simp only [rA,↓reduceIte,reduceCtorEq,N1,N2,N3,N4,N5,N6,N7,I1,I2,I3,I4,L1,Fl.isShr,Fl.isOwn]) l.length
  simp only [rA,↓reduceIte,reduceCtorEq,N1,N2,N3,N4,N5,N6,N7,I1,I2,I3,I4,L1,e30,Tryz.f30,LIM,h1,h0,hz]
  rw [for_block l (fun i (_ : Unit) =>⟨3,[(0,.val 0 false [.sl .shr 7 (l.map (VO.c .shr))]),(3,.val 1 false [.sl .own 7 (fillR (VO.c .own) l [.p (.string ⟨#[]⟩),.p (.string ⟨#[]⟩),.p (.int .i64 0),.p (.int .i64 0),.p (.string ⟨#[]⟩),.p (.bool false),.sl .own 1 []] i)]),(4,.val 2 false [.p (.int .i64 i)])]⟩) (fun i _ =>True)
      (fun r i a =>.norm ⟨1,[(3,.val 0 false [.sl .own 7 (l.map (VO.c .own))])]⟩) ?_ ?_ (a :=()) trivial (by simp only [rA,↓reduceIte,reduceCtorEq,N1,N2,N3,N4,N5,N6,N7,I1,I2,I3,I4,L1,e30,fill_zero]; rfl)]
  · simp only [rA,↓reduceIte,reduceCtorEq,N1,N2,N3,N4,N5,N6,N7,I1,I2,I3,I4,L1,e30,rowsBookObject]
  · intro i s r a hd hi _
    have hlen :=(List.getElem?_eq_some_iff.1 hi).1
    have hlt : ((i : Int) < (l.length : Int)) :=by omega
    have hr :=getElem?_map_some (f :=(VO.c .shr)) hi
    have hwi :=wrap64 (n :=(i : Int) + 1) (by omega) (by omega)
    have hi0 : (0 : Int) ≤ (i : Int) :=by omega
    have hg :=fill_get (VO.c .own) [.p (.string ⟨#[]⟩),.p (.string ⟨#[]⟩),.p (.int .i64 0),.p (.int .i64 0),.p (.string ⟨#[]⟩),.p (.bool false),.sl .own 1 []] hlen
    have hs :=fill_set (VO.c .own) [.p (.string ⟨#[]⟩),.p (.string ⟨#[]⟩),.p (.int .i64 0),.p (.int .i64 0),.p (.string ⟨#[]⟩),.p (.bool false),.sl .own 1 []] hi
    have hfl :=fill_length (VO.c .own) l [.p (.string ⟨#[]⟩),.p (.string ⟨#[]⟩),.p (.int .i64 0),.p (.int .i64 0),.p (.string ⟨#[]⟩),.p (.bool false),.sl .own 1 []] (Nat.le_of_lt hlen)
    simp only [VO.c] at hr hs
    have hm :=k_toBookObject s (by have :=wSBookObject_mem (List.mem_of_getElem? hi); unfold wSBookObject at hw; omega)
    simp only [VO.c] at hm
    left
    refine ⟨(),?_,trivial,rfl⟩
    simp only [rA,↓reduceIte,reduceCtorEq,N1,N2,N3,N4,N5,N6,N7,I1,I2,I3,I4,L1,e30,e66,hlt,hr,hm,hwi,hi0,hg,hs,hfl,hlen,i64c,rowsString]
  · intro a _
    simp only [rA,↓reduceIte,reduceCtorEq,N1,N2,N3,N4,N5,N6,N7,I1,I2,I3,I4,L1,e30,fill_end]
theorem k_toBookChange (x : VC) (hw : x.w ≤ 4194304) : EV Tryz.prog E 67 [.val 0 true (VC.c .shr x)] = some ⟨[(true,VC.c .own x)],[]⟩ :=by
  refine EV_intro Tryz.func67 rfl ?_
  unfold VC.w at hw
  have h0 :=k_toBookObject x.object (by omega)
  simp only [VO.c] at h0
  simp only [rA,↓reduceIte,reduceCtorEq,N1,N2,N3,N4,N5,N6,N7,I1,I2,I3,I4,L1,e67,e66,Tryz.f67,VC.c,h0,rowsString]
theorem k_toBookChangeS (l : List VC) (hw : wSBookChange l ≤ 4194304) : EV Tryz.prog E 31 [.val 0 false [.sl .shr 9 (l.map (VC.c .shr))]] = some ⟨[(false,[.sl .own 9 (l.map (VC.c .own))])],[]⟩ :=by
  refine EV_intro Tryz.func31 rfl ?_
  have hn : l.length ≤ 4194304 :=by unfold wSBookChange at hw; omega
  have h1 : l.length < 4294967296 :=by omega
  have h0 : (0 : Int) ≤ (l.length : Int) :=by omega
  have hz :=repl_whole (z :=[.p (.int .i64 0),.p (.bool false),.p (.string ⟨#[]⟩),.p (.string ⟨#[]⟩),.p (.int .i64 0),.p (.int .i64 0),.p (.string ⟨#[]⟩),.p (.bool false),.sl .own 1 []]) (by simp only [rA,↓reduceIte,reduceCtorEq,N1,N2,N3,N4,N5,N6,N7,I1,I2,I3,I4,L1,Fl.isShr,Fl.isOwn]) l.length
  simp only [rA,↓reduceIte,reduceCtorEq,N1,N2,N3,N4,N5,N6,N7,I1,I2,I3,I4,L1,e31,Tryz.f31,LIM,h1,h0,hz]
  rw [for_block l (fun i (_ : Unit) =>⟨3,[(0,.val 0 false [.sl .shr 9 (l.map (VC.c .shr))]),(3,.val 1 false [.sl .own 9 (fillR (VC.c .own) l [.p (.int .i64 0),.p (.bool false),.p (.string ⟨#[]⟩),.p (.string ⟨#[]⟩),.p (.int .i64 0),.p (.int .i64 0),.p (.string ⟨#[]⟩),.p (.bool false),.sl .own 1 []] i)]),(4,.val 2 false [.p (.int .i64 i)])]⟩) (fun i _ =>True)
      (fun r i a =>.norm ⟨1,[(3,.val 0 false [.sl .own 9 (l.map (VC.c .own))])]⟩) ?_ ?_ (a :=()) trivial (by simp only [rA,↓reduceIte,reduceCtorEq,N1,N2,N3,N4,N5,N6,N7,I1,I2,I3,I4,L1,e31,fill_zero]; rfl)]
  · simp only [rA,↓reduceIte,reduceCtorEq,N1,N2,N3,N4,N5,N6,N7,I1,I2,I3,I4,L1,e31,rowsBookChange]
  · intro i s r a hd hi _
    have hlen :=(List.getElem?_eq_some_iff.1 hi).1
    have hlt : ((i : Int) < (l.length : Int)) :=by omega
    have hr :=getElem?_map_some (f :=(VC.c .shr)) hi
    have hwi :=wrap64 (n :=(i : Int) + 1) (by omega) (by omega)
    have hi0 : (0 : Int) ≤ (i : Int) :=by omega
    have hg :=fill_get (VC.c .own) [.p (.int .i64 0),.p (.bool false),.p (.string ⟨#[]⟩),.p (.string ⟨#[]⟩),.p (.int .i64 0),.p (.int .i64 0),.p (.string ⟨#[]⟩),.p (.bool false),.sl .own 1 []] hlen
    have hs :=fill_set (VC.c .own) [.p (.int .i64 0),.p (.bool false),.p (.string ⟨#[]⟩),.p (.string ⟨#[]⟩),.p (.int .i64 0),.p (.int .i64 0),.p (.string ⟨#[]⟩),.p (.bool false),.sl .own 1 []] hi
    have hfl :=fill_length (VC.c .own) l [.p (.int .i64 0),.p (.bool false),.p (.string ⟨#[]⟩),.p (.string ⟨#[]⟩),.p (.int .i64 0),.p (.int .i64 0),.p (.string ⟨#[]⟩),.p (.bool false),.sl .own 1 []] (Nat.le_of_lt hlen)
    simp only [VC.c] at hr hs
    have hm :=k_toBookChange s (by have :=wSBookChange_mem (List.mem_of_getElem? hi); unfold wSBookChange at hw; omega)
    simp only [VC.c] at hm
    left
    refine ⟨(),?_,trivial,rfl⟩
    simp only [rA,↓reduceIte,reduceCtorEq,N1,N2,N3,N4,N5,N6,N7,I1,I2,I3,I4,L1,e31,e67,hlt,hr,hm,hwi,hi0,hg,hs,hfl,hlen,i64c,rowsString]
  · intro a _
    simp only [rA,↓reduceIte,reduceCtorEq,N1,N2,N3,N4,N5,N6,N7,I1,I2,I3,I4,L1,e31,fill_end]
theorem k_toBookTicket (x : VT) (hw : x.w ≤ 4194304) : EV Tryz.prog E 68 [.val 0 true (VT.c x)] = some ⟨[(true,VT.c x)],[]⟩ :=by
  refine EV_intro Tryz.func68 rfl ?_
  unfold VT.w at hw
  simp only [rA,↓reduceIte,reduceCtorEq,N1,N2,N3,N4,N5,N6,N7,I1,I2,I3,I4,L1,e68,Tryz.f68,VT.c]
theorem k_toBookTicketS (l : List VT) (hw : wSBookTicket l ≤ 4194304) : EV Tryz.prog E 32 [.val 0 false [.sl .shr 5 (l.map VT.c)]] = some ⟨[(false,[.sl .own 5 (l.map VT.c)])],[]⟩ :=by
  refine EV_intro Tryz.func32 rfl ?_
  have hn : l.length ≤ 4194304 :=by unfold wSBookTicket at hw; omega
  have h1 : l.length < 4294967296 :=by omega
  have h0 : (0 : Int) ≤ (l.length : Int) :=by omega
  have hz :=repl_whole (z :=[.p (.string ⟨#[]⟩),.p (.int .i64 0),.p (.string ⟨#[]⟩),.p (.int .i64 0),.p (.int .i64 0)]) (by simp only [rA,↓reduceIte,reduceCtorEq,N1,N2,N3,N4,N5,N6,N7,I1,I2,I3,I4,L1,Fl.isShr,Fl.isOwn]) l.length
  simp only [rA,↓reduceIte,reduceCtorEq,N1,N2,N3,N4,N5,N6,N7,I1,I2,I3,I4,L1,e32,Tryz.f32,LIM,h1,h0,hz]
  rw [for_block l (fun i (_ : Unit) =>⟨3,[(0,.val 0 false [.sl .shr 5 (l.map VT.c)]),(3,.val 1 false [.sl .own 5 (fillR VT.c l [.p (.string ⟨#[]⟩),.p (.int .i64 0),.p (.string ⟨#[]⟩),.p (.int .i64 0),.p (.int .i64 0)] i)]),(4,.val 2 false [.p (.int .i64 i)])]⟩) (fun i _ =>True)
      (fun r i a =>.norm ⟨1,[(3,.val 0 false [.sl .own 5 (l.map VT.c)])]⟩) ?_ ?_ (a :=()) trivial (by simp only [rA,↓reduceIte,reduceCtorEq,N1,N2,N3,N4,N5,N6,N7,I1,I2,I3,I4,L1,e32,fill_zero]; rfl)]
  · simp only [rA,↓reduceIte,reduceCtorEq,N1,N2,N3,N4,N5,N6,N7,I1,I2,I3,I4,L1,e32,rowsBookTicket]
  · intro i s r a hd hi _
    have hlen :=(List.getElem?_eq_some_iff.1 hi).1
    have hlt : ((i : Int) < (l.length : Int)) :=by omega
    have hr :=getElem?_map_some (f :=VT.c) hi
    have hwi :=wrap64 (n :=(i : Int) + 1) (by omega) (by omega)
    have hi0 : (0 : Int) ≤ (i : Int) :=by omega
    have hg :=fill_get VT.c [.p (.string ⟨#[]⟩),.p (.int .i64 0),.p (.string ⟨#[]⟩),.p (.int .i64 0),.p (.int .i64 0)] hlen
    have hs :=fill_set VT.c [.p (.string ⟨#[]⟩),.p (.int .i64 0),.p (.string ⟨#[]⟩),.p (.int .i64 0),.p (.int .i64 0)] hi
    have hfl :=fill_length VT.c l [.p (.string ⟨#[]⟩),.p (.int .i64 0),.p (.string ⟨#[]⟩),.p (.int .i64 0),.p (.int .i64 0)] (Nat.le_of_lt hlen)
    simp only [VT.c] at hr hs
    have hm :=k_toBookTicket s (by have :=wSBookTicket_mem (List.mem_of_getElem? hi); unfold wSBookTicket at hw; omega)
    simp only [VT.c] at hm
    left
    refine ⟨(),?_,trivial,rfl⟩
    simp only [rA,↓reduceIte,reduceCtorEq,N1,N2,N3,N4,N5,N6,N7,I1,I2,I3,I4,L1,e32,e68,hlt,hr,hm,hwi,hi0,hg,hs,hfl,hlen,i64c]
  · intro a _
    simp only [rA,↓reduceIte,reduceCtorEq,N1,N2,N3,N4,N5,N6,N7,I1,I2,I3,I4,L1,e32,fill_end]
theorem k_toBook (x : VBook) (hw : x.w ≤ 4194304) : EV Tryz.prog E 8 [.val 0 true (VBook.c .shr x)] = some ⟨[(true,VBook.c .own x)],[]⟩ :=by
  refine EV_intro Tryz.func8 rfl ?_
  unfold VBook.w at hw
  have h0 :=k_toBookObjectS x.objects (by omega)
  have h1 :=k_toBookChangeS x.history (by omega)
  have h2 :=k_toBookTicketS x.tickets (by omega)
  simp only [rA,↓reduceIte,reduceCtorEq,N1,N2,N3,N4,N5,N6,N7,I1,I2,I3,I4,L1,e8,e30,e31,e32,Tryz.f8,VBook.c,h0,h1,h2,rowsBookObject,rowsBookChange,rowsBookTicket]
theorem k_eqStringS (l : List ByteArray) (hw : wSString l ≤ 4194304) : EV Tryz.prog E 109 [.val 0 false [.sl .shr 1 (l.map strC)],.val 0 false [.sl .shr 1 (l.map strC)]] = some ⟨[(false,[.p (.bool true)])],[]⟩ :=by
  refine EV_intro Tryz.func109 rfl ?_
  have hn : l.length ≤ 4194304 :=by unfold wSString at hw; omega
  simp only [rA,↓reduceIte,reduceCtorEq,N1,N2,N3,N4,N5,N6,N7,I1,I2,I3,I4,L1,e109,Tryz.f109]
  rw [for_block l (fun i (_ : Unit) =>⟨3,[(0,.val 0 false [.sl .shr 1 (l.map strC)]),(1,.val 1 false [.sl .shr 1 (l.map strC)]),(5,.val 2 false [.p (.int .i64 i)])]⟩) (fun i _ =>True)
      (fun r i a =>.norm ⟨0,[]⟩) ?_ ?_ (a :=()) trivial (by simp only [rA,↓reduceIte,reduceCtorEq,N1,N2,N3,N4,N5,N6,N7,I1,I2,I3,I4,L1,e109]; rfl)]
  · simp only [rA,↓reduceIte,reduceCtorEq,N1,N2,N3,N4,N5,N6,N7,I1,I2,I3,I4,L1,e109]
  · intro i s r a hd hi _
    have hlen :=(List.getElem?_eq_some_iff.1 hi).1
    have hlt : ((i : Int) < (l.length : Int)) :=by omega
    have hr :=getElem?_map_some (f :=strC) hi
    have hwi :=wrap64 (n :=(i : Int) + 1) (by omega) (by omega)
    have hi0 : (0 : Int) ≤ (i : Int) :=by omega
    simp only [strC] at hr
    left
    refine ⟨(),?_,trivial,rfl⟩
    simp only [rA,↓reduceIte,reduceCtorEq,N1,N2,N3,N4,N5,N6,N7,I1,I2,I3,I4,L1,e109,hlt,hr,hwi,hi0,i64c,beq_self_eq_true]
  · intro a _
    simp only [rA,↓reduceIte,reduceCtorEq,N1,N2,N3,N4,N5,N6,N7,I1,I2,I3,I4,L1,e109]
theorem k_eqBookObject (x : VO) (hw : x.w ≤ 4194304) : EV Tryz.prog E 78 [.val 0 true (VO.c .shr x),.val 0 true (VO.c .shr x)] = some ⟨[(false,[.p (.bool true)])],[]⟩ :=by
  refine EV_intro Tryz.func78 rfl ?_
  unfold VO.w at hw
  have h0 :=k_eqStringS x.holds (by omega)
  simp only [rA,↓reduceIte,reduceCtorEq,N1,N2,N3,N4,N5,N6,N7,I1,I2,I3,I4,L1,e78,e109,Tryz.f78,VO.c,h0,beq_self_eq_true]
theorem k_eqBookObjectS (l : List VO) (hw : wSBookObject l ≤ 4194304) : EV Tryz.prog E 39 [.val 0 false [.sl .shr 7 (l.map (VO.c .shr))],.val 0 false [.sl .shr 7 (l.map (VO.c .shr))]] = some ⟨[(false,[.p (.bool true)])],[]⟩ :=by
  refine EV_intro Tryz.func39 rfl ?_
  have hn : l.length ≤ 4194304 :=by unfold wSBookObject at hw; omega
  simp only [rA,↓reduceIte,reduceCtorEq,N1,N2,N3,N4,N5,N6,N7,I1,I2,I3,I4,L1,e39,Tryz.f39]
  rw [for_block l (fun i (_ : Unit) =>⟨3,[(0,.val 0 false [.sl .shr 7 (l.map (VO.c .shr))]),(1,.val 1 false [.sl .shr 7 (l.map (VO.c .shr))]),(5,.val 2 false [.p (.int .i64 i)])]⟩) (fun i _ =>True)
      (fun r i a =>.norm ⟨0,[]⟩) ?_ ?_ (a :=()) trivial (by simp only [rA,↓reduceIte,reduceCtorEq,N1,N2,N3,N4,N5,N6,N7,I1,I2,I3,I4,L1,e39]; rfl)]
  · simp only [rA,↓reduceIte,reduceCtorEq,N1,N2,N3,N4,N5,N6,N7,I1,I2,I3,I4,L1,e39]
  · intro i s r a hd hi _
    have hlen :=(List.getElem?_eq_some_iff.1 hi).1
    have hlt : ((i : Int) < (l.length : Int)) :=by omega
    have hr :=getElem?_map_some (f :=(VO.c .shr)) hi
    have hwi :=wrap64 (n :=(i : Int) + 1) (by omega) (by omega)
    have hi0 : (0 : Int) ≤ (i : Int) :=by omega
    simp only [VO.c] at hr
    have hm :=k_eqBookObject s (by have :=wSBookObject_mem (List.mem_of_getElem? hi); unfold wSBookObject at hw; omega)
    simp only [VO.c] at hm
    left
    refine ⟨(),?_,trivial,rfl⟩
    simp only [rA,↓reduceIte,reduceCtorEq,N1,N2,N3,N4,N5,N6,N7,I1,I2,I3,I4,L1,e39,e78,hlt,hr,hm,hwi,hi0,i64c,beq_self_eq_true]
  · intro a _
    simp only [rA,↓reduceIte,reduceCtorEq,N1,N2,N3,N4,N5,N6,N7,I1,I2,I3,I4,L1,e39]
theorem k_eqBookChange (x : VC) (hw : x.w ≤ 4194304) : EV Tryz.prog E 79 [.val 0 true (VC.c .shr x),.val 0 true (VC.c .shr x)] = some ⟨[(false,[.p (.bool true)])],[]⟩ :=by
  refine EV_intro Tryz.func79 rfl ?_
  unfold VC.w at hw
  have h0 :=k_eqBookObject x.object (by omega)
  simp only [VO.c] at h0
  simp only [rA,↓reduceIte,reduceCtorEq,N1,N2,N3,N4,N5,N6,N7,I1,I2,I3,I4,L1,e79,e78,Tryz.f79,VC.c,h0,beq_self_eq_true]
theorem k_eqBookChangeS (l : List VC) (hw : wSBookChange l ≤ 4194304) : EV Tryz.prog E 40 [.val 0 false [.sl .shr 9 (l.map (VC.c .shr))],.val 0 false [.sl .shr 9 (l.map (VC.c .shr))]] = some ⟨[(false,[.p (.bool true)])],[]⟩ :=by
  refine EV_intro Tryz.func40 rfl ?_
  have hn : l.length ≤ 4194304 :=by unfold wSBookChange at hw; omega
  simp only [rA,↓reduceIte,reduceCtorEq,N1,N2,N3,N4,N5,N6,N7,I1,I2,I3,I4,L1,e40,Tryz.f40]
  rw [for_block l (fun i (_ : Unit) =>⟨3,[(0,.val 0 false [.sl .shr 9 (l.map (VC.c .shr))]),(1,.val 1 false [.sl .shr 9 (l.map (VC.c .shr))]),(5,.val 2 false [.p (.int .i64 i)])]⟩) (fun i _ =>True)
      (fun r i a =>.norm ⟨0,[]⟩) ?_ ?_ (a :=()) trivial (by simp only [rA,↓reduceIte,reduceCtorEq,N1,N2,N3,N4,N5,N6,N7,I1,I2,I3,I4,L1,e40]; rfl)]
  · simp only [rA,↓reduceIte,reduceCtorEq,N1,N2,N3,N4,N5,N6,N7,I1,I2,I3,I4,L1,e40]
  · intro i s r a hd hi _
    have hlen :=(List.getElem?_eq_some_iff.1 hi).1
    have hlt : ((i : Int) < (l.length : Int)) :=by omega
    have hr :=getElem?_map_some (f :=(VC.c .shr)) hi
    have hwi :=wrap64 (n :=(i : Int) + 1) (by omega) (by omega)
    have hi0 : (0 : Int) ≤ (i : Int) :=by omega
    simp only [VC.c] at hr
    have hm :=k_eqBookChange s (by have :=wSBookChange_mem (List.mem_of_getElem? hi); unfold wSBookChange at hw; omega)
    simp only [VC.c] at hm
    left
    refine ⟨(),?_,trivial,rfl⟩
    simp only [rA,↓reduceIte,reduceCtorEq,N1,N2,N3,N4,N5,N6,N7,I1,I2,I3,I4,L1,e40,e79,hlt,hr,hm,hwi,hi0,i64c,beq_self_eq_true]
  · intro a _
    simp only [rA,↓reduceIte,reduceCtorEq,N1,N2,N3,N4,N5,N6,N7,I1,I2,I3,I4,L1,e40]
theorem k_eqBookTicket (x : VT) (hw : x.w ≤ 4194304) : EV Tryz.prog E 80 [.val 0 true (VT.c x),.val 0 true (VT.c x)] = some ⟨[(false,[.p (.bool true)])],[]⟩ :=by
  refine EV_intro Tryz.func80 rfl ?_
  unfold VT.w at hw
  simp only [rA,↓reduceIte,reduceCtorEq,N1,N2,N3,N4,N5,N6,N7,I1,I2,I3,I4,L1,e80,Tryz.f80,VT.c,beq_self_eq_true]
theorem k_eqBookTicketS (l : List VT) (hw : wSBookTicket l ≤ 4194304) : EV Tryz.prog E 41 [.val 0 false [.sl .shr 5 (l.map VT.c)],.val 0 false [.sl .shr 5 (l.map VT.c)]] = some ⟨[(false,[.p (.bool true)])],[]⟩ :=by
  refine EV_intro Tryz.func41 rfl ?_
  have hn : l.length ≤ 4194304 :=by unfold wSBookTicket at hw; omega
  simp only [rA,↓reduceIte,reduceCtorEq,N1,N2,N3,N4,N5,N6,N7,I1,I2,I3,I4,L1,e41,Tryz.f41]
  rw [for_block l (fun i (_ : Unit) =>⟨3,[(0,.val 0 false [.sl .shr 5 (l.map VT.c)]),(1,.val 1 false [.sl .shr 5 (l.map VT.c)]),(5,.val 2 false [.p (.int .i64 i)])]⟩) (fun i _ =>True)
      (fun r i a =>.norm ⟨0,[]⟩) ?_ ?_ (a :=()) trivial (by simp only [rA,↓reduceIte,reduceCtorEq,N1,N2,N3,N4,N5,N6,N7,I1,I2,I3,I4,L1,e41]; rfl)]
  · simp only [rA,↓reduceIte,reduceCtorEq,N1,N2,N3,N4,N5,N6,N7,I1,I2,I3,I4,L1,e41]
  · intro i s r a hd hi _
    have hlen :=(List.getElem?_eq_some_iff.1 hi).1
    have hlt : ((i : Int) < (l.length : Int)) :=by omega
    have hr :=getElem?_map_some (f :=VT.c) hi
    have hwi :=wrap64 (n :=(i : Int) + 1) (by omega) (by omega)
    have hi0 : (0 : Int) ≤ (i : Int) :=by omega
    simp only [VT.c] at hr
    have hm :=k_eqBookTicket s (by have :=wSBookTicket_mem (List.mem_of_getElem? hi); unfold wSBookTicket at hw; omega)
    simp only [VT.c] at hm
    left
    refine ⟨(),?_,trivial,rfl⟩
    simp only [rA,↓reduceIte,reduceCtorEq,N1,N2,N3,N4,N5,N6,N7,I1,I2,I3,I4,L1,e41,e80,hlt,hr,hm,hwi,hi0,i64c,beq_self_eq_true]
  · intro a _
    simp only [rA,↓reduceIte,reduceCtorEq,N1,N2,N3,N4,N5,N6,N7,I1,I2,I3,I4,L1,e41]
theorem k_eqBook (x : VBook) (hw : x.w ≤ 4194304) : EV Tryz.prog E 12 [.val 0 true (VBook.c .shr x),.val 0 true (VBook.c .shr x)] = some ⟨[(false,[.p (.bool true)])],[]⟩ :=by
  refine EV_intro Tryz.func12 rfl ?_
  unfold VBook.w at hw
  have h0 :=k_eqBookObjectS x.objects (by omega)
  have h1 :=k_eqBookChangeS x.history (by omega)
  have h2 :=k_eqBookTicketS x.tickets (by omega)
  simp only [rA,↓reduceIte,reduceCtorEq,N1,N2,N3,N4,N5,N6,N7,I1,I2,I3,I4,L1,e12,e39,e40,e41,Tryz.f12,VBook.c,h0,h1,h2,beq_self_eq_true]
end Go.Proofs.YtfpconipgllkkaaGreat

