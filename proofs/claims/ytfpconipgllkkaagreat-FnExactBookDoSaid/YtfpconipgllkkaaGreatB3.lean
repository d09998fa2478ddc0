/- Objects of a book,found and copied: what the functions compute. -/
import Derived.Test.YtfpconipgllkkaaGreatF3
namespace Go.Proofs.YtfpconipgllkkaaGreat
open Go.Sx
open Nat renaming reduceEqDiff → N1,reduceAdd → N2,reduceSub → N3,reduceMul → N4,reduceLeDiff → N5,reduceBEq → N6,reduceLT → N7
open Int renaming reduceLT → I1,reduceNeg → I2,reduceLE → I3,reduceEq → I4
open List renaming reduceReplicate → L1
set_option maxRecDepth 100000
set_option maxHeartbeats 4000000
set_option linter.unusedVariables false
set_option linter.unusedSimpArgs false
abbrev objC (x : VO) : List C :=VO.c .shr x
abbrev keyC (k n : ByteArray) : List C :=[.p (.string k),.p (.string n)]
def isKey (k n : ByteArray) (o : VO) : Bool :=decide (o.kind = k) && decide (o.name = n)
def nilObj : VO :=⟨⟨#[]⟩,⟨#[]⟩,0,0,⟨#[]⟩,false,[]⟩

theorem k102 (x : VO) (hl : x.holds.length ≤ 4194304) : EV Tryz.prog E 102 [.val 0 true (VO.c .shr x)] = some ⟨[(true,x.c .own)],[]⟩ :=by
  refine EV_intro Tryz.func102 rfl ?_
  have h1 : 0 + x.holds.length < 4294967296 :=by omega
  have h2 : x.holds.length < 4294967296 :=by omega
  simp only [rA,↓reduceIte,reduceCtorEq,N1,N2,N3,N4,N5,N6,N7,I1,I2,I3,I4,L1,e102,Tryz.f102,VO.c,LIM,h1,h2,rowsString]
theorem k90 (x : VO) (hl : x.holds.length ≤ 4194304) : EV Tryz.prog E 90 [.val 0 true (VO.c .shr x)] = some ⟨[(true,x.c .own)],[]⟩ :=by
  refine EV_intro Tryz.func90 rfl ?_
  have h1 : 0 + x.holds.length < 4294967296 :=by omega
  have h2 : x.holds.length < 4294967296 :=by omega
  simp only [rA,↓reduceIte,reduceCtorEq,N1,N2,N3,N4,N5,N6,N7,I1,I2,I3,I4,L1,e90,Tryz.f90,VO.c,LIM,h1,h2,rowsString]
theorem k71 (x : VO) : EV Tryz.prog E 71 [.val 0 true (VO.c .shr x)] = some ⟨[(true,keyC x.kind x.name)],[]⟩ :=by
  refine EV_intro Tryz.func71 rfl ?_
  simp only [rA,↓reduceIte,reduceCtorEq,N1,N2,N3,N4,N5,N6,N7,I1,I2,I3,I4,L1,e71,Tryz.f71,VO.c]
theorem k108 (x : VO) (k n : ByteArray) : EV Tryz.prog E 108 [.val 0 true (VO.c .shr x),.rp (keyC k n)] = some ⟨[(false,[.p (.bool (isKey k n x))])],[]⟩ :=by
  refine EV_intro Tryz.func108 rfl ?_
  have h :=k71 x
  simp only [VO.c] at h
  unfold isKey
  simp only [rA,↓reduceIte,reduceCtorEq,N1,N2,N3,N4,N5,N6,N7,I1,I2,I3,I4,L1,e108,e71,Tryz.f108,VO.c,h]

def idxF (p : VO → Bool) : List VO → Nat → Int
  | [],_ =>-1
  | x :: r,i =>if p x = true then (i : Int) else idxF p r (i + 1)
theorem idxF_find (p : VO → Bool) : ∀ (l : List VO) (k : Nat),(l.find? p = none ∧ idxF p l k = -1) ∨ ∃ i o,l.find? p = some o ∧ l[i]? = some o ∧ p o = true ∧ idxF p l k = ((k + i : Nat) : Int)
  | [],k =>.inl ⟨rfl,rfl⟩
  | x :: r,k =>by
    by_cases h : p x = true
    · exact .inr ⟨0,x,by simp [h],rfl,h,by simp [idxF,h]⟩
    · rcases idxF_find p r (k + 1) with ⟨h1,h2⟩ | ⟨i,o,h1,h2,h3,h4⟩
      · exact .inl ⟨by simp [h,h1],by simp [idxF,h,h2]⟩
      · exact .inr ⟨i + 1,o,by simp [h,h1],by simpa using h2,h3,by simp only [idxF,h]; rw [if_neg (by simp),h4]; omega⟩
theorem idxF_lt (p : VO → Bool) {l : List VO} : idxF p l 0 < l.length ∧ -1 ≤ idxF p l 0 :=by
  rcases idxF_find p l 0 with ⟨h1,h2⟩ | ⟨i,o,h1,h2,h3,h4⟩
  · rw [h2]; omega
  · have :=(List.getElem?_eq_some_iff.1 h2).1
    rw [h4]; omega

theorem k107 {f : FuncId} {cp : List C} {p : VO → Bool} (l : List VO) (hl : l.length ≤ 4194304) (hm : (E.ann f).modes = [])
    (hp : ∀ x,EV Tryz.prog E f [.val 0 true (VO.c .shr x),.rp cp] = some ⟨[(false,[.p (.bool (p x))])],[]⟩) :
    EV Tryz.prog E 107 [.val 0 false [.sl .shr 7 (l.map (VO.c .shr))],.fn f [cp]] = some ⟨[(false,[.p (.int .i64 (idxF p l 0))])],[]⟩ :=by
  refine EV_intro Tryz.func107 rfl ?_
  simp only [rA,↓reduceIte,reduceCtorEq,N1,N2,N3,N4,N5,N6,N7,I1,I2,I3,I4,L1,e107,Tryz.f107]
  rw [for_block l (fun i (_ : Unit) =>⟨4,[(0,.val 0 false [.sl .shr 7 (l.map (VO.c .shr))]),(1,.fn f [cp]),(7,.val 2 false [.p (.int .i64 l.length)]),(8,.val 3 false [.p (.int .i64 i)])]⟩) (fun i _ =>True)
      (fun r i a =>if idxF p r i < 0 then .norm ⟨0,[]⟩ else .ret ⟨[(false,[.p (.int .i64 (idxF p r i))])],[]⟩) ?_ ?_ (a :=()) trivial (by simp only [rA,↓reduceIte,reduceCtorEq,N1,N2,N3,N4,N5,N6,N7,I1,I2,I3,I4,L1,e107]; rfl)]
  · by_cases h : idxF p l 0 < 0
    · have e : idxF p l 0 = -1 :=by have :=(idxF_lt p (l :=l)).2; omega
      simp only [rA,↓reduceIte,reduceCtorEq,N1,N2,N3,N4,N5,N6,N7,I1,I2,I3,I4,L1,e107,h,e]
    · simp only [rA,↓reduceIte,reduceCtorEq,N1,N2,N3,N4,N5,N6,N7,I1,I2,I3,I4,L1,e107,h]
  · intro i x r a hd hi _
    have hlen :=(List.getElem?_eq_some_iff.1 hi).1
    have hlt : ((i : Int) < (l.length : Int)) :=by omega
    have hr :=getElem?_map_some (f :=VO.c .shr) hi
    have hwi :=wrap64 (n :=(i : Int) + 1) (by omega) (by omega)
    have hi0 : (0 : Int) ≤ (i : Int) :=by omega
    have hk :=hp x
    simp only [VO.c] at hr hk
    cases d : p x
    · left
      refine ⟨(),?_,trivial,by simp [idxF,d]⟩
      simp only [rA,↓reduceIte,reduceCtorEq,N1,N2,N3,N4,N5,N6,N7,I1,I2,I3,I4,L1,e107,hlt,hr,hwi,hi0,hk,hm,d,i64c]
    · right
      have hn : ¬ ((i : Int) < 0) :=by omega
      simp only [rA,↓reduceIte,reduceCtorEq,N1,N2,N3,N4,N5,N6,N7,I1,I2,I3,I4,L1,e107,hlt,hr,hwi,hi0,hk,hm,d,idxF,hn]
  · intro a _
    have hn : ¬ ((l.length : Int) < (l.length : Int)) :=by omega
    simp only [rA,↓reduceIte,reduceCtorEq,N1,N2,N3,N4,N5,N6,N7,I1,I2,I3,I4,L1,e107,hn,idxF]
theorem k77 (l : List VO) (k n : ByteArray) (hl : l.length ≤ 4194304) :
    EV Tryz.prog E 77 [.val 0 false [.sl .shr 7 (l.map (VO.c .shr))],.val 0 true (keyC k n)] = some ⟨[(false,[.p (.int .i64 (idxF (isKey k n) l 0))])],[]⟩ :=by
  refine EV_intro Tryz.func77 rfl ?_
  have h :=k107 (cp :=keyC k n) (p :=isKey k n) l hl (show (E.ann 108).modes = [] from rfl) (fun x =>k108 x k n)
  simp only [rA,↓reduceIte,reduceCtorEq,N1,N2,N3,N4,N5,N6,N7,I1,I2,I3,I4,L1,e77,e107,Tryz.f77,h]

def bfind (l : List VO) (k n : ByteArray) : VO × Bool :=match l.find? (isKey k n) with
  | some o =>(o,true)
  | none =>(nilObj,false)
theorem sum_obj_le {l : List VO} {x : VO} (h : x ∈ l) : x.w ≤ sumWBookObject l :=wSBookObject_mem h
theorem bfind_w (b : VBook) (k n : ByteArray) : (bfind b.objects k n).1.w ≤ b.w :=by
  unfold bfind
  cases h : b.objects.find? (isKey k n) with
  | none =>
    have e : (⟨#[]⟩ : ByteArray).size = 0 :=rfl
    simp only [nilObj,VO.w,wSString,sumWString,List.length_nil,e]
    omega
  | some o =>
    have :=sum_obj_le (List.mem_of_find?_eq_some h)
    simp only
    unfold VBook.w wSBookObject
    omega
theorem holds_le {x : VO} {n : Nat} (h : x.w ≤ n) : x.holds.length ≤ n :=by
  unfold VO.w wSString at h
  omega

theorem k63 (b : VBook) (k n : ByteArray) (hw : b.w ≤ 4194304) : EV Tryz.prog E 63 [.val 0 true (b.c .shr),.val 0 false [.p (.string k)],.val 0 false [.p (.string n)]] =
    some ⟨[(true,(bfind b.objects k n).1.c .own),(false,[.p (.bool (bfind b.objects k n).2)])],[]⟩ :=by
  refine EV_intro Tryz.func63 rfl ?_
  have hll : b.objects.length ≤ 4194304 :=by unfold VBook.w wSBookObject at hw; omega
  simp only [rA,↓reduceIte,reduceCtorEq,N1,N2,N3,N4,N5,N6,N7,I1,I2,I3,I4,L1,e63,Tryz.f63,VBook.c]
  rw [for_block b.objects (fun i (_ : Unit) =>⟨5,[(1,.val 0 false [.p (.string k)]),(2,.val 1 false [.p (.string n)]),(3,.box 2 2 (b.c .shr)),(6,.box 3 3 (nilObj.c .own)),(8,.val 4 false [.p (.int .i64 i)])]⟩) (fun i _ =>True)
      (fun r i a =>match r.find? (isKey k n) with
        | some o =>.ret ⟨[(true,o.c .own),(false,[.p (.bool true)])],[]⟩
        | none =>.norm ⟨1,[(6,.box 0 0 (nilObj.c .own))]⟩) ?_ ?_ (a :=()) trivial (by simp only [rA,↓reduceIte,reduceCtorEq,N1,N2,N3,N4,N5,N6,N7,I1,I2,I3,I4,L1,e63,VBook.c,VO.c,nilObj]; rfl)]
  · unfold bfind
    cases h : b.objects.find? (isKey k n) with
    | none =>simp only [rA,↓reduceIte,reduceCtorEq,N1,N2,N3,N4,N5,N6,N7,I1,I2,I3,I4,L1,e63,VO.c,nilObj,List.map_nil]
    | some o =>simp only [rA,↓reduceIte,reduceCtorEq,N1,N2,N3,N4,N5,N6,N7,I1,I2,I3,I4,L1,e63]
  · intro i x r a hd hi _
    have hlen :=(List.getElem?_eq_some_iff.1 hi).1
    have hlt : ((i : Int) < (b.objects.length : Int)) :=by omega
    have hr :=getElem?_map_some (f :=VO.c .shr) hi
    have hwi :=wrap64 (n :=(i : Int) + 1) (by omega) (by omega)
    have hi0 : (0 : Int) ≤ (i : Int) :=by omega
    have hxw : x.w ≤ 4194304 :=by have :=sum_obj_le (List.mem_of_getElem? hi); unfold VBook.w wSBookObject at hw; omega
    have h56 :=k102 x (holds_le hxw)
    simp only [VO.c] at hr h56
    by_cases d1 : x.kind = k
    · by_cases d2 : x.name = n
      · right
        have hf : (x :: r).find? (isKey k n) = some x :=by simp [isKey,d1,d2]
        rw [hf]
        subst d1 d2
        simp only [rA,↓reduceIte,reduceCtorEq,N1,N2,N3,N4,N5,N6,N7,I1,I2,I3,I4,L1,e63,e102,VBook.c,VO.c,nilObj,hlt,hr,hi0,h56,rowsString,List.map_nil]
      · left
        have hf : (x :: r).find? (isKey k n) = r.find? (isKey k n) :=by simp [isKey,d2]
        refine ⟨(),?_,trivial,by rw [hf]⟩
        simp only [rA,↓reduceIte,reduceCtorEq,N1,N2,N3,N4,N5,N6,N7,I1,I2,I3,I4,L1,e63,VBook.c,VO.c,nilObj,hlt,hr,hi0,hwi,d1,d2,i64c]
    · left
      have hf : (x :: r).find? (isKey k n) = r.find? (isKey k n) :=by simp [isKey,d1]
      refine ⟨(),?_,trivial,by rw [hf]⟩
      simp only [rA,↓reduceIte,reduceCtorEq,N1,N2,N3,N4,N5,N6,N7,I1,I2,I3,I4,L1,e63,VBook.c,VO.c,nilObj,hlt,hr,hi0,hwi,d1,i64c]
  · intro a _
    have hn : ¬ ((b.objects.length : Int) < (b.objects.length : Int)) :=by omega
    simp only [rA,↓reduceIte,reduceCtorEq,N1,N2,N3,N4,N5,N6,N7,I1,I2,I3,I4,L1,e63,VBook.c,VO.c,nilObj,hn,List.find?_nil]
end Go.Proofs.YtfpconipgllkkaaGreat

