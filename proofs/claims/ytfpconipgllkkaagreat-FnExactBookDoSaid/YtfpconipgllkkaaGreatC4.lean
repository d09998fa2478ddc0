/- Copies of objects,changes,books and mirrors: what the functions compute. -/
import Derived.Test.YtfpconipgllkkaaGreatV3s
import Derived.Test.YtfpconipgllkkaaGreatSxD
namespace Go.Proofs.YtfpconipgllkkaaGreat
open Go.Sx
open Nat renaming reduceEqDiff → N1,reduceAdd → N2,reduceSub → N3,reduceMul → N4,reduceLeDiff → N5,reduceBEq → N6,reduceLT → N7
open Int renaming reduceLT → I1,reduceNeg → I2,reduceLE → I3,reduceEq → I4
open List renaming reduceReplicate → L1
set_option maxRecDepth 100000
set_option maxHeartbeats 4000000
set_option linter.unusedVariables false
set_option linter.unusedSimpArgs false
theorem map_snoc {α β : Type} (f : α → β) {l : List α} {i : Nat} {x : α} (h : l[i]? = some x) : (l.take (i + 1)).map f = (l.take i).map f ++ [f x] :=by
  rw [take_snoc h,List.map_append]; rfl
theorem take_le {α : Type} (l : List α) (i : Nat) : (l.take i).length ≤ l.length :=by rw [List.length_take]; omega
theorem k64 (l : List VO) (hw : wSBookObject l ≤ 4194304) : EV Tryz.prog E 64 [.val 0 false [.sl .shr 7 (l.map (VO.c .shr))]] = some ⟨[(false,[.sl .own 7 (l.map (VO.c .own))])],[]⟩ :=by
  refine EV_intro Tryz.func64 rfl ?_
  unfold wSBookObject at hw
  simp only [rA,↓reduceIte,reduceCtorEq,N1,N2,N3,N4,N5,N6,N7,I1,I2,I3,I4,L1,e64,Tryz.f64]
  rw [for_block l (fun i (_ : Unit) =>⟨3,[(0,.val 0 false [.sl .shr 7 (l.map (VO.c .shr))]),(3,.val 1 false [.sl .own 7 ((l.take i).map (VO.c .own))]),(4,.val 2 false [.p (.int .i64 i)])]⟩) (fun i _ =>True)
    (fun r i a =>.norm ⟨1,[(3,.val 0 false [.sl .own 7 (l.map (VO.c .own))])]⟩) ?_ ?_ (a :=()) trivial (by simp only [rA,↓reduceIte,reduceCtorEq,N1,N2,N3,N4,N5,N6,N7,I1,I2,I3,I4,L1,e64,List.take_zero,List.map_nil]; rfl)]
  · simp only [rA,↓reduceIte,reduceCtorEq,N1,N2,N3,N4,N5,N6,N7,I1,I2,I3,I4,L1,e64,rowsBookObject]
  · intro i x r a hd hi _
    have hlen :=(List.getElem?_eq_some_iff.1 hi).1
    have hlt : ((i : Int) < (l.length : Int)) :=by omega
    have hr :=getElem?_map_some (f :=VO.c .shr) hi
    have hi0 : (0 : Int) ≤ (i : Int) :=by omega
    have hwi :=wrap64 (n :=(i : Int) + 1) (by omega) (by omega)
    have hxw :=sum_obj_le (List.mem_of_getElem? hi)
    have hxl : x.holds.length ≤ 4194304 :=holds_le (n :=4194304) (by omega)
    have h2 :=k102 x hxl
    have hll :=take_le l i
    have hs :=map_snoc (VO.c .own) hi
    simp only [VO.c] at h2 hr hs
    left
    refine ⟨(),?_,trivial,rfl⟩
    have hL1 : (l.take i).length + 1 < 4294967296 :=by omega
    simp only [rA,↓reduceIte,reduceCtorEq,N1,N2,N3,N4,N5,N6,N7,I1,I2,I3,I4,L1,e64,e102,VO.c,hlt,hr,hi0,hwi,h2,hs,i64c,LIM,hL1,rowsBookObject,rowsString]
  · intro a _
    simp only [rA,↓reduceIte,reduceCtorEq,N1,N2,N3,N4,N5,N6,N7,I1,I2,I3,I4,L1,e64,List.take_length]
theorem k75 (l : List VO) (hw : wSBookObject l ≤ 4194304) : EV Tryz.prog E 75 [.val 0 false [.sl .shr 7 (l.map (VO.c .shr))]] = some ⟨[(false,[.sl .own 7 (l.map (VO.c .own))])],[]⟩ :=by
  refine EV_intro Tryz.func75 rfl ?_
  unfold wSBookObject at hw
  simp only [rA,↓reduceIte,reduceCtorEq,N1,N2,N3,N4,N5,N6,N7,I1,I2,I3,I4,L1,e75,Tryz.f75]
  rw [for_block l (fun i (_ : Unit) =>⟨5,[(0,.val 0 false [.sl .shr 7 (l.map (VO.c .shr))]),(3,.val 1 false [.sl .own 7 ((l.take i).map (VO.c .own))]),(6,.val 2 false [.sl .shr 7 (l.map (VO.c .shr))]),(7,.val 3 false [.p (.int .i64 l.length)]),(8,.val 4 false [.p (.int .i64 i)])]⟩) (fun i _ =>True)
    (fun r i a =>.norm ⟨1,[(3,.val 0 false [.sl .own 7 (l.map (VO.c .own))])]⟩) ?_ ?_ (a :=()) trivial (by simp only [rA,↓reduceIte,reduceCtorEq,N1,N2,N3,N4,N5,N6,N7,I1,I2,I3,I4,L1,e75,List.take_zero,List.map_nil]; rfl)]
  · simp only [rA,↓reduceIte,reduceCtorEq,N1,N2,N3,N4,N5,N6,N7,I1,I2,I3,I4,L1,e75,rowsBookObject]
  · intro i x r a hd hi _
    have hlen :=(List.getElem?_eq_some_iff.1 hi).1
    have hlt : ((i : Int) < (l.length : Int)) :=by omega
    have hr :=getElem?_map_some (f :=VO.c .shr) hi
    have hi0 : (0 : Int) ≤ (i : Int) :=by omega
    have hwi :=wrap64 (n :=(i : Int) + 1) (by omega) (by omega)
    have hxw :=sum_obj_le (List.mem_of_getElem? hi)
    have hxl : x.holds.length ≤ 4194304 :=holds_le (n :=4194304) (by omega)
    have h2 :=k90 x hxl
    have hll :=take_le l i
    have hs :=map_snoc (VO.c .own) hi
    simp only [VO.c] at h2 hr hs
    left
    refine ⟨(),?_,trivial,rfl⟩
    have hL1 : (l.take i).length + 1 < 4294967296 :=by omega
    simp only [rA,↓reduceIte,reduceCtorEq,N1,N2,N3,N4,N5,N6,N7,I1,I2,I3,I4,L1,e75,e90,VO.c,hlt,hr,hi0,hwi,h2,hs,i64c,LIM,hL1,rowsBookObject,rowsString]
  · intro a _
    simp only [rA,↓reduceIte,reduceCtorEq,N1,N2,N3,N4,N5,N6,N7,I1,I2,I3,I4,L1,e75,List.take_length]
theorem k65 (l : List VC) (hw : wSBookChange l ≤ 4194304) : EV Tryz.prog E 65 [.val 0 false [.sl .shr 9 (l.map (VC.c .shr))]] = some ⟨[(false,[.sl .own 9 (l.map (VC.c .own))])],[]⟩ :=by
  refine EV_intro Tryz.func65 rfl ?_
  unfold wSBookChange at hw
  simp only [rA,↓reduceIte,reduceCtorEq,N1,N2,N3,N4,N5,N6,N7,I1,I2,I3,I4,L1,e65,Tryz.f65]
  rw [for_block l (fun i (_ : Unit) =>⟨3,[(0,.val 0 false [.sl .shr 9 (l.map (VC.c .shr))]),(3,.val 1 false [.sl .own 9 ((l.take i).map (VC.c .own))]),(4,.val 2 false [.p (.int .i64 i)])]⟩) (fun i _ =>True)
    (fun r i a =>.norm ⟨1,[(3,.val 0 false [.sl .own 9 (l.map (VC.c .own))])]⟩) ?_ ?_ (a :=()) trivial (by simp only [rA,↓reduceIte,reduceCtorEq,N1,N2,N3,N4,N5,N6,N7,I1,I2,I3,I4,L1,e65,List.take_zero,List.map_nil]; rfl)]
  · simp only [rA,↓reduceIte,reduceCtorEq,N1,N2,N3,N4,N5,N6,N7,I1,I2,I3,I4,L1,e65,rowsBookChange]
  · intro i x r a hd hi _
    have hlen :=(List.getElem?_eq_some_iff.1 hi).1
    have hlt : ((i : Int) < (l.length : Int)) :=by omega
    have hr :=getElem?_map_some (f :=VC.c .shr) hi
    have hi0 : (0 : Int) ≤ (i : Int) :=by omega
    have hwi :=wrap64 (n :=(i : Int) + 1) (by omega) (by omega)
    have hxw :=wSBookChange_mem (List.mem_of_getElem? hi)
    have hxl : x.object.holds.length ≤ 4194304 :=holds_le (n :=4194304) (by unfold VC.w at hxw; omega)
    have h2 :=k102 x.object hxl
    have hll :=take_le l i
    have hs :=map_snoc (VC.c .own) hi
    simp only [VO.c,VC.c] at h2 hr hs
    left
    refine ⟨(),?_,trivial,rfl⟩
    have hL1 : (l.take i).length + 1 < 4294967296 :=by omega
    simp only [rA,↓reduceIte,reduceCtorEq,N1,N2,N3,N4,N5,N6,N7,I1,I2,I3,I4,L1,e65,e102,VO.c,VC.c,hlt,hr,hi0,hwi,h2,hs,i64c,LIM,hL1,rowsBookChange,rowsBookObject,rowsString]
  · intro a _
    simp only [rA,↓reduceIte,reduceCtorEq,N1,N2,N3,N4,N5,N6,N7,I1,I2,I3,I4,L1,e65,List.take_length]
theorem k76 (l : List VC) (hw : wSBookChange l ≤ 4194304) : EV Tryz.prog E 76 [.val 0 false [.sl .shr 9 (l.map (VC.c .shr))]] = some ⟨[(false,[.sl .own 9 (l.map (VC.c .own))])],[]⟩ :=by
  refine EV_intro Tryz.func76 rfl ?_
  unfold wSBookChange at hw
  simp only [rA,↓reduceIte,reduceCtorEq,N1,N2,N3,N4,N5,N6,N7,I1,I2,I3,I4,L1,e76,Tryz.f76]
  rw [for_block l (fun i (_ : Unit) =>⟨5,[(0,.val 0 false [.sl .shr 9 (l.map (VC.c .shr))]),(3,.val 1 false [.sl .own 9 ((l.take i).map (VC.c .own))]),(6,.val 2 false [.sl .shr 9 (l.map (VC.c .shr))]),(7,.val 3 false [.p (.int .i64 l.length)]),(8,.val 4 false [.p (.int .i64 i)])]⟩) (fun i _ =>True)
    (fun r i a =>.norm ⟨1,[(3,.val 0 false [.sl .own 9 (l.map (VC.c .own))])]⟩) ?_ ?_ (a :=()) trivial (by simp only [rA,↓reduceIte,reduceCtorEq,N1,N2,N3,N4,N5,N6,N7,I1,I2,I3,I4,L1,e76,List.take_zero,List.map_nil]; rfl)]
  · simp only [rA,↓reduceIte,reduceCtorEq,N1,N2,N3,N4,N5,N6,N7,I1,I2,I3,I4,L1,e76,rowsBookChange]
  · intro i x r a hd hi _
    have hlen :=(List.getElem?_eq_some_iff.1 hi).1
    have hlt : ((i : Int) < (l.length : Int)) :=by omega
    have hr :=getElem?_map_some (f :=VC.c .shr) hi
    have hi0 : (0 : Int) ≤ (i : Int) :=by omega
    have hwi :=wrap64 (n :=(i : Int) + 1) (by omega) (by omega)
    have hxw :=wSBookChange_mem (List.mem_of_getElem? hi)
    have hxl : x.object.holds.length ≤ 4194304 :=holds_le (n :=4194304) (by unfold VC.w at hxw; omega)
    have h2 :=k90 x.object hxl
    have hll :=take_le l i
    have hs :=map_snoc (VC.c .own) hi
    simp only [VO.c,VC.c] at h2 hr hs
    left
    refine ⟨(),?_,trivial,rfl⟩
    have hL1 : (l.take i).length + 1 < 4294967296 :=by omega
    simp only [rA,↓reduceIte,reduceCtorEq,N1,N2,N3,N4,N5,N6,N7,I1,I2,I3,I4,L1,e76,e90,VO.c,VC.c,hlt,hr,hi0,hwi,h2,hs,i64c,LIM,hL1,rowsBookChange,rowsBookObject,rowsString]
  · intro a _
    simp only [rA,↓reduceIte,reduceCtorEq,N1,N2,N3,N4,N5,N6,N7,I1,I2,I3,I4,L1,e76,List.take_length]
theorem k29 (b : VBook) (hw : b.w ≤ 4194304) : EV Tryz.prog E 29 [.val 0 true (b.c .shr)] = some ⟨[(true,b.c .own)],[]⟩ :=by
  refine EV_intro Tryz.func29 rfl ?_
  have h1 :=k64 b.objects (by unfold VBook.w at hw; omega)
  have h2 :=k65 b.history (by unfold VBook.w at hw; omega)
  have h3 : 0 + b.tickets.length < 4294967296 :=by unfold VBook.w wSBookTicket at hw; omega
  have h4 : b.tickets.length < 4294967296 :=by unfold VBook.w wSBookTicket at hw; omega
  simp only [rA,↓reduceIte,reduceCtorEq,N1,N2,N3,N4,N5,N6,N7,I1,I2,I3,I4,L1,e29,e64,e65,Tryz.f29,VBook.c,h1,h2,h3,h4,LIM,rowsBookObject,rowsBookChange,rowsBookTicket]
theorem k37 (b : VBook) (hw : b.w ≤ 4194304) : EV Tryz.prog E 37 [.val 0 true (b.c .shr)] = some ⟨[(true,b.c .own)],[]⟩ :=by
  refine EV_intro Tryz.func37 rfl ?_
  have h1 :=k75 b.objects (by unfold VBook.w at hw; omega)
  have h2 :=k76 b.history (by unfold VBook.w at hw; omega)
  have h3 : 0 + b.tickets.length < 4294967296 :=by unfold VBook.w wSBookTicket at hw; omega
  have h4 : b.tickets.length < 4294967296 :=by unfold VBook.w wSBookTicket at hw; omega
  simp only [rA,↓reduceIte,reduceCtorEq,N1,N2,N3,N4,N5,N6,N7,I1,I2,I3,I4,L1,e37,e75,e76,Tryz.f37,VBook.c,h1,h2,h3,h4,LIM,rowsBookObject,rowsBookChange,rowsBookTicket]
end Go.Proofs.YtfpconipgllkkaaGreat

