/- Writes: what the checks of their form answer; texts in a list. -/
import Derived.Test.YtfpconipgllkkaaGreatV3t
import Derived.Test.YtfpconipgllkkaaGreatF6
namespace Go.Proofs.YtfpconipgllkkaaGreat
open Go.Sx
open Nat renaming reduceEqDiff → N1,reduceAdd → N2,reduceSub → N3,reduceMul → N4,reduceLeDiff → N5,reduceBEq → N6,reduceLT → N7
open Int renaming reduceLT → I1,reduceNeg → I2,reduceLE → I3,reduceEq → I4
open List renaming reduceReplicate → L1
set_option maxRecDepth 100000
set_option maxHeartbeats 8000000
set_option linter.unusedVariables false
set_option linter.unusedSimpArgs false
theorem szNil : ((⟨#[]⟩ : ByteArray).size : Int) = 0 :=rfl
def nilT : ByteArray :=⟨#[]⟩
def wrB (w : VW) : Bool :=inR w.op 1 5 && (nameB w.kind && (nameB w.name && (decide (0 ≤ w.seen) && (decide ((w.text.size : Int) ≤ 300) && ((decide (w.hold = ⟨#[]⟩) || nameB w.hold) &&
  ((decide (w.op ≤ 2) || decide (w.text = ⟨#[]⟩)) && ((!decide (w.op = 1) || decide (w.seen = 0)) && (decide (w.op = 1) || if w.op ≤ 3 then decide (w.hold = ⟨#[]⟩) else !decide (w.hold = ⟨#[]⟩)))))))))

theorem k51 (w : VW) : EV Tryz.prog E 51 [.val 0 true (VW.c w)] = some ⟨[(false,[.p (.bool (wrB w))])],[]⟩ :=by
  refine EV_intro Tryz.func51 rfl ?_
  obtain ⟨op,kind,name,seen,text,hold⟩ :=w
  have h1 :=k74 kind
  have h2 :=k74 name
  have h3 :=k74 hold
  unfold wrB
  unfold inR
  by_cases c1 : 1 ≤ op
  case neg =>
    have d1 : op < 1 :=by omega
    simp only [rA,↓reduceIte,reduceCtorEq,N1,N2,N3,N4,N5,N6,N7,I1,I2,I3,I4,L1,e51,e74,Tryz.f51,VW.c,h1,h2,c1,d1]
  have d1 : ¬ (op < 1) :=by omega
  by_cases c2 : op ≤ 5
  case neg =>
    have d2 : 5 < op :=by omega
    simp only [rA,↓reduceIte,reduceCtorEq,N1,N2,N3,N4,N5,N6,N7,I1,I2,I3,I4,L1,e51,e74,Tryz.f51,VW.c,h1,h2,c1,d1,c2,d2]
  have d2 : ¬ (5 < op) :=by omega
  cases c3 : nameB kind
  · simp only [rA,↓reduceIte,reduceCtorEq,N1,N2,N3,N4,N5,N6,N7,I1,I2,I3,I4,L1,e51,e74,Tryz.f51,VW.c,h1,h2,c1,d1,c2,d2,c3]
  cases c4 : nameB name
  · simp only [rA,↓reduceIte,reduceCtorEq,N1,N2,N3,N4,N5,N6,N7,I1,I2,I3,I4,L1,e51,e74,Tryz.f51,VW.c,h1,h2,c1,d1,c2,d2,c3,c4]
  by_cases c5 : 0 ≤ seen
  case neg =>
    have d5 : seen < 0 :=by omega
    simp only [rA,↓reduceIte,reduceCtorEq,N1,N2,N3,N4,N5,N6,N7,I1,I2,I3,I4,L1,e51,e74,Tryz.f51,VW.c,h1,h2,c1,d1,c2,d2,c3,c4,c5,d5]
  have d5 : ¬ (seen < 0) :=by omega
  by_cases c6 : (text.size : Int) ≤ 300
  case neg =>
    have d6 : 300 < (text.size : Int) :=by omega
    simp only [rA,↓reduceIte,reduceCtorEq,N1,N2,N3,N4,N5,N6,N7,I1,I2,I3,I4,L1,e51,e74,Tryz.f51,VW.c,h1,h2,c1,d1,c2,d2,c3,c4,c5,d5,c6,d6]
  have d6 : ¬ (300 < (text.size : Int)) :=by omega
  by_cases c7 : hold = ⟨#[]⟩
  · by_cases c9 : text = ⟨#[]⟩ <;> by_cases c10 : seen = 0 <;> rcases (show op = 1 ∨ op = 2 ∨ op = 3 ∨ op = 4 ∨ op = 5 by omega) with rfl | rfl | rfl | rfl | rfl <;>
      simp only [rA,↓reduceIte,reduceCtorEq,N1,N2,N3,N4,N5,N6,N7,I1,I2,I3,I4,L1,e51,e74,Tryz.f51,VW.c,h1,h2,c3,c4,c5,d5,c6,d6,c7,c9,c10,szNil]
  · cases c8 : nameB hold
    · simp only [rA,↓reduceIte,reduceCtorEq,N1,N2,N3,N4,N5,N6,N7,I1,I2,I3,I4,L1,e51,e74,Tryz.f51,VW.c,h1,h2,c1,d1,c2,d2,c3,c4,c5,d5,c6,d6,c7,h3,c8]
    by_cases c9 : text = ⟨#[]⟩ <;> by_cases c10 : seen = 0 <;> rcases (show op = 1 ∨ op = 2 ∨ op = 3 ∨ op = 4 ∨ op = 5 by omega) with rfl | rfl | rfl | rfl | rfl <;>
      simp only [rA,↓reduceIte,reduceCtorEq,N1,N2,N3,N4,N5,N6,N7,I1,I2,I3,I4,L1,e51,e74,Tryz.f51,VW.c,h1,h2,c3,c4,c5,d5,c6,d6,c7,h3,c8,c9,c10,szNil]
theorem k62 (w : VW) : EV Tryz.prog E 62 [.val 0 true (VW.c w)] = some ⟨[(false,[.p (.bool (wrB w))])],[]⟩ :=by
  refine EV_intro Tryz.func62 rfl ?_
  obtain ⟨op,kind,name,seen,text,hold⟩ :=w
  have h1 :=k61 kind
  have h2 :=k61 name
  have h3 :=k61 hold
  have h0 :=k57 op 1 5
  unfold wrB
  unfold inR at h0
  unfold inR
  by_cases c1 : 1 ≤ op
  case neg =>
    have d1 : op < 1 :=by omega
    simp only [rA,↓reduceIte,reduceCtorEq,N1,N2,N3,N4,N5,N6,N7,I1,I2,I3,I4,L1,e62,e61,e57,Tryz.f62,VW.c,h1,h2,h0,c1,d1]
  have d1 : ¬ (op < 1) :=by omega
  by_cases c2 : op ≤ 5
  case neg =>
    have d2 : 5 < op :=by omega
    simp only [rA,↓reduceIte,reduceCtorEq,N1,N2,N3,N4,N5,N6,N7,I1,I2,I3,I4,L1,e62,e61,e57,Tryz.f62,VW.c,h1,h2,h0,c1,d1,c2,d2]
  have d2 : ¬ (5 < op) :=by omega
  cases c3 : nameB kind
  · simp only [rA,↓reduceIte,reduceCtorEq,N1,N2,N3,N4,N5,N6,N7,I1,I2,I3,I4,L1,e62,e61,e57,Tryz.f62,VW.c,h1,h2,h0,c1,d1,c2,d2,c3]
  cases c4 : nameB name
  · simp only [rA,↓reduceIte,reduceCtorEq,N1,N2,N3,N4,N5,N6,N7,I1,I2,I3,I4,L1,e62,e61,e57,Tryz.f62,VW.c,h1,h2,h0,c1,d1,c2,d2,c3,c4]
  by_cases c5 : 0 ≤ seen
  case neg =>
    have d5 : seen < 0 :=by omega
    simp only [rA,↓reduceIte,reduceCtorEq,N1,N2,N3,N4,N5,N6,N7,I1,I2,I3,I4,L1,e62,e61,e57,Tryz.f62,VW.c,h1,h2,h0,c1,d1,c2,d2,c3,c4,c5,d5]
  have d5 : ¬ (seen < 0) :=by omega
  by_cases c6 : (text.size : Int) ≤ 300
  case neg =>
    have d6 : 300 < (text.size : Int) :=by omega
    simp only [rA,↓reduceIte,reduceCtorEq,N1,N2,N3,N4,N5,N6,N7,I1,I2,I3,I4,L1,e62,e61,e57,Tryz.f62,VW.c,h1,h2,h0,c1,d1,c2,d2,c3,c4,c5,d5,c6,d6]
  have d6 : ¬ (300 < (text.size : Int)) :=by omega
  by_cases c7 : hold = ⟨#[]⟩
  · by_cases c9 : text = ⟨#[]⟩ <;> by_cases c10 : seen = 0 <;> rcases (show op = 1 ∨ op = 2 ∨ op = 3 ∨ op = 4 ∨ op = 5 by omega) with rfl | rfl | rfl | rfl | rfl <;>
      simp only [rA,↓reduceIte,reduceCtorEq,N1,N2,N3,N4,N5,N6,N7,I1,I2,I3,I4,L1,e62,e61,e57,Tryz.f62,VW.c,h1,h2,h0,c3,c4,c5,d5,c6,d6,c7,c9,c10,szNil]
  · cases c8 : nameB hold
    · simp only [rA,↓reduceIte,reduceCtorEq,N1,N2,N3,N4,N5,N6,N7,I1,I2,I3,I4,L1,e62,e61,e57,Tryz.f62,VW.c,h1,h2,h0,c1,d1,c2,d2,c3,c4,c5,d5,c6,d6,c7,h3,c8]
    by_cases c9 : text = ⟨#[]⟩ <;> by_cases c10 : seen = 0 <;> rcases (show op = 1 ∨ op = 2 ∨ op = 3 ∨ op = 4 ∨ op = 5 by omega) with rfl | rfl | rfl | rfl | rfl <;>
      simp only [rA,↓reduceIte,reduceCtorEq,N1,N2,N3,N4,N5,N6,N7,I1,I2,I3,I4,L1,e62,e61,e57,Tryz.f62,VW.c,h1,h2,h0,c3,c4,c5,d5,c6,d6,c7,h3,c8,c9,c10,szNil]

def idxT (h : ByteArray) : List ByteArray → Nat → Int
  | [],_ =>-1
  | x :: r,i =>if h = x then (i : Int) else idxT h r (i + 1)
theorem idxT_ge (h : ByteArray) : ∀ (l : List ByteArray) (i : Nat),-1 ≤ idxT h l i
  | [],_ =>by simp [idxT]
  | x :: r,i =>by
    by_cases d : h = x
    · simp [idxT,d]
    · simpa [idxT,d] using idxT_ge h r (i + 1)
theorem k91 (l : List ByteArray) (h : ByteArray) (hl : l.length ≤ 4194304) : EV Tryz.prog E 91 [.val 0 false [.sl .shr 1 (l.map strC)],.val 0 false [.p (.string h)]] = some ⟨[(false,[.p (.int .i64 (idxT h l 0))])],[]⟩ :=by
  refine EV_intro Tryz.func91 rfl ?_
  simp only [rA,↓reduceIte,reduceCtorEq,N1,N2,N3,N4,N5,N6,N7,I1,I2,I3,I4,L1,e91,Tryz.f91]
  rw [for_block l (fun i (_ : Unit) =>⟨4,[(0,.val 0 false [.sl .shr 1 (l.map strC)]),(1,.val 1 false [.p (.string h)]),(7,.val 2 false [.p (.int .i64 l.length)]),(8,.val 3 false [.p (.int .i64 i)])]⟩) (fun i _ =>True)
      (fun r i a =>if idxT h r i < 0 then .norm ⟨0,[]⟩ else .ret ⟨[(false,[.p (.int .i64 (idxT h r i))])],[]⟩) ?_ ?_ (a :=()) trivial (by simp only [rA,↓reduceIte,reduceCtorEq,N1,N2,N3,N4,N5,N6,N7,I1,I2,I3,I4,L1,e91]; rfl)]
  · by_cases q : idxT h l 0 < 0
    · have e : idxT h l 0 = -1 :=by have :=idxT_ge h l 0; omega
      simp only [rA,↓reduceIte,reduceCtorEq,N1,N2,N3,N4,N5,N6,N7,I1,I2,I3,I4,L1,e91,q,e]
    · simp only [rA,↓reduceIte,reduceCtorEq,N1,N2,N3,N4,N5,N6,N7,I1,I2,I3,I4,L1,e91,q]
  · intro i x r a hd hi _
    have hlen :=(List.getElem?_eq_some_iff.1 hi).1
    have hlt : ((i : Int) < (l.length : Int)) :=by omega
    have hr :=getElem?_map_some (f :=strC) hi
    have hwi :=wrap64 (n :=(i : Int) + 1) (by omega) (by omega)
    have hi0 : (0 : Int) ≤ (i : Int) :=by omega
    simp only [strC] at hr
    by_cases d : h = x
    · right
      have hn : ¬ ((i : Int) < 0) :=by omega
      simp only [rA,↓reduceIte,reduceCtorEq,N1,N2,N3,N4,N5,N6,N7,I1,I2,I3,I4,L1,e91,hlt,hr,hwi,hi0,d,idxT,hn]
    · left
      refine ⟨(),?_,trivial,by simp [idxT,d]⟩
      simp only [rA,↓reduceIte,reduceCtorEq,N1,N2,N3,N4,N5,N6,N7,I1,I2,I3,I4,L1,e91,hlt,hr,hwi,hi0,d,i64c]
  · intro a _
    have hn : ¬ ((l.length : Int) < (l.length : Int)) :=by omega
    simp only [rA,↓reduceIte,reduceCtorEq,N1,N2,N3,N4,N5,N6,N7,I1,I2,I3,I4,L1,e91,hn,idxT]
def hasF (h : ByteArray) : List ByteArray → Bool
  | [] =>false
  | x :: r =>decide (x = h) || hasF h r
theorem k111 (l : List ByteArray) (h : ByteArray) (hl : l.length ≤ 4194304) : EV Tryz.prog E 111 [.val 0 false [.sl .shr 1 (l.map strC)],.val 0 false [.p (.string h)]] = some ⟨[(false,[.p (.bool (hasF h l))])],[]⟩ :=by
  refine EV_intro Tryz.func111 rfl ?_
  simp only [rA,↓reduceIte,reduceCtorEq,N1,N2,N3,N4,N5,N6,N7,I1,I2,I3,I4,L1,e111,Tryz.f111]
  rw [for_block l (fun i (_ : Unit) =>⟨3,[(0,.val 0 false [.sl .shr 1 (l.map strC)]),(1,.val 1 false [.p (.string h)]),(5,.val 2 false [.p (.int .i64 i)])]⟩) (fun i _ =>True)
      (fun r i a =>if hasF h r = true then .ret ⟨[(false,[.p (.bool true)])],[]⟩ else .norm ⟨0,[]⟩) ?_ ?_ (a :=()) trivial (by simp only [rA,↓reduceIte,reduceCtorEq,N1,N2,N3,N4,N5,N6,N7,I1,I2,I3,I4,L1,e111]; rfl)]
  · cases q : hasF h l
    · simp only [rA,↓reduceIte,reduceCtorEq,N1,N2,N3,N4,N5,N6,N7,I1,I2,I3,I4,L1,e111,q]
    · simp only [rA,↓reduceIte,reduceCtorEq,N1,N2,N3,N4,N5,N6,N7,I1,I2,I3,I4,L1,e111,q]
  · intro i x r a hd hi _
    have hlen :=(List.getElem?_eq_some_iff.1 hi).1
    have hlt : ((i : Int) < (l.length : Int)) :=by omega
    have hr :=getElem?_map_some (f :=strC) hi
    have hwi :=wrap64 (n :=(i : Int) + 1) (by omega) (by omega)
    have hi0 : (0 : Int) ≤ (i : Int) :=by omega
    simp only [strC] at hr
    by_cases d : x = h
    · right
      simp only [rA,↓reduceIte,reduceCtorEq,N1,N2,N3,N4,N5,N6,N7,I1,I2,I3,I4,L1,e111,hlt,hr,hwi,hi0,d,hasF]
    · left
      refine ⟨(),?_,trivial,by simp [hasF,d]⟩
      simp only [rA,↓reduceIte,reduceCtorEq,N1,N2,N3,N4,N5,N6,N7,I1,I2,I3,I4,L1,e111,hlt,hr,hwi,hi0,d,i64c]
  · intro a _
    have hn : ¬ ((l.length : Int) < (l.length : Int)) :=by omega
    simp only [rA,↓reduceIte,reduceCtorEq,N1,N2,N3,N4,N5,N6,N7,I1,I2,I3,I4,L1,e111,hn,hasF]
end Go.Proofs.YtfpconipgllkkaaGreat
