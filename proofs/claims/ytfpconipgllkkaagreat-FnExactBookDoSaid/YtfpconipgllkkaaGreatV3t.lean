/- What BookValid's functions compute: the specification's tickets. -/
import Derived.Test.YtfpconipgllkkaaGreatV3e
namespace Go.Proofs.YtfpconipgllkkaaGreat
open Go.Sx
open Nat renaming reduceEqDiff → N1,reduceAdd → N2,reduceSub → N3,reduceMul → N4,reduceLeDiff → N5,reduceBEq → N6,reduceLT → N7
open Int renaming reduceLT → I1,reduceNeg → I2,reduceLE → I3,reduceEq → I4
open List renaming reduceReplicate → L1
set_option maxRecDepth 100000
set_option maxHeartbeats 4000000
set_option linter.unusedVariables false
set_option linter.unusedSimpArgs false
def ahead (p : Option VT) (x : VT) : Bool :=match p with
  | none =>true
  | some p =>Op.bytesLess p.client.toList x.client.toList
def tick1 (now : Int) (p : Option VT) (x : VT) : Bool :=nameB x.client && (ahead p x && (inR x.number 1 1000000 && (decide ((x.print.size : Int) = 8) && (inR x.code 0 9 && inR x.version 0 now))))
def tickF (now : Int) : Option VT → List VT → Bool
  | _,[] =>true
  | p,x :: r =>tick1 now p x && tickF now (some x) r
theorem k60 (b : VBook) (hw : b.w ≤ 4194304) : EV Tryz.prog E 60 [.val 0 true (b.c .shr)] = some ⟨[(false,[.p (.bool (decide ((b.tickets.length : Int) ≤ 50) && tickF b.now none b.tickets))])],[]⟩ :=by
  refine EV_intro Tryz.func60 rfl ?_
  have hll : b.tickets.length ≤ 4194304 :=by unfold VBook.w wSBookTicket at hw; omega
  by_cases c0 : (50 : Int) < (b.tickets.length : Int)
  · have c0' : ¬ (b.tickets.length : Int) ≤ 50 :=by omega
    simp only [rA,↓reduceIte,reduceCtorEq,N1,N2,N3,N4,N5,N6,N7,I1,I2,I3,I4,L1,e60,Tryz.f60,VBook.c,c0,c0']
  have c0' : (b.tickets.length : Int) ≤ 50 :=by omega
  simp only [rA,↓reduceIte,reduceCtorEq,N1,N2,N3,N4,N5,N6,N7,I1,I2,I3,I4,L1,e60,Tryz.f60,VBook.c,c0,c0']
  rw [for_block b.tickets (fun i (_ : Unit) =>⟨2,[(1,.box 0 0 (b.c .shr)),(3,.val 1 false [.p (.int .i64 i)])]⟩) (fun i _ =>True)
    (fun r i a =>if tickF b.now (prevO b.tickets i) r = true then .norm ⟨0,[]⟩ else .ret ⟨[(false,[.p (.bool false)])],[]⟩) ?_ ?_ (a :=()) trivial (by simp only [rA,↓reduceIte,reduceCtorEq,N1,N2,N3,N4,N5,N6,N7,I1,I2,I3,I4,L1,e60,VBook.c]; rfl)]
  · cases h : tickF b.now none b.tickets
    · simp only [rA,↓reduceIte,reduceCtorEq,N1,N2,N3,N4,N5,N6,N7,I1,I2,I3,I4,L1,e60,h,prevO]
    · simp only [rA,↓reduceIte,reduceCtorEq,N1,N2,N3,N4,N5,N6,N7,I1,I2,I3,I4,L1,e60,h,prevO]
  · intro i x r a hd hi _
    have hlen :=(List.getElem?_eq_some_iff.1 hi).1
    have hlt : ((i : Int) < (b.tickets.length : Int)) :=by omega
    have hr :=getElem?_map_some (f :=VT.c) hi
    have hi0 : (0 : Int) ≤ (i : Int) :=by omega
    have hwi :=wrap64 (n :=(i : Int) + 1) (by omega) (by omega)
    have hp' : prevO b.tickets (i + 1) = some x :=hi
    have h1 :=k61 x.client
    have h2 :=k57 x.number 1 1000000
    have h3 :=k57 x.code 0 9
    have h4 :=k57 x.version 0 b.now
    simp only [VT.c] at hr
    have hF : tickF b.now (prevO b.tickets i) (x :: r) = (tick1 b.now (prevO b.tickets i) x && tickF b.now (some x) r) :=rfl
    cases c1 : nameB x.client
    · right
      have hf : tick1 b.now (prevO b.tickets i) x = false :=by simp [tick1,c1]
      rw [hf,Bool.false_and] at hF
      simp only [rA,↓reduceIte,reduceCtorEq,N1,N2,N3,N4,N5,N6,N7,I1,I2,I3,I4,L1,e60,e61,e57,VBook.c,VT.c,hlt,hr,hi0,h1,c1,hF]
    rcases prevO_cases b.tickets (Nat.le_of_lt hlen) hll with ⟨h0,hp⟩ | ⟨p,h0,hj0,hw2,hj,hp⟩
    · cases c2 : inR x.number 1 1000000
      · right
        have hf : tick1 b.now (prevO b.tickets i) x = false :=by simp [tick1,c1,hp,ahead,c2]
        rw [hf,Bool.false_and] at hF
        simp only [rA,↓reduceIte,reduceCtorEq,N1,N2,N3,N4,N5,N6,N7,I1,I2,I3,I4,L1,e60,e61,e57,VBook.c,VT.c,hlt,hr,hi0,h1,c1,h0,h2,c2,hF]
      by_cases c3 : (x.print.size : Int) = 8
      case neg =>
        right
        have hf : tick1 b.now (prevO b.tickets i) x = false :=by simp [tick1,c1,hp,ahead,c2,c3]
        rw [hf,Bool.false_and] at hF
        simp only [rA,↓reduceIte,reduceCtorEq,N1,N2,N3,N4,N5,N6,N7,I1,I2,I3,I4,L1,e60,e61,e57,VBook.c,VT.c,hlt,hr,hi0,h1,c1,h0,h2,c2,c3,hF]
      cases c4 : inR x.code 0 9
      · right
        have hf : tick1 b.now (prevO b.tickets i) x = false :=by simp [tick1,c1,hp,ahead,c2,c3,c4]
        rw [hf,Bool.false_and] at hF
        simp only [rA,↓reduceIte,reduceCtorEq,N1,N2,N3,N4,N5,N6,N7,I1,I2,I3,I4,L1,e60,e61,e57,VBook.c,VT.c,hlt,hr,hi0,h1,c1,h0,h2,c2,c3,h3,c4,hF]
      cases c5 : inR x.version 0 b.now
      · right
        have hf : tick1 b.now (prevO b.tickets i) x = false :=by simp [tick1,c1,hp,ahead,c2,c3,c4,c5]
        rw [hf,Bool.false_and] at hF
        simp only [rA,↓reduceIte,reduceCtorEq,N1,N2,N3,N4,N5,N6,N7,I1,I2,I3,I4,L1,e60,e61,e57,VBook.c,VT.c,hlt,hr,hi0,h1,c1,h0,h2,c2,c3,h3,c4,h4,c5,hF]
      · left
        have hf : tick1 b.now (prevO b.tickets i) x = true :=by simp [tick1,c1,hp,ahead,c2,c3,c4,c5]
        rw [hf,Bool.true_and] at hF
        refine ⟨(),?_,trivial,by rw [hF,hp']⟩
        simp only [rA,↓reduceIte,reduceCtorEq,N1,N2,N3,N4,N5,N6,N7,I1,I2,I3,I4,L1,e60,e61,e57,VBook.c,VT.c,hlt,hr,hi0,h1,c1,h0,h2,c2,c3,h3,c4,h4,c5,hwi,i64c]
    · have hrj :=getElem?_map_some (f :=VT.c) hj
      simp only [VT.c] at hrj
      cases c6 : Op.bytesLess p.client.toList x.client.toList
      · right
        have hf : tick1 b.now (prevO b.tickets i) x = false :=by simp [tick1,c1,hp,ahead,c6]
        rw [hf,Bool.false_and] at hF
        simp only [rA,↓reduceIte,reduceCtorEq,N1,N2,N3,N4,N5,N6,N7,I1,I2,I3,I4,L1,e60,e61,e57,VBook.c,VT.c,hlt,hr,hi0,h1,c1,h0,hj0,hw2,hrj,c6,hF]
      cases c2 : inR x.number 1 1000000
      · right
        have hf : tick1 b.now (prevO b.tickets i) x = false :=by simp [tick1,c1,hp,ahead,c6,c2]
        rw [hf,Bool.false_and] at hF
        simp only [rA,↓reduceIte,reduceCtorEq,N1,N2,N3,N4,N5,N6,N7,I1,I2,I3,I4,L1,e60,e61,e57,VBook.c,VT.c,hlt,hr,hi0,h1,c1,h0,hj0,hw2,hrj,c6,h2,c2,hF]
      by_cases c3 : (x.print.size : Int) = 8
      case neg =>
        right
        have hf : tick1 b.now (prevO b.tickets i) x = false :=by simp [tick1,c1,hp,ahead,c6,c2,c3]
        rw [hf,Bool.false_and] at hF
        simp only [rA,↓reduceIte,reduceCtorEq,N1,N2,N3,N4,N5,N6,N7,I1,I2,I3,I4,L1,e60,e61,e57,VBook.c,VT.c,hlt,hr,hi0,h1,c1,h0,hj0,hw2,hrj,c6,h2,c2,c3,hF]
      cases c4 : inR x.code 0 9
      · right
        have hf : tick1 b.now (prevO b.tickets i) x = false :=by simp [tick1,c1,hp,ahead,c6,c2,c3,c4]
        rw [hf,Bool.false_and] at hF
        simp only [rA,↓reduceIte,reduceCtorEq,N1,N2,N3,N4,N5,N6,N7,I1,I2,I3,I4,L1,e60,e61,e57,VBook.c,VT.c,hlt,hr,hi0,h1,c1,h0,hj0,hw2,hrj,c6,h2,c2,c3,h3,c4,hF]
      cases c5 : inR x.version 0 b.now
      · right
        have hf : tick1 b.now (prevO b.tickets i) x = false :=by simp [tick1,c1,hp,ahead,c6,c2,c3,c4,c5]
        rw [hf,Bool.false_and] at hF
        simp only [rA,↓reduceIte,reduceCtorEq,N1,N2,N3,N4,N5,N6,N7,I1,I2,I3,I4,L1,e60,e61,e57,VBook.c,VT.c,hlt,hr,hi0,h1,c1,h0,hj0,hw2,hrj,c6,h2,c2,c3,h3,c4,h4,c5,hF]
      · left
        have hf : tick1 b.now (prevO b.tickets i) x = true :=by simp [tick1,c1,hp,ahead,c6,c2,c3,c4,c5]
        rw [hf,Bool.true_and] at hF
        refine ⟨(),?_,trivial,by rw [hF,hp']⟩
        simp only [rA,↓reduceIte,reduceCtorEq,N1,N2,N3,N4,N5,N6,N7,I1,I2,I3,I4,L1,e60,e61,e57,VBook.c,VT.c,hlt,hr,hi0,h1,c1,h0,hj0,hw2,hrj,c6,h2,c2,c3,h3,c4,h4,c5,hwi,i64c]
  · intro a _
    simp only [rA,↓reduceIte,reduceCtorEq,N1,N2,N3,N4,N5,N6,N7,I1,I2,I3,I4,L1,e60,VBook.c,tickF]
end Go.Proofs.YtfpconipgllkkaaGreat

