/- What BookValid's functions compute: the specification's history. -/
import Derived.Test.YtfpconipgllkkaaGreatV3t
namespace Go.Proofs.YtfpconipgllkkaaGreat
open Go.Sx
open Nat renaming reduceEqDiff → N1,reduceAdd → N2,reduceSub → N3,reduceMul → N4,reduceLeDiff → N5,reduceBEq → N6,reduceLT → N7
open Int renaming reduceLT → I1,reduceNeg → I2,reduceLE → I3,reduceEq → I4
open List renaming reduceReplicate → L1
set_option maxRecDepth 100000
set_option maxHeartbeats 8000000
set_option linter.unusedVariables false
set_option linter.unusedSimpArgs false
def lastO (h : List VC) (o : VO) : Nat → Option VC
  | 0 =>none
  | n + 1 =>match h[n]? with
    | some c =>if keyO c.object o = 0 then some c else lastO h o n
    | none =>none
theorem last_cases (h : List VC) (o : VO) : ∀ n,n ≤ h.length → (lastF h o n = -1 ∧ lastO h o n = none) ∨ ∃ j c,lastF h o n = ((j : Nat) : Int) ∧ j < n ∧ h[j]? = some c ∧ keyO c.object o = 0 ∧ lastO h o n = some c
  | 0,_ =>.inl ⟨rfl,rfl⟩
  | n + 1,hn =>by
    have hj : h[n]? = some (h[n]'(by omega)) :=List.getElem?_eq_getElem (by omega)
    generalize h[n]'(by omega) = c at hj
    by_cases d : keyO c.object o = 0
    · exact .inr ⟨n,c,by simp [lastF,hj,d],by omega,hj,d,by simp [lastO,hj,d]⟩
    · have e1 : lastF h o (n + 1) = lastF h o n :=by simp [lastF,hj,d]
      have e2 : lastO h o (n + 1) = lastO h o n :=by simp [lastO,hj,d]
      rw [e1,e2]
      rcases last_cases h o n (by omega) with h1 | ⟨j,c,h1,h2,h3,h4,h5⟩
      · exact .inl h1
      · exact .inr ⟨j,c,h1,by omega,h3,h4,h5⟩
def endS (c : VC) : Bool :=if c.gone = true then c.object.ending && (decide ((c.object.holds.length : Int) = 0) && !decide (c.object.born = c.object.version)) else !(c.object.ending && decide ((c.object.holds.length : Int) = 0))
def lastOk (b : VBook) (i : Nat) (c : VC) : Bool :=match lastO b.history c.object i with
  | none =>creaB c || decide (c.object.born ≤ b.floor)
  | some d =>(creaB c == d.gone) && (creaB c || decide (c.object.born = d.object.born))
def hist1 (b : VBook) (i : Nat) (c : VC) : Bool :=decide (c.version = b.floor + 1 + i) && (decide (c.object.version = c.version) && (partsB c.object b.now && (endS c && lastOk b i c)))
def hist1F (b : VBook) : Nat → List VC → Bool
  | _,[] =>true
  | i,c :: r =>hist1 b i c && hist1F b (i + 1) r
def hist2 (b : VBook) (o : VO) : Bool :=match lastO b.history o b.history.length with
  | none =>decide (o.version ≤ b.floor)
  | some d =>!d.gone && sameB d.object o
def hist3 (b : VBook) (i : Nat) (c : VC) : Bool :=!decide (lastF b.history c.object b.history.length = (i : Int)) || (c.gone || (bfind b.objects c.object.kind c.object.name).2)
def hist3F (b : VBook) : Nat → List VC → Bool
  | _,[] =>true
  | i,c :: r =>hist3 b i c && hist3F b (i + 1) r
theorem beqB : (false == false) = true ∧ (false == true) = false ∧ (true == false) = false ∧ (true == true) = true :=⟨rfl,rfl,rfl,rfl⟩
theorem change_le {b : VBook} {c : VC} (hw : b.w ≤ 4194304) (h : c ∈ b.history) : c.object.holds.length ≤ 4194304 :=by
  have :=wSBookChange_mem h
  exact holds_le (n :=4194304) (by unfold VC.w at this; unfold VBook.w wSBookChange at hw; omega)
theorem object_le {b : VBook} {c : VO} (hw : b.w ≤ 4194304) (h : c ∈ b.objects) : c.holds.length ≤ 4194304 :=by
  have :=wSBookObject_mem h
  exact holds_le (n :=4194304) (by unfold VBook.w wSBookObject at hw; omega)
theorem k59 (b : VBook) (hw : b.w ≤ 4194304) (hf0 : 0 ≤ b.floor) (hf1 : b.floor ≤ b.now) (hf2 : b.now ≤ 1000000) : EV Tryz.prog E 59 [.val 0 true (b.c .shr)] =
    some ⟨[(false,[.p (.bool (decide ((b.history.length : Int) ≤ 200) && (decide ((b.history.length : Int) = b.now - b.floor) && (hist1F b 0 b.history && (b.objects.all (hist2 b) && hist3F b 0 b.history)))))])],[]⟩ :=by
  refine EV_intro Tryz.func59 rfl ?_
  have hll : b.objects.length ≤ 4194304 :=by unfold VBook.w wSBookObject at hw; omega
  have hhl : b.history.length ≤ 4194304 :=by unfold VBook.w wSBookChange at hw; omega
  by_cases c0 : (200 : Int) < (b.history.length : Int)
  · have c0' : ¬ (b.history.length : Int) ≤ 200 :=by omega
    simp only [rA,↓reduceIte,reduceCtorEq,N1,N2,N3,N4,N5,N6,N7,I1,I2,I3,I4,L1,e59,Tryz.f59,VBook.c,c0,c0']
  have c0' : (b.history.length : Int) ≤ 200 :=by omega
  have hwf :=wrap64 (n :=b.now - b.floor) (by omega) (by omega)
  by_cases c1 : (b.history.length : Int) = b.now - b.floor
  case neg =>simp only [rA,↓reduceIte,reduceCtorEq,N1,N2,N3,N4,N5,N6,N7,I1,I2,I3,I4,L1,e59,Tryz.f59,VBook.c,c0,c0',hwf,c1]
  have c1' :=eq_true c1
  simp only [rA,↓reduceIte,reduceCtorEq,N1,N2,N3,N4,N5,N6,N7,I1,I2,I3,I4,L1,e59,Tryz.f59,VBook.c,c0,c0',hwf,c1']
  rw [for_block b.history (fun i (_ : Unit) =>⟨2,[(1,.box 0 0 (b.c .shr)),(3,.val 1 false [.p (.int .i64 i)])]⟩) (fun i _ =>True)
    (fun r i a =>if hist1F b i r = true then .norm ⟨1,[(1,.box 0 0 (b.c .shr))]⟩ else .ret ⟨[(false,[.p (.bool false)])],[]⟩) ?_ ?_ (a :=()) trivial (by simp only [rA,↓reduceIte,reduceCtorEq,N1,N2,N3,N4,N5,N6,N7,I1,I2,I3,I4,L1,e59,VBook.c]; rfl)]
  · cases e1 : hist1F b 0 b.history
    · simp only [rA,↓reduceIte,reduceCtorEq,N1,N2,N3,N4,N5,N6,N7,I1,I2,I3,I4,L1,e59,e1]
    simp only [rA,↓reduceIte,reduceCtorEq,N1,N2,N3,N4,N5,N6,N7,I1,I2,I3,I4,L1,e59,VBook.c,e1]
    rw [for_block b.objects (fun i (_ : Unit) =>⟨2,[(1,.box 0 0 (b.c .shr)),(7,.val 1 false [.p (.int .i64 i)])]⟩) (fun i _ =>True)
      (fun r i a =>if r.all (hist2 b) = true then .norm ⟨1,[(1,.box 0 0 (b.c .shr))]⟩ else .ret ⟨[(false,[.p (.bool false)])],[]⟩) ?_ ?_ (a :=()) trivial (by simp only [rA,↓reduceIte,reduceCtorEq,N1,N2,N3,N4,N5,N6,N7,I1,I2,I3,I4,L1,e59,VBook.c]; rfl)]
    · cases e2 : b.objects.all (hist2 b)
      · simp only [rA,↓reduceIte,reduceCtorEq,N1,N2,N3,N4,N5,N6,N7,I1,I2,I3,I4,L1,e59,e2]
      simp only [rA,↓reduceIte,reduceCtorEq,N1,N2,N3,N4,N5,N6,N7,I1,I2,I3,I4,L1,e59,VBook.c,e2]
      rw [for_block b.history (fun i (_ : Unit) =>⟨2,[(1,.box 0 0 (b.c .shr)),(9,.val 1 false [.p (.int .i64 i)])]⟩) (fun i _ =>True)
        (fun r i a =>if hist3F b i r = true then .norm ⟨0,[]⟩ else .ret ⟨[(false,[.p (.bool false)])],[]⟩) ?_ ?_ (a :=()) trivial (by simp only [rA,↓reduceIte,reduceCtorEq,N1,N2,N3,N4,N5,N6,N7,I1,I2,I3,I4,L1,e59,VBook.c]; rfl)]
      · cases e3 : hist3F b 0 b.history
        · simp only [rA,↓reduceIte,reduceCtorEq,N1,N2,N3,N4,N5,N6,N7,I1,I2,I3,I4,L1,e59,e3]
        · simp only [rA,↓reduceIte,reduceCtorEq,N1,N2,N3,N4,N5,N6,N7,I1,I2,I3,I4,L1,e59,e3]
      · intro i x r a hd hi _
        have hlen :=(List.getElem?_eq_some_iff.1 hi).1
        have hlt : ((i : Int) < (b.history.length : Int)) :=by omega
        have hr :=getElem?_map_some (f :=VC.c .shr) hi
        have hi0 : (0 : Int) ≤ (i : Int) :=by omega
        have hwi :=wrap64 (n :=(i : Int) + 1) (by omega) (by omega)
        have h2 :=k99 b.history x.object b.history.length (Nat.le_refl _) hhl
        have h4 :=k63 b x.object.kind x.object.name hw
        simp only [VBook.c,VO.c,VC.c] at h2 hr h4
        have hE : hist3F b i (x :: r) = (hist3 b i x && hist3F b (i + 1) r) :=rfl
        unfold hist3 at hE
        by_cases d1 : lastF b.history x.object b.history.length = (i : Int)
        case neg =>
          left
          simp only [d1,decide_false,Bool.not_false,Bool.true_or,Bool.true_and] at hE
          refine ⟨(),?_,trivial,by rw [hE]⟩
          simp only [rA,↓reduceIte,reduceCtorEq,N1,N2,N3,N4,N5,N6,N7,I1,I2,I3,I4,L1,e59,e99,VBook.c,VC.c,VO.c,hlt,hr,hi0,h2,d1,hwi,i64c]
        rw [d1] at h2
        have gg : ∃ g,x.gone = g :=⟨_,rfl⟩
        obtain ⟨g,gg⟩ :=gg
        simp only [gg] at hr
        cases g
        · cases d2 : (bfind b.objects x.object.kind x.object.name).2
          · right
            rw [d2] at h4
            simp only [d1,decide_true,Bool.not_true,Bool.false_or,gg,d2,Bool.false_and] at hE
            simp only [rA,↓reduceIte,reduceCtorEq,N1,N2,N3,N4,N5,N6,N7,I1,I2,I3,I4,L1,e59,e99,e63,VBook.c,VC.c,VO.c,hlt,hr,hi0,h2,h4,hE,rowsString]
          · left
            rw [d2] at h4
            simp only [d1,decide_true,Bool.not_true,Bool.false_or,gg,d2,Bool.true_and] at hE
            refine ⟨(),?_,trivial,by rw [hE]⟩
            simp only [rA,↓reduceIte,reduceCtorEq,N1,N2,N3,N4,N5,N6,N7,I1,I2,I3,I4,L1,e59,e99,e63,VBook.c,VC.c,VO.c,hlt,hr,hi0,h2,h4,hwi,i64c,rowsString]
        · left
          simp only [d1,decide_true,Bool.not_true,Bool.false_or,gg,Bool.true_or,Bool.true_and] at hE
          refine ⟨(),?_,trivial,by rw [hE]⟩
          simp only [rA,↓reduceIte,reduceCtorEq,N1,N2,N3,N4,N5,N6,N7,I1,I2,I3,I4,L1,e59,e99,VBook.c,VC.c,VO.c,hlt,hr,hi0,h2,hwi,i64c]
      · intro a _
        simp only [rA,↓reduceIte,reduceCtorEq,N1,N2,N3,N4,N5,N6,N7,I1,I2,I3,I4,L1,e59,VBook.c,hist3F]
    · intro i x r a hd hi _
      have hlen :=(List.getElem?_eq_some_iff.1 hi).1
      have hlt : ((i : Int) < (b.objects.length : Int)) :=by omega
      have hr :=getElem?_map_some (f :=VO.c .shr) hi
      have hi0 : (0 : Int) ≤ (i : Int) :=by omega
      have hwi :=wrap64 (n :=(i : Int) + 1) (by omega) (by omega)
      have h2 :=k99 b.history x b.history.length (Nat.le_refl _) hhl
      have hxl :=object_le hw (List.mem_of_getElem? hi)
      simp only [VO.c,VC.c] at h2 hr
      have hE : (x :: r).all (hist2 b) = (hist2 b x && r.all (hist2 b)) :=by rw [List.all_cons]
      rcases last_cases b.history x b.history.length (Nat.le_refl _) with ⟨l1,l2⟩ | ⟨j,q,l1,l2,l3,l4,l5⟩
      · rw [l1] at h2
        have hH : hist2 b x = decide (x.version ≤ b.floor) :=by unfold hist2; rw [l2]
        rw [hH] at hE
        by_cases d : x.version ≤ b.floor
        · left
          have d' : ¬ b.floor < x.version :=by omega
          simp only [d,decide_true,Bool.true_and] at hE
          refine ⟨(),?_,trivial,by rw [hE]⟩
          simp only [rA,↓reduceIte,reduceCtorEq,N1,N2,N3,N4,N5,N6,N7,I1,I2,I3,I4,L1,e59,e99,VBook.c,VC.c,VO.c,hlt,hr,hi0,h2,d',hwi,i64c]
        · right
          have d' : b.floor < x.version :=by omega
          simp only [d,decide_false,Bool.false_and] at hE
          simp only [rA,↓reduceIte,reduceCtorEq,N1,N2,N3,N4,N5,N6,N7,I1,I2,I3,I4,L1,e59,e99,VBook.c,VC.c,VO.c,hlt,hr,hi0,h2,d',hE]
      · rw [l1] at h2
        have hH : hist2 b x = (!q.gone && sameB q.object x) :=by unfold hist2; rw [l5]
        rw [hH] at hE
        have hrj :=getElem?_map_some (f :=VC.c .shr) l3
        have hj0 : (0 : Int) ≤ (j : Int) :=by omega
        have hj1 : ¬ ((j : Int) < 0) :=by omega
        have hql :=change_le hw (List.mem_of_getElem? l3)
        have h5 :=k101 q.object x hql hxl
        have qq : ∃ z,q.gone = z :=⟨_,rfl⟩
        obtain ⟨z,qq⟩ :=qq
        simp only [VC.c,VO.c,qq] at hrj h5
        rw [qq] at hE
        cases z
        · cases d : sameB q.object x
          · right
            rw [d] at h5 hE
            simp only [Bool.not_false,Bool.and_false,Bool.false_and] at hE
            simp only [rA,↓reduceIte,reduceCtorEq,N1,N2,N3,N4,N5,N6,N7,I1,I2,I3,I4,L1,e59,e99,e101,VBook.c,VC.c,VO.c,hlt,hr,hi0,h2,h5,hrj,hj0,hj1,hE]
          · left
            rw [d] at h5 hE
            simp only [Bool.not_false,Bool.and_true,Bool.true_and] at hE
            refine ⟨(),?_,trivial,by rw [hE]⟩
            simp only [rA,↓reduceIte,reduceCtorEq,N1,N2,N3,N4,N5,N6,N7,I1,I2,I3,I4,L1,e59,e99,e101,VBook.c,VC.c,VO.c,hlt,hr,hi0,h2,h5,hrj,hj0,hj1,hwi,i64c]
        · right
          simp only [Bool.not_true,Bool.false_and] at hE
          simp only [rA,↓reduceIte,reduceCtorEq,N1,N2,N3,N4,N5,N6,N7,I1,I2,I3,I4,L1,e59,e99,e101,VBook.c,VC.c,VO.c,hlt,hr,hi0,h2,h5,hrj,hj0,hj1,hE]
    · intro a _
      simp only [rA,↓reduceIte,reduceCtorEq,N1,N2,N3,N4,N5,N6,N7,I1,I2,I3,I4,L1,e59,VBook.c,List.all_nil]
  · intro i x r a hd hi _
    have hlen :=(List.getElem?_eq_some_iff.1 hi).1
    have hlt : ((i : Int) < (b.history.length : Int)) :=by omega
    have hr :=getElem?_map_some (f :=VC.c .shr) hi
    have hi0 : (0 : Int) ≤ (i : Int) :=by omega
    have hwi :=wrap64 (n :=(i : Int) + 1) (by omega) (by omega)
    have hw1 :=wrap64 (n :=b.floor + 1) (by omega) (by omega)
    have hw2 :=wrap64 (n :=b.floor + 1 + i) (by omega) (by omega)
    have hxl :=change_le hw (List.mem_of_getElem? hi)
    have h1 :=k97 x.object b.now hxl
    have h2 :=k99 b.history x.object i (by omega) hhl
    have h3 :=k100 x
    simp only [VO.c,VC.c] at h1 h2 h3 hr
    by_cases d1 : x.version = b.floor + 1 + i
    case neg =>
      right
      have hF : hist1F b i (x :: r) = false :=by simp [hist1F,hist1,d1]
      simp only [rA,↓reduceIte,reduceCtorEq,N1,N2,N3,N4,N5,N6,N7,I1,I2,I3,I4,L1,e59,e97,VBook.c,VC.c,VO.c,hlt,hr,hi0,hw1,hw2,d1,hF]
    have d1' :=eq_true d1
    by_cases d2 : x.object.version = x.version
    case neg =>
      right
      have hF : hist1F b i (x :: r) = false :=by simp [hist1F,hist1,d2]
      simp only [rA,↓reduceIte,reduceCtorEq,N1,N2,N3,N4,N5,N6,N7,I1,I2,I3,I4,L1,e59,e97,VBook.c,VC.c,VO.c,hlt,hr,hi0,hw1,hw2,d1',d2,hF]
    have d2' :=eq_true d2
    cases d3 : partsB x.object b.now
    · right
      have hF : hist1F b i (x :: r) = false :=by simp [hist1F,hist1,d3]
      rw [d3] at h1
      simp only [rA,↓reduceIte,reduceCtorEq,N1,N2,N3,N4,N5,N6,N7,I1,I2,I3,I4,L1,e59,e97,VBook.c,VC.c,VO.c,hlt,hr,hi0,hw1,hw2,d1',d2',h1,hF]
    rw [d3] at h1
    have hE : hist1F b i (x :: r) = ((endS x && lastOk b i x) && hist1F b (i + 1) r) :=by simp [hist1F,hist1,d1,d2,d3]
    have ee : ∃ g e,x.gone = g ∧ x.object.ending = e :=⟨_,_,rfl,rfl⟩
    obtain ⟨g,e,eg,ee⟩ :=ee
    simp only [eg,ee] at h1 h2 h3 hr
    cases d4 : endS x
    · right
      rw [d4,Bool.false_and,Bool.false_and] at hE
      unfold endS at d4
      rw [eg,ee] at d4
      cases g
      · cases e
        · simp at d4
        · by_cases d5 : (x.object.holds.length : Int) = 0
          · simp only [rA,↓reduceIte,reduceCtorEq,N1,N2,N3,N4,N5,N6,N7,I1,I2,I3,I4,L1,e59,e97,VBook.c,VC.c,VO.c,hlt,hr,hi0,hw1,hw2,d1',d2',h1,hE,d5]
          · rw [decide_eq_false d5] at d4
            simp at d4
      · cases e
        · simp only [rA,↓reduceIte,reduceCtorEq,N1,N2,N3,N4,N5,N6,N7,I1,I2,I3,I4,L1,e59,e97,VBook.c,VC.c,VO.c,hlt,hr,hi0,hw1,hw2,d1',d2',h1,hE]
        · by_cases d5 : (x.object.holds.length : Int) = 0
          · by_cases d6 : x.object.born = x.object.version
            · have d6' :=eq_true d6
              have d7 : ¬ (0 : Int) < (x.object.holds.length : Int) :=by omega
              simp only [rA,↓reduceIte,reduceCtorEq,N1,N2,N3,N4,N5,N6,N7,I1,I2,I3,I4,L1,e59,e97,VBook.c,VC.c,VO.c,hlt,hr,hi0,hw1,hw2,d1',d2',h1,hE,d7,d6']
            · rw [decide_eq_true d5,decide_eq_false d6] at d4
              simp at d4
          · have d7 : (0 : Int) < (x.object.holds.length : Int) :=by omega
            simp only [rA,↓reduceIte,reduceCtorEq,N1,N2,N3,N4,N5,N6,N7,I1,I2,I3,I4,L1,e59,e97,VBook.c,VC.c,VO.c,hlt,hr,hi0,hw1,hw2,d1',d2',h1,hE,d7]
    have EE : g = false ∧ e = false ∧ True ∨ g = false ∧ e = true ∧ ¬ (x.object.holds.length : Int) = 0 ∨ g = true ∧ e = true ∧ ¬ (0 : Int) < (x.object.holds.length : Int) ∧ ¬ x.object.born = x.object.version :=by
      unfold endS at d4
      rw [eg,ee] at d4
      cases g <;> cases e
      · exact .inl ⟨rfl,rfl,trivial⟩
      · refine .inr (.inl ⟨rfl,rfl,fun h =>?_⟩)
        rw [decide_eq_true h] at d4
        simp at d4
      · simp at d4
      · by_cases h5 : (x.object.holds.length : Int) = 0
        · by_cases h6 : x.object.born = x.object.version
          · rw [decide_eq_true h6] at d4
            simp at d4
          · exact .inr (.inr ⟨rfl,rfl,by omega,h6⟩)
        · rw [decide_eq_false h5] at d4
          simp at d4
    rw [d4,Bool.true_and] at hE
    rcases last_cases b.history x.object i (by omega) with ⟨l1,l2⟩ | ⟨j,q,l1,l2,l3,l4,l5⟩
    · rw [l1] at h2
      have hL : lastOk b i x = (creaB x || decide (x.object.born ≤ b.floor)) :=by unfold lastOk; rw [l2]
      rw [hL] at hE
      rcases EE with ⟨rfl,rfl,-⟩ | ⟨rfl,rfl,d5⟩ | ⟨rfl,rfl,d5,d6⟩
      all_goals cases d8 : creaB x
      all_goals (rw [d8] at h3 hE)
      all_goals by_cases d9 : b.floor < x.object.born
      all_goals (have d9' : decide (x.object.born ≤ b.floor) = !decide (b.floor < x.object.born) :=by rw [Bool.eq_iff_iff]; simp)
      all_goals (rw [d9'] at hE)
      all_goals (simp only [d9,decide_true,decide_false,Bool.not_true,Bool.not_false,Bool.or_true,Bool.or_false,Bool.true_and,Bool.false_and] at hE)
      all_goals first
        | (right; simp only [rA,↓reduceIte,reduceCtorEq,N1,N2,N3,N4,N5,N6,N7,I1,I2,I3,I4,L1,e59,e97,e99,e100,VBook.c,VC.c,VO.c,hlt,hr,hi0,hw1,hw2,d1',d2',h1,h2,h3,hE,d5,d6,d9]; done)
        | (right; simp only [rA,↓reduceIte,reduceCtorEq,N1,N2,N3,N4,N5,N6,N7,I1,I2,I3,I4,L1,e59,e97,e99,e100,VBook.c,VC.c,VO.c,hlt,hr,hi0,hw1,hw2,d1',d2',h1,h2,h3,hE,d5,d9]; done)
        | (right; simp only [rA,↓reduceIte,reduceCtorEq,N1,N2,N3,N4,N5,N6,N7,I1,I2,I3,I4,L1,e59,e97,e99,e100,VBook.c,VC.c,VO.c,hlt,hr,hi0,hw1,hw2,d1',d2',h1,h2,h3,hE,d9]; done)
        | (left; refine ⟨(),?_,trivial,by rw [hE]⟩; simp only [rA,↓reduceIte,reduceCtorEq,N1,N2,N3,N4,N5,N6,N7,I1,I2,I3,I4,L1,e59,e97,e99,e100,VBook.c,VC.c,VO.c,hlt,hr,hi0,hw1,hw2,d1',d2',h1,h2,h3,d5,d6,d9,hwi,i64c]; done)
        | (left; refine ⟨(),?_,trivial,by rw [hE]⟩; simp only [rA,↓reduceIte,reduceCtorEq,N1,N2,N3,N4,N5,N6,N7,I1,I2,I3,I4,L1,e59,e97,e99,e100,VBook.c,VC.c,VO.c,hlt,hr,hi0,hw1,hw2,d1',d2',h1,h2,h3,d5,d9,hwi,i64c]; done)
        | (left; refine ⟨(),?_,trivial,by rw [hE]⟩; simp only [rA,↓reduceIte,reduceCtorEq,N1,N2,N3,N4,N5,N6,N7,I1,I2,I3,I4,L1,e59,e97,e99,e100,VBook.c,VC.c,VO.c,hlt,hr,hi0,hw1,hw2,d1',d2',h1,h2,h3,d9,hwi,i64c]; done)
    · rw [l1] at h2
      have hL : lastOk b i x = ((creaB x == q.gone) && (creaB x || decide (x.object.born = q.object.born))) :=by unfold lastOk; rw [l5]
      rw [hL] at hE
      have hrj :=getElem?_map_some (f :=VC.c .shr) l3
      have hj0 : (0 : Int) ≤ (j : Int) :=by omega
      have hj1 : ¬ ((j : Int) < 0) :=by omega
      have qq : ∃ z,q.gone = z :=⟨_,rfl⟩
      obtain ⟨z,qq⟩ :=qq
      simp only [VC.c,qq] at hrj
      rw [qq] at hE
      rcases EE with ⟨rfl,rfl,-⟩ | ⟨rfl,rfl,d5⟩ | ⟨rfl,rfl,d5,d6⟩
      all_goals cases d8 : creaB x
      all_goals (rw [d8] at h3 hE)
      all_goals cases z
      all_goals by_cases d9 : x.object.born = q.object.born
      all_goals (simp only [d9,eq_self,decide_true,decide_false,Bool.not_true,Bool.not_false,Bool.or_true,Bool.or_false,Bool.true_and,Bool.false_and,beq_self_eq_true,show (false == true) = false from rfl,show (true == false) = false from rfl] at hE)
      all_goals (first | (have d9' :=eq_false d9) | (have d9' :=eq_true d9))
      all_goals first
        | (right; simp only [rA,↓reduceIte,reduceCtorEq,N1,N2,N3,N4,N5,N6,N7,I1,I2,I3,I4,L1,e59,e97,e99,e100,VBook.c,VC.c,VO.c,hlt,hr,hi0,hw1,hw2,d1',d2',h1,h2,h3,hE,d5,d6,d9',hrj,hj0,hj1,beqB]; done)
        | (right; simp only [rA,↓reduceIte,reduceCtorEq,N1,N2,N3,N4,N5,N6,N7,I1,I2,I3,I4,L1,e59,e97,e99,e100,VBook.c,VC.c,VO.c,hlt,hr,hi0,hw1,hw2,d1',d2',h1,h2,h3,hE,d5,d9',hrj,hj0,hj1,beqB]; done)
        | (right; simp only [rA,↓reduceIte,reduceCtorEq,N1,N2,N3,N4,N5,N6,N7,I1,I2,I3,I4,L1,e59,e97,e99,e100,VBook.c,VC.c,VO.c,hlt,hr,hi0,hw1,hw2,d1',d2',h1,h2,h3,hE,d9',hrj,hj0,hj1,beqB]; done)
        | (left; refine ⟨(),?_,trivial,by rw [hE]⟩; simp only [rA,↓reduceIte,reduceCtorEq,N1,N2,N3,N4,N5,N6,N7,I1,I2,I3,I4,L1,e59,e97,e99,e100,VBook.c,VC.c,VO.c,hlt,hr,hi0,hw1,hw2,d1',d2',h1,h2,h3,d5,d6,d9',hrj,hj0,hj1,hwi,i64c,beqB]; done)
        | (left; refine ⟨(),?_,trivial,by rw [hE]⟩; simp only [rA,↓reduceIte,reduceCtorEq,N1,N2,N3,N4,N5,N6,N7,I1,I2,I3,I4,L1,e59,e97,e99,e100,VBook.c,VC.c,VO.c,hlt,hr,hi0,hw1,hw2,d1',d2',h1,h2,h3,d5,d9',hrj,hj0,hj1,hwi,i64c,beqB]; done)
        | (left; refine ⟨(),?_,trivial,by rw [hE]⟩; simp only [rA,↓reduceIte,reduceCtorEq,N1,N2,N3,N4,N5,N6,N7,I1,I2,I3,I4,L1,e59,e97,e99,e100,VBook.c,VC.c,VO.c,hlt,hr,hi0,hw1,hw2,d1',d2',h1,h2,h3,d9',hrj,hj0,hj1,hwi,i64c,beqB]; done)
  · intro a _
    simp only [rA,↓reduceIte,reduceCtorEq,N1,N2,N3,N4,N5,N6,N7,I1,I2,I3,I4,L1,e59,VBook.c,hist1F]
end Go.Proofs.YtfpconipgllkkaaGreat

