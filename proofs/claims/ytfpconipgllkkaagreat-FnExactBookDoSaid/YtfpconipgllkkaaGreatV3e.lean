/- What BookValid's functions compute: the specification's objects and tickets. -/
import Derived.Test.YtfpconipgllkkaaGreatV3d
namespace Go.Proofs.YtfpconipgllkkaaGreat
open Go.Sx
open Nat renaming reduceEqDiff → N1,reduceAdd → N2,reduceSub → N3,reduceMul → N4,reduceLeDiff → N5,reduceBEq → N6,reduceLT → N7
open Int renaming reduceLT → I1,reduceNeg → I2,reduceLE → I3,reduceEq → I4
open List renaming reduceReplicate → L1
set_option maxRecDepth 100000
set_option maxHeartbeats 4000000
set_option linter.unusedVariables false
set_option linter.unusedSimpArgs false
def objAt (b : VBook) (i : Nat) (x : VO) : Bool :=partsB x b.now && (!(x.ending && decide ((x.holds.length : Int) = 0)) && ((match prevO b.objects i with | none =>true | some p =>decide (keyO p x < 0)) && (b.objects.take i).all fun y =>!decide (y.version = x.version)))
def objsF (b : VBook) : Nat → List VO → Bool
  | _,[] =>true
  | i,x :: r =>objAt b i x && objsF b (i + 1) r
theorem k58 (b : VBook) (hw : b.w ≤ 4194304) : EV Tryz.prog E 58 [.val 0 true (b.c .shr)] = some ⟨[(false,[.p (.bool (decide ((b.objects.length : Int) ≤ 100) && objsF b 0 b.objects))])],[]⟩ :=by
  refine EV_intro Tryz.func58 rfl ?_
  have hll : b.objects.length ≤ 4194304 :=by unfold VBook.w wSBookObject at hw; omega
  by_cases c0 : (100 : Int) < (b.objects.length : Int)
  · have c0' : ¬ (b.objects.length : Int) ≤ 100 :=by omega
    simp only [rA,↓reduceIte,reduceCtorEq,N1,N2,N3,N4,N5,N6,N7,I1,I2,I3,I4,L1,e58,Tryz.f58,VBook.c,c0,c0']
  have c0' : (b.objects.length : Int) ≤ 100 :=by omega
  simp only [rA,↓reduceIte,reduceCtorEq,N1,N2,N3,N4,N5,N6,N7,I1,I2,I3,I4,L1,e58,Tryz.f58,VBook.c,c0,c0']
  rw [for_block b.objects (fun i (_ : Unit) =>⟨2,[(1,.box 0 0 (b.c .shr)),(3,.val 1 false [.p (.int .i64 i)])]⟩) (fun i _ =>True)
    (fun r i a =>if objsF b i r = true then .norm ⟨0,[]⟩ else .ret ⟨[(false,[.p (.bool false)])],[]⟩) ?_ ?_ (a :=()) trivial (by simp only [rA,↓reduceIte,reduceCtorEq,N1,N2,N3,N4,N5,N6,N7,I1,I2,I3,I4,L1,e58,VBook.c]; rfl)]
  · cases h : objsF b 0 b.objects
    · simp only [rA,↓reduceIte,reduceCtorEq,N1,N2,N3,N4,N5,N6,N7,I1,I2,I3,I4,L1,e58,h]
    · simp only [rA,↓reduceIte,reduceCtorEq,N1,N2,N3,N4,N5,N6,N7,I1,I2,I3,I4,L1,e58,h]
  · intro i x r a hd hi _
    have hlen :=(List.getElem?_eq_some_iff.1 hi).1
    have hlt : ((i : Int) < (b.objects.length : Int)) :=by omega
    have hr :=getElem?_map_some (f :=VO.c .shr) hi
    have hi0 : (0 : Int) ≤ (i : Int) :=by omega
    have hwi :=wrap64 (n :=(i : Int) + 1) (by omega) (by omega)
    have hxw :=sum_obj_le (List.mem_of_getElem? hi)
    have hxl : x.holds.length ≤ 4194304 :=holds_le (n :=4194304) (by unfold VBook.w wSBookObject at hw; omega)
    have h1 :=k97 x b.now hxl
    simp only [VO.c] at h1 hr
    by_cases hA : partsB x b.now = true ∧ ¬ (x.ending = true ∧ (x.holds.length : Int) = 0) ∧ (match prevO b.objects i with | none =>true | some p =>decide (keyO p x < 0)) = true
    case neg =>
      right
      have hf : objAt b i x = false :=by
        unfold objAt
        cases e1 : partsB x b.now
        · rfl
        cases e2 : x.ending <;> by_cases e3 : (x.holds.length : Int) = 0 <;> simp_all
      have hf' : objsF b i (x :: r) = false :=by simp [objsF,hf]
      cases c1 : partsB x b.now
      · rw [c1] at h1
        simp only [rA,↓reduceIte,reduceCtorEq,N1,N2,N3,N4,N5,N6,N7,I1,I2,I3,I4,L1,e58,e97,VBook.c,VO.c,hlt,hr,hi0,h1,hf']
      rw [c1] at h1
      by_cases c2 : x.ending = true ∧ (x.holds.length : Int) = 0
      · obtain ⟨c2,c3⟩ :=c2
        simp only [c2] at h1 hr
        simp only [rA,↓reduceIte,reduceCtorEq,N1,N2,N3,N4,N5,N6,N7,I1,I2,I3,I4,L1,e58,e97,VBook.c,VO.c,hlt,hr,hi0,h1,hf',c2,c3]
      · rcases prevO_cases b.objects (Nat.le_of_lt hlen) hll with ⟨h0,hp⟩ | ⟨p,h0,hj0,hw2,hj,hp⟩
        · rw [hp] at hA
          exact absurd ⟨c1,c2,rfl⟩ hA
        · have hk : ¬ keyO p x < 0 :=fun e =>hA ⟨c1,c2,by rw [hp]; simpa using e⟩
          have hk' : 0 ≤ keyO p x :=by omega
          have hrj :=getElem?_map_some (f :=VO.c .shr) hj
          have h2 :=k98 p x
          simp only [VO.c] at h2 hrj
          cases c3 : x.ending
          · simp only [c3] at h1 hr h2
            simp only [rA,↓reduceIte,reduceCtorEq,N1,N2,N3,N4,N5,N6,N7,I1,I2,I3,I4,L1,e58,e97,e98,VBook.c,VO.c,hlt,hr,hi0,h1,hf',c3,h0,hj0,hw2,hrj,h2,hk']
          · have c4 : ¬ (x.holds.length : Int) = 0 :=fun e =>c2 ⟨c3,e⟩
            simp only [c3] at h1 hr h2
            simp only [rA,↓reduceIte,reduceCtorEq,N1,N2,N3,N4,N5,N6,N7,I1,I2,I3,I4,L1,e58,e97,e98,VBook.c,VO.c,hlt,hr,hi0,h1,hf',c3,c4,h0,hj0,hw2,hrj,h2,hk']
    case pos =>
      obtain ⟨c1,c2,c3⟩ :=hA
      rw [c1] at h1
      have hin : ∀ (s : St),mask [1,3,4,5] s = ⟨4,[(1,.box 0 0 (b.c .shr)),(3,.val 1 false [.p (.int .i64 i)]),(4,.box 2 2 (x.c .shr)),(5,.val 3 false [.p (.int .i64 0)])]⟩ →
          True :=fun _ _ =>trivial
      have hf0 : objAt b i x = (b.objects.take i).all fun y =>!decide (y.version = x.version) :=by
        unfold objAt
        rw [c1,c3]
        cases e2 : x.ending <;> by_cases e3 : (x.holds.length : Int) = 0 <;> simp_all
      have htl : (b.objects.take i).length = i :=by rw [List.length_take]; omega
      have e4 : ¬ (x.ending = true ∧ (x.holds.length : Int) = 0) :=c2
      have hout : objsF b i (x :: r) = ((b.objects.take i).all (fun y =>!decide (y.version = x.version)) && objsF b (i + 1) r) :=by rw [objsF,hf0]
      have IL : ∀ (F : Fr) (g : St → Option O),(∀ k y,k < i → (b.objects)[k]? = some y → nxtB F 2 [1,3,4,5] (g ⟨4,[(1,.box 0 0 (b.c .shr)),(3,.val 1 false [.p (.int .i64 i)]),(4,.box 2 2 (x.c .shr)),(5,.val 3 false [.p (.int .i64 k)])]⟩) =
            some (if y.version = x.version then .inr (.ret ⟨[(false,[.p (.bool false)])],[]⟩) else .inl ⟨4,[(1,.box 0 0 (b.c .shr)),(3,.val 1 false [.p (.int .i64 i)]),(4,.box 2 2 (x.c .shr)),(5,.val 3 false [.p (.int .i64 ((k : Int) + 1))])]⟩)) →
          nxtB F 2 [1,3,4,5] (g ⟨4,[(1,.box 0 0 (b.c .shr)),(3,.val 1 false [.p (.int .i64 i)]),(4,.box 2 2 (x.c .shr)),(5,.val 3 false [.p (.int .i64 i)])]⟩) = some (.inr (.norm ⟨2,[(1,.box 0 0 (b.c .shr)),(3,.val 1 false [.p (.int .i64 i)])]⟩)) →
          ∀ s,mask [1,3,4,5] s = ⟨4,[(1,.box 0 0 (b.c .shr)),(3,.val 1 false [.p (.int .i64 i)]),(4,.box 2 2 (x.c .shr)),(5,.val 3 false [.p (.int .i64 0)])]⟩ →
          blockO F 2 (itω [1,3,4,5] g s) = some (if (b.objects.take i).all (fun y =>!decide (y.version = x.version)) = true then .norm ⟨2,[(1,.box 0 0 (b.c .shr)),(3,.val 1 false [.p (.int .i64 i)])]⟩ else .ret ⟨[(false,[.p (.bool false)])],[]⟩) :=by
        intro F g hst hen s hs
        refine for_block (b.objects.take i) (fun k (_ : Unit) =>⟨4,[(1,.box 0 0 (b.c .shr)),(3,.val 1 false [.p (.int .i64 i)]),(4,.box 2 2 (x.c .shr)),(5,.val 3 false [.p (.int .i64 k)])]⟩) (fun _ _ =>True)
          (fun r k a =>if r.all (fun y =>!decide (y.version = x.version)) = true then .norm ⟨2,[(1,.box 0 0 (b.c .shr)),(3,.val 1 false [.p (.int .i64 i)])]⟩ else .ret ⟨[(false,[.p (.bool false)])],[]⟩) ?_ ?_ (a :=()) trivial hs
        · intro k y q a hd hk _
          have hkl :=(List.getElem?_eq_some_iff.1 hk).1
          rw [htl] at hkl
          rw [List.getElem?_take_of_lt hkl] at hk
          have h :=hst k y hkl hk
          by_cases d : y.version = x.version
          · right
            rw [h,if_pos d]
            simp [d]
          · left
            refine ⟨(),?_,trivial,by simp [d]⟩
            rw [h,if_neg d]
            simp
        · intro a _
          rw [htl]
          simpa using hen
      simp only [VBook.c,VO.c] at IL
      have hstep : ∀ (e : Bool) (k : Nat) (y : VO),k < i → b.objects[k]? = some y → (k : Int) < i ∧ (0 : Int) ≤ k ∧ IntKind.i64.wrap ((k : Int) + 1) = (k : Int) + 1 ∧ (b.objects.map (VO.c .shr))[k]? = some (y.c .shr) :=
        fun e k y hk hy =>⟨by omega,by omega,wrap64 (by omega) (by omega),getElem?_map_some hy⟩
      have cc : ∃ e,x.ending = e ∧ (e = false ∧ True ∨ e = true ∧ ¬ (x.holds.length : Int) = 0) :=by
        cases c4 : x.ending
        · exact ⟨false,rfl,.inl ⟨rfl,trivial⟩⟩
        · exact ⟨true,rfl,.inr ⟨rfl,fun e =>c2 ⟨c4,e⟩⟩⟩
      obtain ⟨e,c4,⟨rfl,c5⟩ | ⟨rfl,c5⟩⟩ :=cc
      all_goals (simp only [c4] at h1 hr IL)
      all_goals (rcases prevO_cases b.objects (Nat.le_of_lt hlen) hll with ⟨h0,hp⟩ | ⟨p,h0,hj0,hw2,hj,hp⟩)
      all_goals (first
        | (have hrj :=getElem?_map_some (f :=VO.c .shr) hj
           have h2 :=k98 p x
           have hk : ¬ 0 ≤ keyO p x :=by rw [hp] at c3; have :=of_decide_eq_true c3; omega
           simp only [VO.c,c4] at h2 hrj
           simp only [rA,↓reduceIte,reduceCtorEq,N1,N2,N3,N4,N5,N6,N7,I1,I2,I3,I4,L1,e58,e97,e98,VBook.c,VO.c,hlt,hr,hi0,h1,c4,c5,h0,hj0,hw2,hrj,h2,hk])
        | simp only [rA,↓reduceIte,reduceCtorEq,N1,N2,N3,N4,N5,N6,N7,I1,I2,I3,I4,L1,e58,e97,VBook.c,VO.c,hlt,hr,hi0,h1,c4,c5,h0])
      all_goals (rw [IL _ _ (by
          intro k y hk hy
          obtain ⟨q1,q2,q3,q4⟩ :=hstep true k y hk hy
          simp only [VO.c] at q4
          by_cases d : y.version = x.version
          · simp only [rA,↓reduceIte,reduceCtorEq,N1,N2,N3,N4,N5,N6,N7,I1,I2,I3,I4,L1,e58,VBook.c,VO.c,q1,q2,q3,q4,d]
          · simp only [rA,↓reduceIte,reduceCtorEq,N1,N2,N3,N4,N5,N6,N7,I1,I2,I3,I4,L1,e58,VBook.c,VO.c,q1,q2,q3,q4,d]) (by simp only [rA,↓reduceIte,reduceCtorEq,N1,N2,N3,N4,N5,N6,N7,I1,I2,I3,I4,L1,e58,VBook.c,VO.c]) _ (by simp only [rA,↓reduceIte,reduceCtorEq,N1,N2,N3,N4,N5,N6,N7,I1,I2,I3,I4,L1,e58,VBook.c,VO.c])])
      all_goals (cases d : (b.objects.take i).all fun y =>!decide (y.version = x.version))
      all_goals first
        | (right; simp only [rA,↓reduceIte,reduceCtorEq,N1,N2,N3,N4,N5,N6,N7,I1,I2,I3,I4,L1,e58,VBook.c,hout,d,hwi]; done)
        | (left; refine ⟨(),?_,trivial,by rw [hout,d,Bool.true_and]⟩; simp only [rA,↓reduceIte,reduceCtorEq,N1,N2,N3,N4,N5,N6,N7,I1,I2,I3,I4,L1,e58,VBook.c,hout,d,hwi,i64c]; done)
  · intro a _
    simp only [rA,↓reduceIte,reduceCtorEq,N1,N2,N3,N4,N5,N6,N7,I1,I2,I3,I4,L1,e58,VBook.c,objsF]
end Go.Proofs.YtfpconipgllkkaaGreat

