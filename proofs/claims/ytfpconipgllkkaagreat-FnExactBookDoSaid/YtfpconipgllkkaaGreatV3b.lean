/- What BookValid's small functions compute: names,order,objects. -/
import Derived.Test.YtfpconipgllkkaaGreatV3
namespace Go.Proofs.YtfpconipgllkkaaGreat
open Go.Sx
open Nat renaming reduceEqDiff → N1,reduceAdd → N2,reduceSub → N3,reduceMul → N4,reduceLeDiff → N5,reduceBEq → N6,reduceLT → N7
open Int renaming reduceLT → I1,reduceNeg → I2,reduceLE → I3,reduceEq → I4
open List renaming reduceReplicate → L1
set_option maxRecDepth 100000
set_option maxHeartbeats 4000000
set_option linter.unusedVariables false
set_option linter.unusedSimpArgs false
theorem k61 (s : ByteArray) : EV Tryz.prog E 61 [.val 0 false [.p (.string s)]] = some ⟨[(false,[.p (.bool (nameB s))])],[]⟩ :=by
  refine EV_intro Tryz.func61 rfl ?_
  have h75 :=k57 s.size 1 20
  unfold nameB
  by_cases h1 : 1 ≤ s.size
  · by_cases h2 : s.size ≤ 20
    · have hr : inR s.size 1 20 = true :=by unfold inR; simp; omega
      rw [hr] at h75
      simp only [rA,↓reduceIte,reduceCtorEq,N1,N2,N3,N4,N5,N6,N7,I1,I2,I3,I4,L1,e61,e57,Tryz.f61,h75,h1,h2]
      rw [for_block s.data.toList (fun i (_ : Unit) =>⟨2,[(0,.val 0 false [.p (.string s)]),(3,.val 1 false [.p (.int .i64 i)])]⟩) (fun i _ =>True)
        (fun r i a =>if r.all byteB = true then .norm ⟨0,[]⟩ else .ret ⟨[(false,[.p (.bool false)])],[]⟩) ?_ ?_ (a :=()) trivial (by simp only [rA,↓reduceIte,reduceCtorEq,N1,N2,N3,N4,N5,N6,N7,I1,I2,I3,I4,L1,e61]; rfl)]
      · cases h : s.data.toList.all byteB
        · simp only [rA,↓reduceIte,reduceCtorEq,N1,N2,N3,N4,N5,N6,N7,I1,I2,I3,I4,L1,e61,h]
        · simp only [rA,↓reduceIte,reduceCtorEq,N1,N2,N3,N4,N5,N6,N7,I1,I2,I3,I4,L1,e61,h]
      · intro i x r a hd hi _
        have hlen :=(List.getElem?_eq_some_iff.1 hi).1
        rw [sz_data] at hlen
        have hlt : ((i : Int) < (s.size : Int)) :=by omega
        have hwi :=wrap64 (n :=(i : Int) + 1) (by omega) (by omega)
        have hi0 : (0 : Int) ≤ (i : Int) :=by omega
        by_cases d1 : 97 ≤ (x.toNat : Int) <;> by_cases d2 : (x.toNat : Int) ≤ 122 <;> by_cases d3 : 48 ≤ (x.toNat : Int) <;> by_cases d4 : (x.toNat : Int) ≤ 57 <;> by_cases d5 : (x.toNat : Int) = 45 <;> by_cases d6 : (x.toNat : Int) = 46 <;> first
        | (exfalso; omega)
        | (left; refine ⟨(),?_,trivial,by simp [byteB,d1,d2,d3,d4,d5,d6]⟩; simp only [rA,↓reduceIte,reduceCtorEq,N1,N2,N3,N4,N5,N6,N7,I1,I2,I3,I4,L1,e61,hlt,hwi,hi0,hi,i64c,d1,d2,d3,d4,d5,d6]; done)
        | (right; simp only [rA,↓reduceIte,reduceCtorEq,N1,N2,N3,N4,N5,N6,N7,I1,I2,I3,I4,L1,e61,hlt,hwi,hi0,hi,i64c,d1,d2,d3,d4,d5,d6,List.all_cons,byteB]; done)
      · intro a _
        simp only [rA,↓reduceIte,reduceCtorEq,N1,N2,N3,N4,N5,N6,N7,I1,I2,I3,I4,L1,e61,sz_data,List.all_nil]
    · have hr : inR s.size 1 20 = false :=by unfold inR; simp; omega
      rw [hr] at h75
      simp only [rA,↓reduceIte,reduceCtorEq,N1,N2,N3,N4,N5,N6,N7,I1,I2,I3,I4,L1,e61,e57,Tryz.f61,h75,h1,h2]
  · have hr : inR s.size 1 20 = false :=by unfold inR; simp; omega
    rw [hr] at h75
    simp only [rA,↓reduceIte,reduceCtorEq,N1,N2,N3,N4,N5,N6,N7,I1,I2,I3,I4,L1,e61,e57,Tryz.f61,h75,h1]

def ascF : Option ByteArray → List ByteArray → Bool
  | _,[] =>true
  | none,x :: r =>nameB x && ascF (some x) r
  | some p,x :: r =>nameB x && (Op.bytesLess p.toList x.toList && ascF (some x) r)
def prevO {α : Type} (l : List α) : Nat → Option α
  | 0 =>none
  | i + 1 =>l[i]?
theorem prevO_cases {α : Type} (l : List α) {i : Nat} (hi : i ≤ l.length) (hl : l.length ≤ 4194304) : (¬ ((0 : Int) < (i : Int)) ∧ prevO l i = none) ∨ ∃ p,((0 : Int) < (i : Int)) ∧ (0 : Int) ≤ ((i - 1 : Nat) : Int) ∧ IntKind.i64.wrap ((i : Int) - 1) = ((i - 1 : Nat) : Int) ∧ l[i - 1]? = some p ∧ prevO l i = some p :=by
  cases i with
  | zero =>exact .inl ⟨by simp,rfl⟩
  | succ j =>
    have hj : l[j]? = some l[j] :=List.getElem?_eq_getElem (by omega)
    refine .inr ⟨l[j],by omega,by omega,?_,?_,?_⟩
    · rw [wrap64 (by omega) (by omega)]; omega
    · simp
    · simp [prevO]
theorem k104 (l : List ByteArray) (hl : l.length ≤ 4194304) : EV Tryz.prog E 104 [.val 0 false [.sl .shr 1 (l.map strC)]] = some ⟨[(false,[.p (.bool (ascF none l))])],[]⟩ :=by
  refine EV_intro Tryz.func104 rfl ?_
  simp only [rA,↓reduceIte,reduceCtorEq,N1,N2,N3,N4,N5,N6,N7,I1,I2,I3,I4,L1,e104,Tryz.f104]
  rw [for_block l (fun i (_ : Unit) =>⟨4,[(0,.val 0 false [.sl .shr 1 (l.map strC)]),(5,.val 1 false [.sl .shr 1 (l.map strC)]),(6,.val 2 false [.p (.int .i64 l.length)]),(7,.val 3 false [.p (.int .i64 i)])]⟩) (fun i _ =>True)
    (fun r i a =>if ascF (prevO l i) r = true then .norm ⟨0,[]⟩ else .ret ⟨[(false,[.p (.bool false)])],[]⟩) ?_ ?_ (a :=()) trivial (by simp only [rA,↓reduceIte,reduceCtorEq,N1,N2,N3,N4,N5,N6,N7,I1,I2,I3,I4,L1,e104]; rfl)]
  · cases h : ascF none l
    · simp only [rA,↓reduceIte,reduceCtorEq,N1,N2,N3,N4,N5,N6,N7,I1,I2,I3,I4,L1,e104,h,prevO]
    · simp only [rA,↓reduceIte,reduceCtorEq,N1,N2,N3,N4,N5,N6,N7,I1,I2,I3,I4,L1,e104,h,prevO]
  · intro i x r a hd hi _
    have hlen :=(List.getElem?_eq_some_iff.1 hi).1
    have hlt : ((i : Int) < (l.length : Int)) :=by omega
    have hr :=getElem?_map_some (f :=strC) hi
    have hi0 : (0 : Int) ≤ (i : Int) :=by omega
    have hk :=k74 x
    have hwi :=wrap64 (n :=(i : Int) + 1) (by omega) (by omega)
    have hp : prevO l (i + 1) = some x :=hi
    cases d1 : nameB x
    · right
      have hf : ascF (prevO l i) (x :: r) = false :=by cases hq : prevO l i <;> simp [ascF,d1]
      simp only [rA,↓reduceIte,reduceCtorEq,N1,N2,N3,N4,N5,N6,N7,I1,I2,I3,I4,L1,e104,e74,hlt,hr,hi0,hk,d1,strC,hf]
    · rcases prevO_cases l (Nat.le_of_lt hlen) hl with ⟨h0,h1⟩ | ⟨p,h0,hj0,hw2,hj,h1⟩
      · left
        refine ⟨(),?_,trivial,by rw [hp,h1]; simp [ascF,d1]⟩
        simp only [rA,↓reduceIte,reduceCtorEq,N1,N2,N3,N4,N5,N6,N7,I1,I2,I3,I4,L1,e104,e74,hlt,hr,hi0,hk,d1,strC,hwi,h0,i64c]
      · have hrj :=getElem?_map_some (f :=strC) hj
        cases d2 : Op.bytesLess p.toList x.toList
        · right
          have hf : ascF (prevO l i) (x :: r) = false :=by simp [h1,ascF,d2]
          simp only [rA,↓reduceIte,reduceCtorEq,N1,N2,N3,N4,N5,N6,N7,I1,I2,I3,I4,L1,e104,e74,hlt,hr,hi0,hk,d1,d2,strC,hwi,h0,hj0,hw2,hrj,hf]
        · left
          refine ⟨(),?_,trivial,by rw [hp,h1]; simp [ascF,d1,d2]⟩
          simp only [rA,↓reduceIte,reduceCtorEq,N1,N2,N3,N4,N5,N6,N7,I1,I2,I3,I4,L1,e104,e74,hlt,hr,hi0,hk,d1,d2,strC,hwi,h0,hj0,hw2,hrj,i64c]
  · intro a _
    simp only [rA,↓reduceIte,reduceCtorEq,N1,N2,N3,N4,N5,N6,N7,I1,I2,I3,I4,L1,e104,ascF]
theorem k117 (l : List ByteArray) (hl : l.length ≤ 4194304) : EV Tryz.prog E 117 [.val 0 false [.sl .shr 1 (l.map strC)]] = some ⟨[(false,[.p (.bool (ascF none l))])],[]⟩ :=by
  refine EV_intro Tryz.func117 rfl ?_
  simp only [rA,↓reduceIte,reduceCtorEq,N1,N2,N3,N4,N5,N6,N7,I1,I2,I3,I4,L1,e117,Tryz.f117]
  rw [for_block l (fun i (_ : Unit) =>⟨2,[(0,.val 0 false [.sl .shr 1 (l.map strC)]),(3,.val 1 false [.p (.int .i64 i)])]⟩) (fun i _ =>True)
    (fun r i a =>if ascF (prevO l i) r = true then .norm ⟨0,[]⟩ else .ret ⟨[(false,[.p (.bool false)])],[]⟩) ?_ ?_ (a :=()) trivial (by simp only [rA,↓reduceIte,reduceCtorEq,N1,N2,N3,N4,N5,N6,N7,I1,I2,I3,I4,L1,e117]; rfl)]
  · cases h : ascF none l
    · simp only [rA,↓reduceIte,reduceCtorEq,N1,N2,N3,N4,N5,N6,N7,I1,I2,I3,I4,L1,e117,h,prevO]
    · simp only [rA,↓reduceIte,reduceCtorEq,N1,N2,N3,N4,N5,N6,N7,I1,I2,I3,I4,L1,e117,h,prevO]
  · intro i x r a hd hi _
    have hlen :=(List.getElem?_eq_some_iff.1 hi).1
    have hlt : ((i : Int) < (l.length : Int)) :=by omega
    have hr :=getElem?_map_some (f :=strC) hi
    have hi0 : (0 : Int) ≤ (i : Int) :=by omega
    have hk :=k61 x
    have hwi :=wrap64 (n :=(i : Int) + 1) (by omega) (by omega)
    have hp : prevO l (i + 1) = some x :=hi
    cases d1 : nameB x
    · right
      have hf : ascF (prevO l i) (x :: r) = false :=by cases hq : prevO l i <;> simp [ascF,d1]
      simp only [rA,↓reduceIte,reduceCtorEq,N1,N2,N3,N4,N5,N6,N7,I1,I2,I3,I4,L1,e117,e61,hlt,hr,hi0,hk,d1,strC,hf]
    · rcases prevO_cases l (Nat.le_of_lt hlen) hl with ⟨h0,h1⟩ | ⟨p,h0,hj0,hw2,hj,h1⟩
      · left
        refine ⟨(),?_,trivial,by rw [hp,h1]; simp [ascF,d1]⟩
        simp only [rA,↓reduceIte,reduceCtorEq,N1,N2,N3,N4,N5,N6,N7,I1,I2,I3,I4,L1,e117,e61,hlt,hr,hi0,hk,d1,strC,hwi,h0,i64c]
      · have hrj :=getElem?_map_some (f :=strC) hj
        cases d2 : Op.bytesLess p.toList x.toList
        · right
          have hf : ascF (prevO l i) (x :: r) = false :=by simp [h1,ascF,d2]
          simp only [rA,↓reduceIte,reduceCtorEq,N1,N2,N3,N4,N5,N6,N7,I1,I2,I3,I4,L1,e117,e61,hlt,hr,hi0,hk,d1,d2,strC,hwi,h0,hj0,hw2,hrj,hf]
        · left
          refine ⟨(),?_,trivial,by rw [hp,h1]; simp [ascF,d1,d2]⟩
          simp only [rA,↓reduceIte,reduceCtorEq,N1,N2,N3,N4,N5,N6,N7,I1,I2,I3,I4,L1,e117,e61,hlt,hr,hi0,hk,d1,d2,strC,hwi,h0,hj0,hw2,hrj,i64c]
  · intro a _
    simp only [rA,↓reduceIte,reduceCtorEq,N1,N2,N3,N4,N5,N6,N7,I1,I2,I3,I4,L1,e117,ascF]
end Go.Proofs.YtfpconipgllkkaaGreat

