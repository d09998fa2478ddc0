/- What BookValid's small functions compute. -/
import Derived.Test.YtfpconipgllkkaaGreatB3
import Derived.Test.YtfpconipgllkkaaGreatSxD
namespace Go.Proofs.YtfpconipgllkkaaGreat
open Go.Sx
open Nat renaming reduceEqDiff → N1,reduceAdd → N2,reduceSub → N3,reduceMul → N4,reduceLeDiff → N5,reduceBEq → N6,reduceLT → N7
open Int renaming reduceLT → I1,reduceNeg → I2,reduceLE → I3,reduceEq → I4
open List renaming reduceReplicate → L1
set_option maxRecDepth 100000
set_option maxHeartbeats 4000000
set_option linter.unusedVariables false
set_option linter.unusedSimpArgs false
def byteB (c : UInt8) : Bool :=decide (97 ≤ (c.toNat : Int)) && decide ((c.toNat : Int) ≤ 122) || decide (48 ≤ (c.toNat : Int)) && decide ((c.toNat : Int) ≤ 57) || decide ((c.toNat : Int) = 45) || decide ((c.toNat : Int) = 46)
def nameB (s : ByteArray) : Bool :=decide (1 ≤ s.size) && decide (s.size ≤ 20) && s.data.toList.all byteB
theorem sz_data (s : ByteArray) : s.data.toList.length = s.size :=Array.length_toList
def inR (n a b : Int) : Bool :=decide (a ≤ n) && decide (n ≤ b)
theorem k57 (n a b : Int) : EV Tryz.prog E 57 [.val 0 false [.p (.int .i64 n)],.val 0 false [.p (.int .i64 a)],.val 0 false [.p (.int .i64 b)]] = some ⟨[(false,[.p (.bool (inR n a b))])],[]⟩ :=by
  refine EV_intro Tryz.func57 rfl ?_
  cases h : decide (a ≤ n)
  · simp only [rA,↓reduceIte,reduceCtorEq,N1,N2,N3,N4,N5,N6,N7,I1,I2,I3,I4,L1,e57,Tryz.f57,h,inR]
  · simp only [rA,↓reduceIte,reduceCtorEq,N1,N2,N3,N4,N5,N6,N7,I1,I2,I3,I4,L1,e57,Tryz.f57,h,inR]
theorem k74 (s : ByteArray) : EV Tryz.prog E 74 [.val 0 false [.p (.string s)]] = some ⟨[(false,[.p (.bool (nameB s))])],[]⟩ :=by
  refine EV_intro Tryz.func74 rfl ?_
  unfold nameB
  by_cases h1 : 1 ≤ s.size
  · by_cases h2 : s.size ≤ 20
    · have h1' : ¬ ((s.size : Int) < 1) :=by omega
      have h2' : ¬ ((20 : Int) < (s.size : Int)) :=by omega
      simp only [rA,↓reduceIte,reduceCtorEq,N1,N2,N3,N4,N5,N6,N7,I1,I2,I3,I4,L1,e74,Tryz.f74,h1',h2',h1,h2]
      rw [for_block s.data.toList (fun i (_ : Unit) =>⟨3,[(0,.val 0 false [.p (.string s)]),(14,.val 1 false [.p (.int .i64 s.size)]),(15,.val 2 false [.p (.int .i64 i)])]⟩) (fun i _ =>True)
        (fun r i a =>if r.all byteB = true then .norm ⟨0,[]⟩ else .ret ⟨[(false,[.p (.bool false)])],[]⟩) ?_ ?_ (a :=()) trivial (by simp only [rA,↓reduceIte,reduceCtorEq,N1,N2,N3,N4,N5,N6,N7,I1,I2,I3,I4,L1,e74]; rfl)]
      · cases h : s.data.toList.all byteB
        · simp only [rA,↓reduceIte,reduceCtorEq,N1,N2,N3,N4,N5,N6,N7,I1,I2,I3,I4,L1,e74,h]
        · simp only [rA,↓reduceIte,reduceCtorEq,N1,N2,N3,N4,N5,N6,N7,I1,I2,I3,I4,L1,e74,h]
      · intro i x r a hd hi _
        have hlen :=(List.getElem?_eq_some_iff.1 hi).1
        rw [sz_data] at hlen
        have hlt : ((i : Int) < (s.size : Int)) :=by omega
        have hwi :=wrap64 (n :=(i : Int) + 1) (by omega) (by omega)
        have hi0 : (0 : Int) ≤ (i : Int) :=by omega
        unfold byteB
        by_cases d1 : 97 ≤ (x.toNat : Int) <;> by_cases d2 : (x.toNat : Int) ≤ 122 <;> by_cases d3 : 48 ≤ (x.toNat : Int) <;> by_cases d4 : (x.toNat : Int) ≤ 57 <;> by_cases d5 : (x.toNat : Int) = 45 <;> by_cases d6 : (x.toNat : Int) = 46 <;> first
        | (exfalso; omega)
        | (left; refine ⟨(),?_,trivial,by simp [byteB,d1,d2,d3,d4,d5,d6]⟩; simp only [rA,↓reduceIte,reduceCtorEq,N1,N2,N3,N4,N5,N6,N7,I1,I2,I3,I4,L1,e74,hlt,hwi,hi0,hi,i64c,d1,d2,d3,d4,d5,d6]; done)
        | (right; simp only [rA,↓reduceIte,reduceCtorEq,N1,N2,N3,N4,N5,N6,N7,I1,I2,I3,I4,L1,e74,hlt,hwi,hi0,hi,i64c,d1,d2,d3,d4,d5,d6,List.all_cons]; done)
      · intro a _
        simp only [rA,↓reduceIte,reduceCtorEq,N1,N2,N3,N4,N5,N6,N7,I1,I2,I3,I4,L1,e74,sz_data,List.all_nil]
    · have h1' : ¬ ((s.size : Int) < 1) :=by omega
      have h2' : ((20 : Int) < (s.size : Int)) :=by omega
      simp only [rA,↓reduceIte,reduceCtorEq,N1,N2,N3,N4,N5,N6,N7,I1,I2,I3,I4,L1,e74,Tryz.f74,h1',h2',h1,h2]
  · have h1' : ((s.size : Int) < 1) :=by omega
    simp only [rA,↓reduceIte,reduceCtorEq,N1,N2,N3,N4,N5,N6,N7,I1,I2,I3,I4,L1,e74,Tryz.f74,h1',h1]
end Go.Proofs.YtfpconipgllkkaaGreat

