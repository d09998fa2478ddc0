/- What BookValid's small functions compute: keys,objects. -/
import Derived.Test.YtfpconipgllkkaaGreatV3b
namespace Go.Proofs.YtfpconipgllkkaaGreat
open Go.Sx
open Nat renaming reduceEqDiff → N1,reduceAdd → N2,reduceSub → N3,reduceMul → N4,reduceLeDiff → N5,reduceBEq → N6,reduceLT → N7
open Int renaming reduceLT → I1,reduceNeg → I2,reduceLE → I3,reduceEq → I4
open List renaming reduceReplicate → L1
set_option maxRecDepth 100000
set_option maxHeartbeats 4000000
set_option linter.unusedVariables false
set_option linter.unusedSimpArgs false
theorem k118 (a b : ByteArray) : EV Tryz.prog E 118 [.val 0 false [.p (.string a)],.val 0 false [.p (.string b)]] = some ⟨[(false,[.p (.int .i64 (cmpS a b))])],[]⟩ :=by
  refine EV_intro Tryz.func118 rfl ?_
  simp only [rA,↓reduceIte,reduceCtorEq,N1,N2,N3,N4,N5,N6,N7,I1,I2,I3,I4,L1,e118,e130,Tryz.f118]
theorem k105 (a b : ByteArray) : EV Tryz.prog E 105 [.val 0 false [.p (.string a)],.val 0 false [.p (.string b)]] = some ⟨[(false,[.p (.int .i64 (cmpS a b))])],[]⟩ :=by
  refine EV_intro Tryz.func105 rfl ?_
  have h :=k118 a b
  simp only [rA,↓reduceIte,reduceCtorEq,N1,N2,N3,N4,N5,N6,N7,I1,I2,I3,I4,L1,e105,e118,Tryz.f105,h]
def keyI (ak an bk bn : ByteArray) : Int :=if cmpS ak bk = 0 then cmpS an bn else cmpS ak bk
theorem k72 (ak an bk bn : ByteArray) : EV Tryz.prog E 72 [.val 0 true (keyC ak an),.val 0 true (keyC bk bn)] = some ⟨[(false,[.p (.int .i64 (keyI ak an bk bn))])],[]⟩ :=by
  refine EV_intro Tryz.func72 rfl ?_
  have h1 :=k105 ak bk
  have h2 :=k105 an bn
  unfold keyI
  by_cases h : cmpS ak bk = 0
  · rw [h] at h1
    simp only [rA,↓reduceIte,reduceCtorEq,N1,N2,N3,N4,N5,N6,N7,I1,I2,I3,I4,L1,e72,e105,Tryz.f72,h1,h2,h]
  · simp only [rA,↓reduceIte,reduceCtorEq,N1,N2,N3,N4,N5,N6,N7,I1,I2,I3,I4,L1,e72,e105,Tryz.f72,h1,h2,h]
def keyO (x y : VO) : Int :=keyI x.kind x.name y.kind y.name
theorem k98 (x y : VO) : EV Tryz.prog E 98 [.val 0 true (VO.c .shr x),.val 0 true (VO.c .shr y)] = some ⟨[(false,[.p (.int .i64 (keyO x y))])],[]⟩ :=by
  refine EV_intro Tryz.func98 rfl ?_
  unfold keyO keyI cmpS
  cases h1 : Op.bytesLess x.kind.toList y.kind.toList
  · cases h2 : Op.bytesLess y.kind.toList x.kind.toList
    · cases h3 : Op.bytesLess x.name.toList y.name.toList
      · cases h4 : Op.bytesLess y.name.toList x.name.toList
        · simp only [rA,↓reduceIte,reduceCtorEq,N1,N2,N3,N4,N5,N6,N7,I1,I2,I3,I4,L1,e98,Tryz.f98,VO.c,h1,h2,h3,h4]
        · simp only [rA,↓reduceIte,reduceCtorEq,N1,N2,N3,N4,N5,N6,N7,I1,I2,I3,I4,L1,e98,Tryz.f98,VO.c,h1,h2,h3,h4]
      · simp only [rA,↓reduceIte,reduceCtorEq,N1,N2,N3,N4,N5,N6,N7,I1,I2,I3,I4,L1,e98,Tryz.f98,VO.c,h1,h2,h3]
    · simp only [rA,↓reduceIte,reduceCtorEq,N1,N2,N3,N4,N5,N6,N7,I1,I2,I3,I4,L1,e98,Tryz.f98,VO.c,h1,h2]
  · simp only [rA,↓reduceIte,reduceCtorEq,N1,N2,N3,N4,N5,N6,N7,I1,I2,I3,I4,L1,e98,Tryz.f98,VO.c,h1]

def partsB (x : VO) (now : Int) : Bool :=nameB x.kind && (nameB x.name && (inR x.version 1 now && (inR x.born 1 x.version && (decide ((x.text.size : Int) ≤ 300) && (decide ((x.holds.length : Int) ≤ 5) && ascF none x.holds)))))
theorem k97 (x : VO) (now : Int) (hl : x.holds.length ≤ 4194304) : EV Tryz.prog E 97 [.val 0 true (VO.c .shr x),.val 0 false [.p (.int .i64 now)]] = some ⟨[(false,[.p (.bool (partsB x now))])],[]⟩ :=by
  refine EV_intro Tryz.func97 rfl ?_
  have h1 :=k61 x.kind
  have h2 :=k61 x.name
  have h3 :=k57 x.version 1 now
  have h4 :=k57 x.born 1 x.version
  have h5 :=k117 x.holds hl
  unfold partsB
  cases c1 : nameB x.kind
  · simp only [rA,↓reduceIte,reduceCtorEq,N1,N2,N3,N4,N5,N6,N7,I1,I2,I3,I4,L1,e97,e61,e57,e117,Tryz.f97,VO.c,h1,c1]
  cases c2 : nameB x.name
  · simp only [rA,↓reduceIte,reduceCtorEq,N1,N2,N3,N4,N5,N6,N7,I1,I2,I3,I4,L1,e97,e61,e57,e117,Tryz.f97,VO.c,h1,c1,h2,c2]
  cases c3 : inR x.version 1 now
  · simp only [rA,↓reduceIte,reduceCtorEq,N1,N2,N3,N4,N5,N6,N7,I1,I2,I3,I4,L1,e97,e61,e57,e117,Tryz.f97,VO.c,h1,c1,h2,c2,h3,c3]
  cases c4 : inR x.born 1 x.version
  · simp only [rA,↓reduceIte,reduceCtorEq,N1,N2,N3,N4,N5,N6,N7,I1,I2,I3,I4,L1,e97,e61,e57,e117,Tryz.f97,VO.c,h1,c1,h2,c2,h3,c3,h4,c4]
  by_cases c5 : (x.text.size : Int) ≤ 300
  · by_cases c6 : (x.holds.length : Int) ≤ 5
    · simp only [rA,↓reduceIte,reduceCtorEq,N1,N2,N3,N4,N5,N6,N7,I1,I2,I3,I4,L1,e97,e61,e57,e117,Tryz.f97,VO.c,h1,c1,h2,c2,h3,c3,h4,c4,c5,c6,h5]
    · simp only [rA,↓reduceIte,reduceCtorEq,N1,N2,N3,N4,N5,N6,N7,I1,I2,I3,I4,L1,e97,e61,e57,e117,Tryz.f97,VO.c,h1,c1,h2,c2,h3,c3,h4,c4,c5,c6]
  · simp only [rA,↓reduceIte,reduceCtorEq,N1,N2,N3,N4,N5,N6,N7,I1,I2,I3,I4,L1,e97,e61,e57,e117,Tryz.f97,VO.c,h1,c1,h2,c2,h3,c3,h4,c4,c5]
def endB (x : VO) (gone : Bool) : Bool :=if gone = true then x.ending && (decide ((x.holds.length : Int) = 0) && decide (x.born < x.version)) else !x.ending || decide ((0 : Int) < (x.holds.length : Int))
theorem k70 (x : VO) (now : Int) (gone : Bool) (hl : x.holds.length ≤ 4194304) : EV Tryz.prog E 70 [.val 0 true (VO.c .shr x),.val 0 false [.p (.int .i64 now)],.val 0 false [.p (.bool gone)]] = some ⟨[(false,[.p (.bool (partsB x now && endB x gone))])],[]⟩ :=by
  refine EV_intro Tryz.func70 rfl ?_
  have h1 :=k74 x.kind
  have h2 :=k74 x.name
  have h5 :=k104 x.holds hl
  unfold partsB inR
  cases c1 : nameB x.kind
  · simp only [rA,↓reduceIte,reduceCtorEq,N1,N2,N3,N4,N5,N6,N7,I1,I2,I3,I4,L1,e70,e74,e104,Tryz.f70,VO.c,h1,c1]
  cases c2 : nameB x.name
  · simp only [rA,↓reduceIte,reduceCtorEq,N1,N2,N3,N4,N5,N6,N7,I1,I2,I3,I4,L1,e70,e74,e104,Tryz.f70,VO.c,h1,c1,h2,c2]
  by_cases c3 : 1 ≤ x.version
  case neg =>
    have d3 : x.version < 1 :=by omega
    simp only [rA,↓reduceIte,reduceCtorEq,N1,N2,N3,N4,N5,N6,N7,I1,I2,I3,I4,L1,e70,e74,e104,Tryz.f70,VO.c,h1,c1,h2,c2,d3,c3]
  have d3 : ¬ x.version < 1 :=by omega
  by_cases c4 : x.version ≤ now
  case neg =>
    have d4 : now < x.version :=by omega
    simp only [rA,↓reduceIte,reduceCtorEq,N1,N2,N3,N4,N5,N6,N7,I1,I2,I3,I4,L1,e70,e74,e104,Tryz.f70,VO.c,h1,c1,h2,c2,d3,c3,d4,c4]
  have d4 : ¬ now < x.version :=by omega
  by_cases c5 : 1 ≤ x.born
  case neg =>
    have d5 : x.born < 1 :=by omega
    simp only [rA,↓reduceIte,reduceCtorEq,N1,N2,N3,N4,N5,N6,N7,I1,I2,I3,I4,L1,e70,e74,e104,Tryz.f70,VO.c,h1,c1,h2,c2,d3,c3,d4,c4,d5,c5]
  have d5 : ¬ x.born < 1 :=by omega
  by_cases c6 : x.born ≤ x.version
  case neg =>
    have d6 : x.version < x.born :=by omega
    simp only [rA,↓reduceIte,reduceCtorEq,N1,N2,N3,N4,N5,N6,N7,I1,I2,I3,I4,L1,e70,e74,e104,Tryz.f70,VO.c,h1,c1,h2,c2,d3,c3,d4,c4,d5,c5,d6,c6]
  have d6 : ¬ x.version < x.born :=by omega
  by_cases c7 : (x.text.size : Int) ≤ 300
  case neg =>
    have d7 : 300 < (x.text.size : Int) :=by omega
    simp only [rA,↓reduceIte,reduceCtorEq,N1,N2,N3,N4,N5,N6,N7,I1,I2,I3,I4,L1,e70,e74,e104,Tryz.f70,VO.c,h1,c1,h2,c2,d3,c3,d4,c4,d5,c5,d6,c6,d7,c7]
  have d7 : ¬ 300 < (x.text.size : Int) :=by omega
  by_cases c8 : (x.holds.length : Int) ≤ 5
  case neg =>
    have d8 : 5 < (x.holds.length : Int) :=by omega
    simp only [rA,↓reduceIte,reduceCtorEq,N1,N2,N3,N4,N5,N6,N7,I1,I2,I3,I4,L1,e70,e74,e104,Tryz.f70,VO.c,h1,c1,h2,c2,d3,c3,d4,c4,d5,c5,d6,c6,d7,c7,d8,c8]
  have d8 : ¬ 5 < (x.holds.length : Int) :=by omega
  cases c9 : ascF none x.holds
  · simp only [rA,↓reduceIte,reduceCtorEq,N1,N2,N3,N4,N5,N6,N7,I1,I2,I3,I4,L1,e70,e74,e104,Tryz.f70,VO.c,h1,c1,h2,c2,d3,c3,d4,c4,d5,c5,d6,c6,d7,c7,d8,c8,h5,c9]
  unfold endB
  cases gone
  · cases e : x.ending
    · simp only [rA,↓reduceIte,reduceCtorEq,N1,N2,N3,N4,N5,N6,N7,I1,I2,I3,I4,L1,e70,e74,e104,Tryz.f70,VO.c,h1,c1,h2,c2,d3,c3,d4,c4,d5,c5,d6,c6,d7,c7,d8,c8,h5,c9,e]
    · simp only [rA,↓reduceIte,reduceCtorEq,N1,N2,N3,N4,N5,N6,N7,I1,I2,I3,I4,L1,e70,e74,e104,Tryz.f70,VO.c,h1,c1,h2,c2,d3,c3,d4,c4,d5,c5,d6,c6,d7,c7,d8,c8,h5,c9,e]
  · cases e : x.ending
    · simp only [rA,↓reduceIte,reduceCtorEq,N1,N2,N3,N4,N5,N6,N7,I1,I2,I3,I4,L1,e70,e74,e104,Tryz.f70,VO.c,h1,c1,h2,c2,d3,c3,d4,c4,d5,c5,d6,c6,d7,c7,d8,c8,h5,c9,e]
    · by_cases f : (x.holds.length : Int) = 0
      · simp only [rA,↓reduceIte,reduceCtorEq,N1,N2,N3,N4,N5,N6,N7,I1,I2,I3,I4,L1,e70,e74,e104,Tryz.f70,VO.c,h1,c1,h2,c2,d3,c3,d4,c4,d5,c5,d6,c6,d7,c7,d8,c8,h5,c9,e,f]
      · simp only [rA,↓reduceIte,reduceCtorEq,N1,N2,N3,N4,N5,N6,N7,I1,I2,I3,I4,L1,e70,e74,e104,Tryz.f70,VO.c,h1,c1,h2,c2,d3,c3,d4,c4,d5,c5,d6,c6,d7,c7,d8,c8,h5,c9,e,f]
end Go.Proofs.YtfpconipgllkkaaGreat

