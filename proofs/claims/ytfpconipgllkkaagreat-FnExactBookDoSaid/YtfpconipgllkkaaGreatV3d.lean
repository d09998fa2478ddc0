/- What BookValid's small functions compute: the same object,the last change. -/
import Derived.Test.YtfpconipgllkkaaGreatV3c
namespace Go.Proofs.YtfpconipgllkkaaGreat
open Go.Sx
open Nat renaming reduceEqDiff → N1,reduceAdd → N2,reduceSub → N3,reduceMul → N4,reduceLeDiff → N5,reduceBEq → N6,reduceLT → N7
open Int renaming reduceLT → I1,reduceNeg → I2,reduceLE → I3,reduceEq → I4
open List renaming reduceReplicate → L1
set_option maxRecDepth 100000
set_option maxHeartbeats 4000000
set_option linter.unusedVariables false
set_option linter.unusedSimpArgs false
theorem k106 (l m : List ByteArray) (hl : l.length ≤ 4194304) (hm : m.length ≤ 4194304) : EV Tryz.prog E 106 [.val 0 false [.sl .shr 1 (l.map strC)],.val 0 false [.sl .shr 1 (m.map strC)]] = some ⟨[(false,[.p (.bool (decide (l = m)))])],[]⟩ :=by
  refine EV_intro Tryz.func106 rfl ?_
  by_cases hn : (l.length : Int) = (m.length : Int)
  · simp only [rA,↓reduceIte,reduceCtorEq,N1,N2,N3,N4,N5,N6,N7,I1,I2,I3,I4,L1,e106,Tryz.f106,hn]
    rw [for_block l (fun i (_ : Unit) =>⟨4,[(0,.val 0 false [.sl .shr 1 (l.map strC)]),(1,.val 1 false [.sl .shr 1 (m.map strC)]),(12,.val 2 false [.p (.int .i64 m.length)]),(13,.val 3 false [.p (.int .i64 i)])]⟩) (fun i _ =>True)
      (fun r i a =>if r = m.drop i then .norm ⟨0,[]⟩ else .ret ⟨[(false,[.p (.bool false)])],[]⟩) ?_ ?_ (a :=()) trivial (by simp only [rA,↓reduceIte,reduceCtorEq,N1,N2,N3,N4,N5,N6,N7,I1,I2,I3,I4,L1,e106,hn]; rfl)]
    · by_cases h : l = m
      · simp only [rA,↓reduceIte,reduceCtorEq,N1,N2,N3,N4,N5,N6,N7,I1,I2,I3,I4,L1,e106,h]
      · simp only [rA,↓reduceIte,reduceCtorEq,N1,N2,N3,N4,N5,N6,N7,I1,I2,I3,I4,L1,e106,h]
    · intro i x r a hd hi _
      have hlen :=(List.getElem?_eq_some_iff.1 hi).1
      have hlt : ((i : Int) < (m.length : Int)) :=by omega
      have hr :=getElem?_map_some (f :=strC) hi
      have hi0 : (0 : Int) ≤ (i : Int) :=by omega
      have hy : m[i]? = some (m[i]'(by omega)) :=List.getElem?_eq_getElem (by omega)
      have hd2 : m.drop i = m[i]'(by omega) :: m.drop (i + 1) :=List.drop_eq_getElem_cons (by omega)
      generalize m[i]'(by omega) = y at hy hd2
      have hry :=getElem?_map_some (f :=strC) hy
      have hwi :=wrap64 (n :=(i : Int) + 1) (by omega) (by omega)
      by_cases d1 : x = y
      · left
        refine ⟨(),?_,trivial,by rw [hd2,d1]; simp⟩
        simp only [rA,↓reduceIte,reduceCtorEq,N1,N2,N3,N4,N5,N6,N7,I1,I2,I3,I4,L1,e106,hlt,hr,hi0,hry,d1,strC,hwi,i64c]
      · right
        have hf : ¬ (x :: r = m.drop i) :=by rw [hd2]; intro e; exact d1 (List.cons.inj e).1
        simp only [rA,↓reduceIte,reduceCtorEq,N1,N2,N3,N4,N5,N6,N7,I1,I2,I3,I4,L1,e106,hlt,hr,hi0,hry,d1,strC,hwi,i64c,hf]
    · intro a _
      have e1 : (l.length : Int) = m.length :=hn
      have e2 : m.drop l.length = [] :=List.drop_eq_nil_of_le (by omega)
      simp only [rA,↓reduceIte,reduceCtorEq,N1,N2,N3,N4,N5,N6,N7,I1,I2,I3,I4,L1,e106,e1,e2]
  · have h : ¬ l = m :=fun e =>hn (by rw [e])
    simp only [rA,↓reduceIte,reduceCtorEq,N1,N2,N3,N4,N5,N6,N7,I1,I2,I3,I4,L1,e106,Tryz.f106,hn,h]
def sameB (x y : VO) : Bool :=decide (x.kind = y.kind) && (decide (x.name = y.name) && (decide (x.version = y.version) && (decide (x.born = y.born) && (decide (x.text = y.text) && ((x.ending == y.ending) && decide (x.holds = y.holds))))))
theorem k73 (x y : VO) (hl : x.holds.length ≤ 4194304) (hm : y.holds.length ≤ 4194304) : EV Tryz.prog E 73 [.val 0 true (VO.c .shr x),.val 0 true (VO.c .shr y)] = some ⟨[(false,[.p (.bool (sameB x y))])],[]⟩ :=by
  refine EV_intro Tryz.func73 rfl ?_
  have h :=k106 x.holds y.holds hl hm
  unfold sameB
  by_cases c1 : x.kind = y.kind
  case neg =>simp only [rA,↓reduceIte,reduceCtorEq,N1,N2,N3,N4,N5,N6,N7,I1,I2,I3,I4,L1,e73,e106,Tryz.f73,VO.c,c1]
  by_cases c2 : x.name = y.name
  case neg =>simp only [rA,↓reduceIte,reduceCtorEq,N1,N2,N3,N4,N5,N6,N7,I1,I2,I3,I4,L1,e73,e106,Tryz.f73,VO.c,c1,c2]
  by_cases c3 : x.version = y.version
  case neg =>simp only [rA,↓reduceIte,reduceCtorEq,N1,N2,N3,N4,N5,N6,N7,I1,I2,I3,I4,L1,e73,e106,Tryz.f73,VO.c,c1,c2,c3]
  by_cases c4 : x.born = y.born
  case neg =>simp only [rA,↓reduceIte,reduceCtorEq,N1,N2,N3,N4,N5,N6,N7,I1,I2,I3,I4,L1,e73,e106,Tryz.f73,VO.c,c1,c2,c3,c4]
  by_cases c5 : x.text = y.text
  case neg =>simp only [rA,↓reduceIte,reduceCtorEq,N1,N2,N3,N4,N5,N6,N7,I1,I2,I3,I4,L1,e73,e106,Tryz.f73,VO.c,c1,c2,c3,c4,c5]
  cases c6 : x.ending == y.ending
  · simp only [rA,↓reduceIte,reduceCtorEq,N1,N2,N3,N4,N5,N6,N7,I1,I2,I3,I4,L1,e73,e106,Tryz.f73,VO.c,c1,c2,c3,c4,c5,c6]
  · simp only [rA,↓reduceIte,reduceCtorEq,N1,N2,N3,N4,N5,N6,N7,I1,I2,I3,I4,L1,e73,e106,Tryz.f73,VO.c,c1,c2,c3,c4,c5,c6,h]
theorem k101 (x y : VO) (hl : x.holds.length ≤ 4194304) (hm : y.holds.length ≤ 4194304) : EV Tryz.prog E 101 [.val 0 true (VO.c .shr x),.val 0 true (VO.c .shr y)] = some ⟨[(false,[.p (.bool (sameB x y))])],[]⟩ :=by
  refine EV_intro Tryz.func101 rfl ?_
  unfold sameB
  by_cases c1 : x.kind = y.kind
  case neg =>simp only [rA,↓reduceIte,reduceCtorEq,N1,N2,N3,N4,N5,N6,N7,I1,I2,I3,I4,L1,e101,Tryz.f101,VO.c,c1]
  by_cases c2 : x.name = y.name
  case neg =>simp only [rA,↓reduceIte,reduceCtorEq,N1,N2,N3,N4,N5,N6,N7,I1,I2,I3,I4,L1,e101,Tryz.f101,VO.c,c1,c2]
  by_cases c3 : x.version = y.version
  case neg =>simp only [rA,↓reduceIte,reduceCtorEq,N1,N2,N3,N4,N5,N6,N7,I1,I2,I3,I4,L1,e101,Tryz.f101,VO.c,c1,c2,c3]
  by_cases c4 : x.born = y.born
  case neg =>simp only [rA,↓reduceIte,reduceCtorEq,N1,N2,N3,N4,N5,N6,N7,I1,I2,I3,I4,L1,e101,Tryz.f101,VO.c,c1,c2,c3,c4]
  by_cases c5 : x.text = y.text
  case neg =>simp only [rA,↓reduceIte,reduceCtorEq,N1,N2,N3,N4,N5,N6,N7,I1,I2,I3,I4,L1,e101,Tryz.f101,VO.c,c1,c2,c3,c4,c5]
  cases c6 : x.ending == y.ending
  · simp only [rA,↓reduceIte,reduceCtorEq,N1,N2,N3,N4,N5,N6,N7,I1,I2,I3,I4,L1,e101,Tryz.f101,VO.c,c1,c2,c3,c4,c5,c6]
  by_cases hn : (x.holds.length : Int) = (y.holds.length : Int)
  case neg =>
    have h : ¬ x.holds = y.holds :=fun e =>hn (by rw [e])
    simp only [rA,↓reduceIte,reduceCtorEq,N1,N2,N3,N4,N5,N6,N7,I1,I2,I3,I4,L1,e101,Tryz.f101,VO.c,c1,c2,c3,c4,c5,c6,hn,h]
  simp only [rA,↓reduceIte,reduceCtorEq,N1,N2,N3,N4,N5,N6,N7,I1,I2,I3,I4,L1,e101,Tryz.f101,VO.c,c1,c2,c3,c4,c5,c6,hn]
  rw [for_block x.holds (fun i (_ : Unit) =>⟨3,[(2,.box 0 0 (x.c .shr)),(3,.box 1 1 (y.c .shr)),(5,.val 2 false [.p (.int .i64 i)])]⟩) (fun i _ =>True)
      (fun r i a =>if r = y.holds.drop i then .norm ⟨0,[]⟩ else .ret ⟨[(false,[.p (.bool false)])],[]⟩) ?_ ?_ (a :=()) trivial (by simp only [rA,↓reduceIte,reduceCtorEq,N1,N2,N3,N4,N5,N6,N7,I1,I2,I3,I4,L1,e101,VO.c,c1,c2,c3,c4,c5]; rfl)]
  · by_cases h : x.holds = y.holds
    · simp only [rA,↓reduceIte,reduceCtorEq,N1,N2,N3,N4,N5,N6,N7,I1,I2,I3,I4,L1,e101,h]
    · simp only [rA,↓reduceIte,reduceCtorEq,N1,N2,N3,N4,N5,N6,N7,I1,I2,I3,I4,L1,e101,h]
  · intro i e r a hd hi _
    have hlen :=(List.getElem?_eq_some_iff.1 hi).1
    have hlt : ((i : Int) < (x.holds.length : Int)) :=by omega
    have hr :=getElem?_map_some (f :=strC) hi
    have hi0 : (0 : Int) ≤ (i : Int) :=by omega
    have hy : y.holds[i]? = some (y.holds[i]'(by omega)) :=List.getElem?_eq_getElem (by omega)
    have hd2 : y.holds.drop i = y.holds[i]'(by omega) :: y.holds.drop (i + 1) :=List.drop_eq_getElem_cons (by omega)
    generalize y.holds[i]'(by omega) = u at hy hd2
    have hry :=getElem?_map_some (f :=strC) hy
    have hwi :=wrap64 (n :=(i : Int) + 1) (by omega) (by omega)
    by_cases d1 : e = u
    · left
      refine ⟨(),?_,trivial,by rw [hd2,d1]; simp⟩
      simp only [rA,↓reduceIte,reduceCtorEq,N1,N2,N3,N4,N5,N6,N7,I1,I2,I3,I4,L1,e101,VO.c,hlt,hr,hi0,hry,d1,strC,hwi,i64c]
    · right
      have hf : ¬ (e :: r = y.holds.drop i) :=by rw [hd2]; intro e; exact d1 (List.cons.inj e).1
      simp only [rA,↓reduceIte,reduceCtorEq,N1,N2,N3,N4,N5,N6,N7,I1,I2,I3,I4,L1,e101,VO.c,hlt,hr,hi0,hry,d1,strC,hwi,i64c,hf]
  · intro a _
    have e2 : y.holds.drop x.holds.length = [] :=List.drop_eq_nil_of_le (by omega)
    simp only [rA,↓reduceIte,reduceCtorEq,N1,N2,N3,N4,N5,N6,N7,I1,I2,I3,I4,L1,e101,VO.c,e2]
def creaB (x : VC) : Bool :=!x.gone && decide (x.object.born = x.version)
theorem k100 (x : VC) : EV Tryz.prog E 100 [.val 0 true (VC.c .shr x)] = some ⟨[(false,[.p (.bool (creaB x))])],[]⟩ :=by
  refine EV_intro Tryz.func100 rfl ?_
  unfold creaB
  cases h : x.gone
  · simp only [rA,↓reduceIte,reduceCtorEq,N1,N2,N3,N4,N5,N6,N7,I1,I2,I3,I4,L1,e100,Tryz.f100,VC.c,h]
  · simp only [rA,↓reduceIte,reduceCtorEq,N1,N2,N3,N4,N5,N6,N7,I1,I2,I3,I4,L1,e100,Tryz.f100,VC.c,h]
def lastF (h : List VC) (o : VO) : Nat → Int
  | 0 =>-1
  | n + 1 =>match h[n]? with
    | some c =>if keyO c.object o = 0 then n else lastF h o n
    | none =>-1
theorem k99 (h : List VC) (o : VO) (n : Nat) (hn : n ≤ h.length) (hl : h.length ≤ 4194304) : EV Tryz.prog E 99 [.val 0 false [.sl .shr 9 (h.map (VC.c .shr))],.val 0 true (VO.c .shr o),.val 0 false [.p (.int .i64 n)]] = some ⟨[(false,[.p (.int .i64 (lastF h o n))])],[]⟩ :=by
  refine EV_intro Tryz.func99 rfl ?_
  have hw0 :=wrap64 (n :=(n : Int) - 1) (by omega) (by omega)
  simp only [rA,↓reduceIte,reduceCtorEq,N1,N2,N3,N4,N5,N6,N7,I1,I2,I3,I4,L1,e99,Tryz.f99,VO.c,hw0]
  rw [while_block (fun i : Nat =>⟨3,[(0,.val 0 false [.sl .shr 9 (h.map (VC.c .shr))]),(4,.box 1 1 (o.c .shr)),(7,.val 2 false [.p (.int .i64 ((i : Int) - 1))])]⟩) (fun i =>i ≤ n)
    (fun i =>if lastF h o i < 0 then .norm ⟨0,[]⟩ else .ret ⟨[(false,[.p (.int .i64 (lastF h o i))])],[]⟩) (fun i =>i) ?_ (i :=n) (Nat.le_refl n) (by simp only [rA,↓reduceIte,reduceCtorEq,N1,N2,N3,N4,N5,N6,N7,I1,I2,I3,I4,L1,e99,VO.c])]
  · by_cases hh : lastF h o n < 0
    · have e : lastF h o n = -1 :=by
        have : ∀ n,lastF h o n < 0 → lastF h o n = -1 :=by
          intro n
          induction n with
          | zero =>intro _; rfl
          | succ n ih =>
            intro e
            unfold lastF at e ⊢
            split at e
            · split at e
              · omega
              · rename_i hc hk
                rw [if_neg hk]
                exact ih e
            · rfl
        exact this n hh
      simp only [rA,↓reduceIte,reduceCtorEq,N1,N2,N3,N4,N5,N6,N7,I1,I2,I3,I4,L1,e99,hh,e]
    · simp only [rA,↓reduceIte,reduceCtorEq,N1,N2,N3,N4,N5,N6,N7,I1,I2,I3,I4,L1,e99,hh]
  · intro i hi
    cases i with
    | zero =>
      right
      have e0 : lastF h o 0 = -1 :=rfl
      have e1 : ((0 : Nat) : Int) - 1 = -1 :=rfl
      simp only [rA,↓reduceIte,reduceCtorEq,N1,N2,N3,N4,N5,N6,N7,I1,I2,I3,I4,L1,e99,VO.c,e0,e1]
    | succ j =>
      have hj : h[j]? = some (h[j]'(by omega)) :=List.getElem?_eq_getElem (by omega)
      generalize h[j]'(by omega) = c at hj
      have hr :=getElem?_map_some (f :=VC.c .shr) hj
      have hs : (j : Int) + 1 - 1 = j :=by omega
      have hj0 : (0 : Int) ≤ (j : Int) :=by omega
      have hwj :=wrap64 (n :=(j : Int) - 1) (by omega) (by omega)
      have hk :=k98 c.object o
      simp only [VO.c,VC.c] at hk hr
      have hl1 : lastF h o (j + 1) = if keyO c.object o = 0 then (j : Int) else lastF h o j :=by simp [lastF,hj]
      by_cases d : keyO c.object o = 0
      · right
        have hn0 : ¬ ((j : Int) < 0) :=by omega
        rw [hl1,if_pos d]
        simp only [rA,↓reduceIte,reduceCtorEq,N1,N2,N3,N4,N5,N6,N7,I1,I2,I3,I4,L1,e99,e98,VO.c,VC.c,i64c,hs,hj0,hr,hk,d,hn0]
      · left
        refine ⟨j,?_,by omega,by omega,by rw [hl1,if_neg d]⟩
        simp only [rA,↓reduceIte,reduceCtorEq,N1,N2,N3,N4,N5,N6,N7,I1,I2,I3,I4,L1,e99,e98,VO.c,VC.c,i64c,hs,hj0,hr,hk,d,hwj]
end Go.Proofs.YtfpconipgllkkaaGreat

