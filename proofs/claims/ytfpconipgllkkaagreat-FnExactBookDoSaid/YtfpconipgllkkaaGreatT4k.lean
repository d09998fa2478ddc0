/- impl.out,impl.put,spec.l2Put: what they compute. -/
import Derived.Test.YtfpconipgllkkaaGreatT4d
namespace Go.Proofs.YtfpconipgllkkaaGreat
open Go.Sx
open Nat renaming reduceEqDiff → N1,reduceAdd → N2,reduceSub → N3,reduceMul → N4,reduceLeDiff → N5,reduceBEq → N6,reduceLT → N7
open Int renaming reduceLT → I1,reduceNeg → I2,reduceLE → I3,reduceEq → I4
open List renaming reduceReplicate → L1
set_option maxRecDepth 100000
set_option maxHeartbeats 8000000
set_option linter.unusedVariables false
set_option linter.unusedSimpArgs false
theorem key_is (o x : VO) : isKey o.kind o.name x = decide (keyO x o = 0) :=by
  have :=key_zero x o
  unfold isKey
  by_cases h1 : x.kind = o.kind
  · by_cases h2 : x.name = o.name
    · rw [decide_eq_true (this.2 ⟨h1,h2⟩)]; simp [h1,h2]
    · rw [decide_eq_false (fun h =>h2 (this.1 h).2)]; simp [h2]
  · rw [decide_eq_false (fun h =>h1 (this.1 h).1)]; simp [h1]
theorem k115 (x : VO) (k n : ByteArray) : EV Tryz.prog E 115 [.val 0 true (VO.c .shr x),.rp (keyC k n)] = some ⟨[(false,[.p (.bool (isKey k n x))])],[]⟩ :=by
  refine EV_intro Tryz.func115 rfl ?_
  have h :=k71 x
  simp only [VO.c] at h
  unfold isKey
  simp only [rA,↓reduceIte,reduceCtorEq,N1,N2,N3,N4,N5,N6,N7,I1,I2,I3,I4,L1,e115,e71,Tryz.f115,VO.c,h]
theorem k94 (l : List VO) (o : VO) (hl : l.length ≤ 4194304) : EV Tryz.prog E 94 [.val 0 false [.sl .own 7 (l.map (VO.c .own))],.val 0 true (keyC o.kind o.name)] = some ⟨[(false,[.sl .own 7 ((putR o true l).map (VO.c .own))])],[]⟩ :=by
  refine EV_intro Tryz.func94 rfl ?_
  have h :=k114 (cp :=keyC o.kind o.name) (p :=isKey o.kind o.name) l hl (show (E.ann 115).modes = [] from rfl) (fun x =>k115 x o.kind o.name)
  have e : (fun x =>!isKey o.kind o.name x) = neK o :=by
    funext x
    rw [key_is]
    rfl
  rw [e] at h
  rw [putR_done]
  simp only [rA,↓reduceIte,reduceCtorEq,N1,N2,N3,N4,N5,N6,N7,I1,I2,I3,I4,L1,e94,e114,Tryz.f94,h,rowsBookObject]
theorem k116 (x o : VO) : EV Tryz.prog E 116 [.val 0 true (VO.c .shr x),.rp (keyC o.kind o.name)] = some ⟨[(false,[.p (.bool (geK o x))])],[]⟩ :=by
  refine EV_intro Tryz.func116 rfl ?_
  have h :=k71 x
  have h2 :=k72 x.kind x.name o.kind o.name
  simp only [VO.c] at h
  unfold geK keyO
  simp only [rA,↓reduceIte,reduceCtorEq,N1,N2,N3,N4,N5,N6,N7,I1,I2,I3,I4,L1,e116,e71,e72,Tryz.f116,VO.c,h,h2]
def rowsJ (l : List VO) (j : Nat) : List (List C) :=(l.take j).map (fun x =>jr (x,.hole)) ++ (l.drop j).map (VO.c .own)
theorem rowsJ_at {l : List VO} {j : Nat} {x : VO} (h : l[j]? = some x) : (rowsJ l j)[j]? = some (x.c .own) ∧ (rowsJ l j).set j (jr (x,.hole)) = rowsJ l (j + 1) ∧ (rowsJ l j).length = l.length :=by
  have hlt :=(List.getElem?_eq_some_iff.1 h).1
  have hd : l.drop j = x :: l.drop (j + 1) :=by
    rw [List.drop_eq_getElem_cons hlt]
    congr 1
    exact (List.getElem?_eq_some_iff.1 h).2
  have e : ((l.take j).map (fun x =>jr (x,C.hole))).length = j :=by simp; omega
  unfold rowsJ
  refine ⟨?_,?_,by simp; omega⟩
  · rw [List.getElem?_append_right (by omega),e,hd]
    simp
  · rw [List.set_append_right _ _ (by omega),e,hd,Nat.sub_self,take_snoc h,List.map_append,List.map_cons,List.set_cons_zero]
    simp
theorem rowsJ_len (l : List VO) (j : Nat) : (rowsJ l j).length = l.length :=by
  unfold rowsJ
  simp
  omega
theorem rowsJ_zero (l : List VO) : rowsJ l 0 = l.map (VO.c .own) :=by simp [rowsJ]
def ocJ (o : VO) (i : Int) (j : Nat) : List C :=if i < (j : Int) then jr (o,.hole) else o.c .own
theorem plc_le (o : VO) (l : List VO) : 0 ≤ plc o l ∧ plc o l ≤ l.length :=by
  have :=idxF_lt (geK o) (l :=l)
  unfold plc
  split <;> omega
theorem k95 (l : List VO) (o : VO) (hl : l.length ≤ 4194304) : EV Tryz.prog E 95 [.val 0 false [.sl .own 7 (l.map (VO.c .own))],.val 0 true (o.c .own)] = some ⟨[(false,[.sl .own 7 ((putR o false l).map (VO.c .own))])],[]⟩ :=by
  refine EV_intro Tryz.func95 rfl ?_
  have h1 :=k71 o
  have h2 :=k107 (cp :=keyC o.kind o.name) (p :=geK o) l hl (show (E.ann 116).modes = [] from rfl) (fun x =>k116 x o)
  simp only [VO.c] at h1
  obtain ⟨p0,p1⟩ :=plc_le o l
  have hoc0 : ocJ o (plc o l) 0 = o.c .own :=by unfold ocJ; rw [if_neg (by omega)]
  by_cases d : idxF (geK o) l 0 < 0
  all_goals
    have hp : plc o l = (if idxF (geK o) l 0 < 0 then (l.length : Int) else idxF (geK o) l 0) :=rfl
    simp only [d,if_true,if_false] at hp
    simp only [rA,↓reduceIte,reduceCtorEq,N1,N2,N3,N4,N5,N6,N7,I1,I2,I3,I4,L1,e95,e71,e107,Tryz.f95,VO.c,h1,h2,d,rowsBookObject,rowsString,List.map_nil,List.length_map]
    rw [for_block l (fun j (A : List VO) =>⟨8,[(0,.val 0 false [.sl .own 7 (rowsJ l j)]),(3,.box 1 1 (ocJ o (plc o l) j)),(5,.fz 2 (keyC o.kind o.name)),(6,.val 3 false [.p (.int .i64 (plc o l))]),(7,.val 4 false [.sl .own 7 (A.map (VO.c .own))]),(19,.lnk 0 0 0 1 false none none),(20,.val 6 false [.p (.int .i64 l.length)]),(21,.val 7 false [.p (.int .i64 j)])]⟩) (fun j A =>A.length ≤ 2 * j)
      (fun r j A =>.norm ⟨4,[(0,.val 0 false [.sl .own 7 (rowsJ l l.length)]),(3,.box 1 1 (ocJ o (plc o l) l.length)),(6,.val 2 false [.p (.int .i64 (plc o l))]),(7,.val 3 false [.sl .own 7 ((A ++ putI o (plc o l) j r).map (VO.c .own))])]⟩) ?_ ?_ (a :=[]) (Nat.zero_le _) (by rw [rowsJ_zero,hoc0,hp]; simp only [rA,↓reduceIte,reduceCtorEq,N1,N2,N3,N4,N5,N6,N7,I1,I2,I3,I4,L1,e95,VO.c,List.map_nil]; try rfl)]
    · have hr :=putR_eq o l
      have hrl :=rowsJ_len l l.length
      have hpl : (putI o (plc o l) 0 l).length ≤ l.length + 1 :=by
        have :=putR_len o false l
        rw [← hr,List.length_append] at this
        omega
      rw [← hr]
      have hL : (putI o (plc o l) 0 l).length + 1 < 4294967296 :=by omega
      by_cases e : plc o l = (l.length : Int)
      · have hoc : ocJ o (plc o l) l.length = o.c .own :=by unfold ocJ; rw [if_neg (by omega)]
        have he : endI o (plc o l) l.length = [o] :=by unfold endI; rw [if_pos e]
        rw [he,hoc,List.nil_append]
        generalize putI o (plc o l) 0 l = A at *
        simp only [rA,↓reduceIte,reduceCtorEq,N1,N2,N3,N4,N5,N6,N7,I1,I2,I3,I4,L1,e95,VO.c,hrl,e,hL,LIM,rowsBookObject,rowsString,List.map_append,List.map_cons,List.map_nil]
      · have he : endI o (plc o l) l.length = [] :=by unfold endI; rw [if_neg e]
        rw [he,List.append_nil,List.nil_append]
        generalize putI o (plc o l) 0 l = A at *
        simp only [rA,↓reduceIte,reduceCtorEq,N1,N2,N3,N4,N5,N6,N7,I1,I2,I3,I4,L1,e95,hrl,e,rowsBookObject]
    · intro j x r A hd' hj hA
      have hlen :=(List.getElem?_eq_some_iff.1 hj).1
      have hlt : ((j : Int) < (l.length : Int)) :=by omega
      obtain ⟨g1,g2,g3⟩ :=rowsJ_at hj
      have hj0 : (0 : Int) ≤ (j : Int) :=by omega
      have hwi :=wrap64 (n :=(j : Int) + 1) (by omega) (by omega)
      have hx1 :=k71 x
      have hjl : j < (rowsJ l j).length :=by omega
      have hL1 : A.length + 1 < 4294967296 :=by omega
      have hL2 : A.length + 1 + 1 < 4294967296 :=by omega
      have hne : neK o x = !(decide (x.kind = o.kind) && decide (x.name = o.name)) :=by
        have :=key_is o x
        unfold isKey at this
        unfold neK
        rw [this]
      simp only [VO.c,jr] at g1 g2 hx1
      left
      refine ⟨A ++ ((if (j : Int) = plc o l then [o] else []) ++ (if neK o x = true then [x] else [])),?_,?_,?_⟩
      · by_cases e : (j : Int) = plc o l
        · have o1 : ocJ o (plc o l) j = o.c .own :=by unfold ocJ; rw [if_neg (by omega)]
          have o2 : ocJ o (plc o l) (j + 1) = jr (o,.hole) :=by unfold ocJ; rw [if_pos (by omega)]
          rw [o1,o2,if_pos e,hne]
          have e' :=eq_true e
          clear e
          cases n1 : decide (x.kind = o.kind) <;> cases n2 : decide (x.name = o.name)
          all_goals simp only [rA,↓reduceIte,reduceCtorEq,N1,N2,N3,N4,N5,N6,N7,I1,I2,I3,I4,L1,e95,e71,VO.c,jr,hlt,g1,g2,g3,hj0,hwi,hx1,hjl,hlen,hL1,hL2,LIM,e',n1,n2,rowsBookObject,rowsString,List.map_append,List.map_cons,List.map_nil,List.append_nil,List.nil_append,List.append_assoc,List.cons_append,List.length_append,List.length_cons,List.length_nil,List.length_map,i64c]
        · have o1 : ocJ o (plc o l) (j + 1) = ocJ o (plc o l) j :=by
            unfold ocJ
            by_cases e2 : plc o l < (j : Int)
            · rw [if_pos e2,if_pos (by omega)]
            · rw [if_neg e2,if_neg (by omega)]
          rw [o1,if_neg e,hne]
          generalize ocJ o (plc o l) j = oc
          cases n1 : decide (x.kind = o.kind) <;> cases n2 : decide (x.name = o.name)
          all_goals simp only [rA,↓reduceIte,reduceCtorEq,N1,N2,N3,N4,N5,N6,N7,I1,I2,I3,I4,L1,e95,e71,VO.c,jr,hlt,g1,g2,g3,hj0,hwi,hx1,hjl,hlen,hL1,hL2,LIM,e,n1,n2,rowsBookObject,rowsString,List.map_append,List.map_cons,List.map_nil,List.append_nil,List.nil_append,List.append_assoc,List.cons_append,List.length_append,List.length_cons,List.length_nil,List.length_map,i64c]
      · rw [List.length_append,List.length_append]
        have q1 :=ite_len (neK o x) x
        have q2 : (if (j : Int) = plc o l then [o] else []).length ≤ 1 :=by split <;> simp
        omega
      · rw [putI]
        simp only [List.append_assoc]
    · intro A _
      have hn : ¬ ((l.length : Int) < (l.length : Int)) :=by omega
      simp only [rA,↓reduceIte,reduceCtorEq,N1,N2,N3,N4,N5,N6,N7,I1,I2,I3,I4,L1,e95,hn,putI,List.append_nil]
def putM (o : VO) : Bool → List VO → List VO
  | _,[] =>[]
  | done,x :: r =>(if (!done && geK o x) = true then [o] else []) ++ ((if neK o x = true then [x] else []) ++ putM o (done || geK o x) r)
def donM (o : VO) (done : Bool) (l : List VO) : Bool :=done || l.any (geK o)
theorem putM_eq (o : VO) : ∀ (l : List VO) (done : Bool),putM o done l ++ (if donM o done l = true then [] else [o]) = putR o done l
  | [],done =>by simp [putM,donM,putR]
  | x :: r,done =>by
    rw [putM,putR,← putM_eq o r (done || geK o x)]
    have : donM o done (x :: r) = donM o (done || geK o x) r :=by simp [donM,Bool.or_assoc]
    rw [this]
    simp
theorem rowsShr (l : List VO) : borRows (l.map (VO.c .shr)) = l.map (VO.c .shr) ∧ wholeRows (l.map (VO.c .shr)) = true ∧ allFreeRows (l.map (VO.c .shr)) = true :=by
  refine ⟨?_,(rowsBookObject l).2.2.2.1,(rowsBookObject l).2.2.2.2⟩
  induction l with
  | nil =>rfl
  | cons x r ih =>rw [List.map_cons,borRows,ih]; rfl
theorem k89 (l : List VO) (c : VC) (hl : l.length ≤ 4194304) : EV Tryz.prog E 89 [.val 0 false [.sl .shr 7 (l.map (VO.c .shr))],.val 0 true (c.c .shr)] = some ⟨[(false,[.sl .own 7 ((putR c.object c.gone l).map (VO.c .shr))])],[]⟩ :=by
  refine EV_intro Tryz.func89 rfl ?_
  simp only [rA,↓reduceIte,reduceCtorEq,N1,N2,N3,N4,N5,N6,N7,I1,I2,I3,I4,L1,e89,Tryz.f89,VC.c,List.map_nil]
  rw [for_block l (fun j (a : List VO × Bool) =>⟨5,[(0,.val 0 false [.sl .shr 7 (l.map (VO.c .shr))]),(3,.box 1 1 (c.c .shr)),(5,.val 2 false [.sl .own 7 (a.1.map (VO.c .shr))]),(6,.val 3 false [.p (.bool a.2)]),(7,.val 4 false [.p (.int .i64 j)])]⟩) (fun j a =>a.1.length ≤ 2 * j)
    (fun r j a =>.norm ⟨3,[(3,.box 0 0 (c.c .shr)),(5,.val 1 false [.sl .own 7 ((a.1 ++ putM c.object a.2 r).map (VO.c .shr))]),(6,.val 2 false [.p (.bool (donM c.object a.2 r))])]⟩) ?_ ?_ (a :=([],c.gone)) (Nat.zero_le _) (by simp only [rA,↓reduceIte,reduceCtorEq,N1,N2,N3,N4,N5,N6,N7,I1,I2,I3,I4,L1,e89,VC.c,List.map_nil]; try rfl)]
  · have hr :=putM_eq c.object l c.gone
    have hpl : (putM c.object c.gone l).length ≤ l.length + 1 :=by
      have :=putR_len c.object c.gone l
      rw [← hr,List.length_append] at this
      omega
    have hL : (putM c.object c.gone l).length + 1 < 4294967296 :=by omega
    rw [← hr,List.nil_append]
    generalize putM c.object c.gone l = A at *
    cases e : donM c.object c.gone l
    · simp only [rA,↓reduceIte,reduceCtorEq,N1,N2,N3,N4,N5,N6,N7,I1,I2,I3,I4,L1,e89,VC.c,e,hL,LIM,rowsShr,VO.c,List.map_append,List.map_cons,List.map_nil,List.length_map]
    · simp only [rA,↓reduceIte,reduceCtorEq,N1,N2,N3,N4,N5,N6,N7,I1,I2,I3,I4,L1,e89,e,rowsShr,List.append_nil]
  · intro j x r a hd' hj hA
    obtain ⟨A,dn⟩ :=a
    simp only at hA
    have hlen :=(List.getElem?_eq_some_iff.1 hj).1
    have hlt : ((j : Int) < (l.length : Int)) :=by omega
    have hr :=getElem?_map_some (f :=VO.c .shr) hj
    have hj0 : (0 : Int) ≤ (j : Int) :=by omega
    have hwi :=wrap64 (n :=(j : Int) + 1) (by omega) (by omega)
    have hk :=k98 x c.object
    have hL1 : A.length + 1 < 4294967296 :=by omega
    have hL2 : A.length + 1 + 1 < 4294967296 :=by omega
    have hge : geK c.object x = decide (0 ≤ keyO x c.object) :=rfl
    have hne : neK c.object x = !decide (keyO x c.object = 0) :=rfl
    simp only [VO.c] at hr hk
    left
    refine ⟨(A ++ ((if (!dn && geK c.object x) = true then [c.object] else []) ++ (if neK c.object x = true then [x] else [])),dn || geK c.object x),?_,?_,?_⟩
    · rw [hge,hne]
      generalize keyO x c.object = kx at *
      cases d0 : dn <;> cases d1 : decide (0 ≤ kx) <;> cases d2 : decide (kx = 0)
      all_goals simp only [rA,↓reduceIte,reduceCtorEq,N1,N2,N3,N4,N5,N6,N7,I1,I2,I3,I4,L1,e89,e98,VC.c,VO.c,hlt,hr,hj0,hwi,hk,hL1,hL2,LIM,d0,d1,d2,rowsShr,List.map_append,List.map_cons,List.map_nil,List.append_nil,List.nil_append,List.append_assoc,List.cons_append,List.length_append,List.length_cons,List.length_nil,List.length_map,i64c]
    · show (A ++ _).length ≤ _
      rw [List.length_append,List.length_append]
      have q1 :=ite_len (neK c.object x) x
      have q2 :=ite_len (!dn && geK c.object x) c.object
      omega
    · show O.norm _ = O.norm _
      rw [putM]
      have : donM c.object dn (x :: r) = donM c.object (dn || geK c.object x) r :=by simp [donM,Bool.or_assoc]
      simp only [List.append_assoc,this]
  · intro a _
    obtain ⟨A,dn⟩ :=a
    have hn : ¬ ((l.length : Int) < (l.length : Int)) :=by omega
    simp only [rA,↓reduceIte,reduceCtorEq,N1,N2,N3,N4,N5,N6,N7,I1,I2,I3,I4,L1,e89,hn,putM,donM,List.append_nil,List.any_nil,Bool.or_false]
end Go.Proofs.YtfpconipgllkkaaGreat

