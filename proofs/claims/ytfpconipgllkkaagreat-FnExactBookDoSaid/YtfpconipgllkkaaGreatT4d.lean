/- Objects taken out of a list: slices.DeleteFunc. -/
import Derived.Test.YtfpconipgllkkaaGreatT4
namespace Go.Proofs.YtfpconipgllkkaaGreat
open Go.Sx
open Nat renaming reduceEqDiff → N1,reduceAdd → N2,reduceSub → N3,reduceMul → N4,reduceLeDiff → N5,reduceBEq → N6,reduceLT → N7
open Int renaming reduceLT → I1,reduceNeg → I2,reduceLE → I3,reduceEq → I4
open List renaming reduceReplicate → L1
set_option maxRecDepth 100000
set_option maxHeartbeats 4000000
set_option linter.unusedVariables false
set_option linter.unusedSimpArgs false
def jr (q : VO × C) : List C :=[.p (.string q.1.kind),.p (.string q.1.name),.p (.int .i64 q.1.version),.p (.int .i64 q.1.born),.p (.string q.1.text),.p (.bool q.1.ending),q.2]
theorem own_jr (x : VO) : x.c .own = jr (x,.sl .own 1 (x.holds.map strC)) :=rfl
def InvD (p : VO → Bool) (l : List VO) (j : Nat) (a : List (List C) × Nat) : Prop :=∃ kept junk,a.1 = kept.map (VO.c .own) ++ (junk.map jr ++ (l.drop j).map (VO.c .own)) ∧ a.2 = kept.length ∧ kept.length + junk.length = j ∧ junk ≠ [] ∧
  (∀ q ∈ junk,q.2.loose = true) ∧ kept = (l.take j).filter (fun x =>!p x)
def stepD (p : VO → Bool) (j : Nat) (a : List (List C) × Nat) (x : VO) : List (List C) × Nat :=if p x = true then (a.1.set j (jr (x,.hole)),a.2) else ((a.1.set j (jr (x,.hole))).set a.2 (x.c .own),a.2 + 1)
def runD (p : VO → Bool) : Nat → List (List C) × Nat → List VO → List (List C) × Nat
  | _,a,[] =>a
  | j,a,x :: r =>runD p (j + 1) (stepD p j a x) r
theorem invD_facts {p : VO → Bool} {l : List VO} {j : Nat} {a : List (List C) × Nat} {x : VO} (h : InvD p l j a) (hx : l[j]? = some x) :
    a.1.length = l.length ∧ a.1[j]? = some (x.c .own) ∧ a.2 < j ∧ (∃ q,(a.1.set j (jr (x,.hole)))[a.2]? = some (jr q) ∧ q.2.loose = true) ∧ InvD p l (j + 1) (stepD p j a x) :=by
  obtain ⟨kept,junk,h1,h2,h3,h4,h5,h6⟩ :=h
  have hlt :=(List.getElem?_eq_some_iff.1 hx).1
  have hd : l.drop j = x :: l.drop (j + 1) :=by
    rw [List.drop_eq_getElem_cons hlt]
    congr 1
    exact (List.getElem?_eq_some_iff.1 hx).2
  have hjl : 0 < junk.length :=List.length_pos_iff.2 h4
  have hset : a.1.set j (jr (x,.hole)) = kept.map (VO.c .own) ++ (junk.map jr ++ jr (x,.hole) :: (l.drop (j + 1)).map (VO.c .own)) :=by
    rw [h1,hd,List.map_cons]
    rw [List.set_append_right _ _ (by simp; omega),List.set_append_right _ _ (by simp; omega)]
    simp only [List.length_map]
    rw [show j - kept.length - junk.length = 0 by omega]
    rfl
  obtain ⟨q,junk',hj⟩ : ∃ q junk',junk = q :: junk' :=by
    cases junk with
    | nil =>exact absurd rfl h4
    | cons q r =>exact ⟨q,r,rfl⟩
  have htk : (l.take (j + 1)).filter (fun x =>!p x) = if p x = true then kept else kept ++ [x] :=by
    rw [take_snoc hx,List.filter_append,← h6]
    cases hp : p x <;> simp [hp]
  refine ⟨?_,?_,by omega,⟨q,?_,h5 q (by rw [hj]; simp)⟩,?_⟩
  · rw [h1]
    simp
    omega
  · rw [h1,hd,List.getElem?_append_right (by simp; omega),List.getElem?_append_right (by simp; omega)]
    simp only [List.length_map]
    rw [show j - kept.length - junk.length = 0 by omega]
    rfl
  · rw [hset,h2,hj,List.getElem?_append_right (by simp)]
    simp
  · unfold stepD
    by_cases hp : p x = true
    · rw [if_pos hp]
      refine ⟨kept,junk ++ [(x,.hole)],?_,h2,by simp; omega,by simp,?_,by rw [htk,if_pos hp]⟩
      · show a.1.set j (jr (x,.hole)) = _
        rw [hset]
        simp
      · intro q' hq'
        rcases List.mem_append.1 hq' with hq' | hq'
        · exact h5 q' hq'
        · simp at hq'
          rw [hq']
          rfl
    · rw [if_neg hp]
      refine ⟨kept ++ [x],junk' ++ [(x,.hole)],?_,by simp [h2],by rw [hj] at h3; simp at h3 ⊢; omega,by simp,?_,by rw [htk,if_neg hp]⟩
      · show (a.1.set j (jr (x,.hole))).set a.2 (x.c .own) = _
        rw [hset,h2,hj,List.set_append_right _ _ (by simp)]
        simp
      · intro q' hq'
        rcases List.mem_append.1 hq' with hq' | hq'
        · exact h5 q' (by rw [hj]; exact List.mem_cons_of_mem _ hq')
        · simp at hq'
          rw [hq']
          rfl
theorem runD_inv {p : VO → Bool} {l : List VO} : ∀ (r : List VO) (j : Nat) {a : List (List C) × Nat},l.drop j = r → InvD p l j a → InvD p l (j + r.length) (runD p j a r)
  | [],j,a,_,h =>h
  | x :: r,j,a,hd,h =>by
    have hx : l[j]? = some x :=by
      have :=congrArg (fun t =>t[0]?) hd
      simpa using this
    have h2 :=(invD_facts h hx).2.2.2.2
    have hd' : l.drop (j + 1) = r :=by
      rw [← List.drop_drop,hd]
      rfl
    have :=runD_inv r (j + 1) hd' h2
    rw [List.length_cons,show j + (r.length + 1) = j + 1 + r.length by omega]
    exact this
theorem filter_all {p : VO → Bool} : ∀ {l : List VO},l.find? p = none → l.filter (fun x =>!p x) = l
  | [],_ =>rfl
  | x :: r,h =>by
    rw [List.find?_cons] at h
    cases hp : p x
    · rw [hp] at h
      rw [List.filter_cons,hp]
      simp only [Bool.not_false,if_true]
      rw [filter_all (l :=r) h]
    · rw [hp] at h; cases h
theorem idxF_none {p : VO → Bool} {l : List VO} (h : idxF p l 0 = -1) : l.find? p = none :=by
  rcases idxF_find p l 0 with ⟨h1,_⟩ | ⟨i,o,_,_,_,h4⟩
  · exact h1
  · rw [h] at h4; omega
theorem take_none {p : VO → Bool} : ∀ {l : List VO} {i k : Nat},idxF p l k = ((k + i : Nat) : Int) → ∃ x,l[i]? = some x ∧ p x = true ∧ (l.take i).filter (fun x =>!p x) = l.take i
  | [],i,k,h =>by simp [idxF] at h; omega
  | x :: r,i,k,h =>by
    simp only [idxF] at h
    cases hp : p x
    · rw [hp] at h
      simp only [Bool.false_eq_true,if_false] at h
      cases i with
      | zero =>
        have :=idxF_ge p r (k + 1)
        omega
      | succ i =>
        obtain ⟨y,h1,h2,h3⟩ :=take_none (l :=r) (i :=i) (k :=k + 1) (by rw [h]; omega)
        exact ⟨y,by simpa using h1,h2,by rw [List.take_succ_cons,List.filter_cons,hp]; simp only [Bool.not_false,if_true]; rw [h3]⟩
    · rw [hp] at h
      simp only [if_true] at h
      have : i = 0 :=by omega
      subst this
      exact ⟨x,rfl,hp,rfl⟩
where idxF_ge (p : VO → Bool) : ∀ (l : List VO) (k : Nat),idxF p l k = -1 ∨ (k : Int) ≤ idxF p l k
  | [],k =>.inl rfl
  | x :: r,k =>by
    simp only [idxF]
    cases p x
    · simp only [Bool.false_eq_true,if_false]
      rcases idxF_ge p r (k + 1) with h | h
      · exact .inl h
      · exact .inr (by omega)
    · simp
theorem k114 {f : FuncId} {cp : List C} {p : VO → Bool} (l : List VO) (hl : l.length ≤ 4194304) (hm : (E.ann f).modes = [])
    (hp : ∀ x,EV Tryz.prog E f [.val 0 true (VO.c .shr x),.rp cp] = some ⟨[(false,[.p (.bool (p x))])],[]⟩) :
    EV Tryz.prog E 114 [.val 0 false [.sl .own 7 (l.map (VO.c .own))],.fn f [cp]] = some ⟨[(false,[.sl .own 7 ((l.filter fun x =>!p x).map (VO.c .own))])],[]⟩ :=by
  refine EV_intro Tryz.func114 rfl ?_
  have h1 :=k107 l hl hm hp
  by_cases d : idxF p l 0 = -1
  · rw [d] at h1
    rw [filter_all (idxF_none d)]
    simp only [rA,↓reduceIte,reduceCtorEq,N1,N2,N3,N4,N5,N6,N7,I1,I2,I3,I4,L1,e114,e107,Tryz.f114,h1,rowsBookObject]
  obtain ⟨i0,hi0⟩ : ∃ i0 : Nat,idxF p l 0 = (i0 : Int) :=by
    have :=(idxF_lt p (l :=l)).2
    exact ⟨(idxF p l 0).toNat,by omega⟩
  obtain ⟨y,hy,hpy,htk⟩ :=take_none (l :=l) (i :=i0) (k :=0) (by rw [hi0]; omega)
  have hyl :=(List.getElem?_eq_some_iff.1 hy).1
  rw [hi0] at h1
  have hne : ¬ ((i0 : Int) = -1) :=by omega
  have hw1 :=wrap64 (n :=(i0 : Int) + 1) (by omega) (by omega)
  have hw1' : IntKind.i64.wrap ((i0 : Int) + 1) = ((i0 + 1 + 0 : Nat) : Int) :=by rw [hw1]; omega
  have hI0 : InvD p l (i0 + 1) (l.map (VO.c .own),i0) :=by
    refine ⟨l.take i0,[(y,.sl .own 1 (y.holds.map strC))],?_,by simp; omega,by simp; omega,by simp,?_,?_⟩
    · have hd : l.drop i0 = y :: l.drop (i0 + 1) :=by
        rw [List.drop_eq_getElem_cons hyl]
        congr 1
        exact (List.getElem?_eq_some_iff.1 hy).2
      show l.map (VO.c .own) = _
      rw [List.map_cons,← own_jr,List.map_nil,List.singleton_append,← List.map_cons,← hd,← List.map_append,List.take_append_drop]
    · intro q hq
      simp at hq
      rw [hq]
      rfl
    · rw [take_snoc hy,List.filter_append,htk]
      simp [hpy]
  simp only [rA,↓reduceIte,reduceCtorEq,N1,N2,N3,N4,N5,N6,N7,I1,I2,I3,I4,L1,e114,e107,Tryz.f114,h1,hne,hw1',rowsBookObject]
  rw [for_block (l.drop (i0 + 1)) (fun k (a : List (List C) × Nat) =>⟨4,[(0,.val 0 false [.sl .own 7 a.1]),(1,.fn f [cp]),(5,.val 2 false [.p (.int .i64 a.2)]),(6,.val 3 false [.p (.int .i64 ((i0 + 1 + k : Nat) : Int))])]⟩) (fun k a =>InvD p l (i0 + 1 + k) a)
    (fun r k a =>.norm ⟨2,[(0,.val 0 false [.sl .own 7 (runD p (i0 + 1 + k) a r).1]),(5,.val 1 false [.p (.int .i64 (runD p (i0 + 1 + k) a r).2)])]⟩) ?_ ?_ (a :=(l.map (VO.c .own),i0)) hI0 (by simp only [rA,↓reduceIte,reduceCtorEq,N1,N2,N3,N4,N5,N6,N7,I1,I2,I3,I4,L1,e114])]
  · have hI :=runD_inv (p :=p) (l :=l) (l.drop (i0 + 1)) (i0 + 1) rfl hI0
    rw [Nat.add_zero]
    generalize runD p (i0 + 1) (l.map (VO.c .own),i0) (l.drop (i0 + 1)) = a at hI
    obtain ⟨R,n⟩ :=a
    obtain ⟨kept,junk,e1,e2,e3,e4,e5,e6⟩ :=hI
    have hjl : i0 + 1 + (l.drop (i0 + 1)).length = l.length :=by rw [List.length_drop]; omega
    rw [hjl] at e1 e3 e6
    rw [List.take_length] at e6
    simp only at e1 e2
    rw [List.drop_length,List.map_nil,List.append_nil] at e1
    subst e6
    generalize l.filter (fun x =>!p x) = kept at e1 e2 e3
    subst e2
    have g1 : R.length = l.length :=by rw [e1]; simp; omega
    have g2 : kept.length ≤ R.length :=by omega
    have g3 : (0 : Int) ≤ (kept.length : Int) :=by omega
    have g4 : List.take kept.length R = kept.map (VO.c .own) :=by rw [e1,List.take_left' (by simp)]
    have g5 : kept.length + (R.length - kept.length) ≤ R.length :=by omega
    have g6 : List.drop (kept.length + (R.length - kept.length)) R = [] :=List.drop_eq_nil_of_le (by omega)
    have g8 : 0 ≤ kept.length :=Nat.zero_le _
    have g9 : R.length ≤ R.length :=Nat.le_refl _
    have hz : ∀ m : Nat,wholeRows (List.replicate m [C.p (.string ⟨#[]⟩),C.p (.string ⟨#[]⟩),C.p (.int .i64 0),C.p (.int .i64 0),C.p (.string ⟨#[]⟩),C.p (.bool false),C.sl .own 1 []]) = true :=by
      intro m
      induction m with
      | zero =>rfl
      | succ m ih =>rw [List.replicate_succ]; simp only [wholeRows,ih]; rfl
    have hwa : ∀ a b : List (List C),wholeRows a = true → wholeRows b = true → wholeRows (a ++ b) = true :=by
      intro a b ha hb
      induction a with
      | nil =>exact hb
      | cons r a ih =>
        simp only [wholeRows,Bool.and_eq_true,List.cons_append] at ha ⊢
        exact ⟨ha.1,ih ha.2⟩
    have g7 :=hwa _ _ (rowsBookObject kept).2.2.1 (hz (R.length - kept.length))
    have g10 : List.take kept.length (kept.map (VO.c .own) ++ List.replicate (R.length - kept.length) [C.p (.string ⟨#[]⟩),C.p (.string ⟨#[]⟩),C.p (.int .i64 0),C.p (.int .i64 0),C.p (.string ⟨#[]⟩),C.p (.bool false),C.sl .own 1 []]) = kept.map (VO.c .own) :=List.take_left' (by simp)
    have g11 : kept.length ≤ (kept.map (VO.c .own) ++ List.replicate (R.length - kept.length) [C.p (.string ⟨#[]⟩),C.p (.string ⟨#[]⟩),C.p (.int .i64 0),C.p (.int .i64 0),C.p (.string ⟨#[]⟩),C.p (.bool false),C.sl .own 1 []]).length :=by simp
    simp only [rA,↓reduceIte,reduceCtorEq,N1,N2,N3,N4,N5,N6,N7,I1,I2,I3,I4,L1,e114,rowsBookObject,g2,g3,g4,g5,g6,g7,g8,g9,g10,g11,List.append_nil,Nat.sub_zero,Nat.zero_add,List.drop_zero]
  · intro k x r a hd hk hI
    rw [List.getElem?_drop] at hk
    obtain ⟨R,n⟩ :=a
    obtain ⟨g1,g2,g3,⟨q,g4,g5⟩,g6⟩ :=invD_facts hI hk
    obtain ⟨qo,qs⟩ :=q
    simp only at g1 g2 g3 g4 g5
    have hkl :=(List.getElem?_eq_some_iff.1 hk).1
    have hlt : ((i0 + 1 + k : Nat) : Int) < ((R.length : Nat) : Int) :=by omega
    have hltn : i0 + 1 + k < R.length :=by omega
    have hltm : n < R.length :=by omega
    have hk0 : (0 : Int) ≤ ((i0 + 1 + k : Nat) : Int) :=by omega
    have hn0 : (0 : Int) ≤ (n : Int) :=by omega
    have hw2 : IntKind.i64.wrap (((i0 + 1 + k : Nat) : Int) + 1) = ((i0 + 1 + (k + 1) : Nat) : Int) :=by rw [wrap64 (by omega) (by omega)]; omega
    have hw3 : IntKind.i64.wrap ((n : Int) + 1) = ((n + 1 : Nat) : Int) :=by rw [wrap64 (by omega) (by omega)]; omega
    have hpx :=hp x
    left
    refine ⟨stepD p (i0 + 1 + k) (R,n) x,?_,g6,rfl⟩
    unfold stepD
    simp only [VO.c,jr] at g2 g4 hpx ⊢
    cases dp : p x
    · rw [dp] at hpx
      simp only [rA,↓reduceIte,reduceCtorEq,N1,N2,N3,N4,N5,N6,N7,I1,I2,I3,I4,L1,e114,hlt,hltn,hltm,hk0,hn0,hw2,hw3,g2,g4,g5,hpx,hm,rowsString,List.length_set]
    · rw [dp] at hpx
      simp only [rA,↓reduceIte,reduceCtorEq,N1,N2,N3,N4,N5,N6,N7,I1,I2,I3,I4,L1,e114,hlt,hltn,hltm,hk0,hn0,hw2,hw3,g2,g4,g5,hpx,hm,rowsString,List.length_set]
  · intro a hI
    obtain ⟨R,n⟩ :=a
    obtain ⟨kept,junk,e1,e2,e3,e4,e5,e6⟩ :=hI
    have hll : i0 + 1 + (l.drop (i0 + 1)).length = l.length :=by rw [List.length_drop]; omega
    have hRl : R.length = l.length :=by
      simp only at e1
      rw [e1]
      simp
      omega
    have hn : ¬ (((i0 + 1 + (l.drop (i0 + 1)).length : Nat) : Int) < ((R.length : Nat) : Int)) :=by omega
    simp only [rA,↓reduceIte,reduceCtorEq,N1,N2,N3,N4,N5,N6,N7,I1,I2,I3,I4,L1,e114,hn,runD]
end Go.Proofs.YtfpconipgllkkaaGreat

