/- FnExactBookAll: the two sides and the law. -/
import Derived.Test.YtfpconipgllkkaaGreatE9
namespace Go.Proofs.YtfpconipgllkkaaGreat
open Go.Sx
open Nat renaming reduceEqDiff → N1,reduceAdd → N2,reduceSub → N3,reduceMul → N4,reduceLeDiff → N5,reduceBEq → N6,reduceLT → N7
open Int renaming reduceLT → I1,reduceNeg → I2,reduceLE → I3,reduceEq → I4
open List renaming reduceReplicate → L1
set_option maxRecDepth 100000
set_option maxHeartbeats 64000000
set_option linter.unusedVariables false
set_option linter.unusedSimpArgs false
def didA (b:VBook) (x:VU):VBookDid :=if implB b = true then ⟨(allS b x).1,(allS b x).2.2,if (allS b x).1 = 0 then (allS b x).2.2.now else 0⟩ else ⟨1,zB,0⟩
def idxA (b:VBook) (x:VU):Int :=if implB b = true then ((allS b x).2.1:Nat) else 0
theorem runW_w:∀ (r:List VW) (i:Nat) (y:VBook),GoodB i y → i + r.length ≤ 10 → r.all wrB = true → (runW r i y).2.2.w ≤ 1300000
 | [],i,y,h,hi,_ =>by
  have :=h.w
  simp only [runW,List.length_nil] at *
  omega
 | w :: r,i,y,h,hi,hw =>by
  simp only [List.all_cons,Bool.and_eq_true] at hw
  simp only [List.length_cons] at hi
  unfold runW
  by_cases hc:stepC y w = 0
  ·rw [if_pos hc]
   exact runW_w r (i + 1) (stepB y w) (good_step h (by omega) hw.1 hc) (by omega) hw.2
  ·rw [if_neg hc]
   have :=h.w
   simp only
   omega
theorem allS_w {b:VBook} {x:VU} (hb:GoodB 0 b):(allS b x).2.2.w ≤ 1300000 :=by
 have h0 :=hb.w
 unfold allS
 by_cases hB:bunB x = true
 ·rw [if_pos hB]
  simp only [bunB,Bool.and_eq_true,decide_eq_true_eq] at hB
  unfold allR
  cases wantF b x.wants 0 with
  | some j =>simp only; omega
  | none =>
   have h1 :=runW_w x.writes 0 b hb (by omega) hB.2.2.2
   simp only
   split
   ·exact h1
   ·simp only; omega
 ·rw [if_neg hB]
  simp only
  omega
theorem k7 (b:VBook) (x:VU) (hw:b.w + x.w ≤ 1048576):EV Tryz.prog E 7 [.val 0 true (b.c .shr),.val 0 true (VU.c .shr x)] = some ⟨[(true,VBookDid.c .own (didA b x)),(false,[.p (.int .i64 (idxA b x))])],[]⟩ :=by
 refine EV_intro Tryz.func7 rfl ?_
 have hv :=kS b (by omega)
 cases hi:implB b
 ·rw [hi] at hv
  have e:didA b x = ⟨1,zB,0⟩ :=by simp [didA,hi]
  have e2:idxA b x = 0 :=by simp [idxA,hi]
  rw [e,e2]
  simp only [VBook.c] at hv
  simp only [rA,↓reduceIte,reduceCtorEq,N1,N2,N3,N4,N5,N6,N7,I1,I2,I3,I4,L1,e7,e27,Tryz.f7,VBook.c,VU.c,VBookDid.c,zB,hv,List.map_nil]
 rw [hi] at hv
 have hg :=good_valid hi (by omega)
 have hx1:x.wants.length ≤ 4194304 :=by simp only [VU.w,wSBookWant] at hw; omega
 have hx2:x.writes.length ≤ 4194304 :=by simp only [VU.w,wSBookWrite] at hw; omega
 have h28 :=k28 b x hg hx1 hx2
 obtain ⟨hro,hro2⟩ :=retS_ok (x :=x) hg
 have h29 :=k29 (allS b x).2.2 (by have :=allS_w (x :=x) hg; omega)
 have e:didA b x = ⟨(allS b x).1,(allS b x).2.2,if (allS b x).1 = 0 then (allS b x).2.2.now else 0⟩ :=by simp [didA,hi]
 have e2:idxA b x = ((allS b x).2.1:Nat) :=by simp [idxA,hi]
 rw [e,e2]
 unfold R28 at h28
 have hb1 :=hro.bor
 have hb2 :=hro.whole
 generalize (if (allS b x).1 = 0 then (allS b x).2.2.now else 0) = v at *
 generalize allS b x = t at *
 generalize retS b x = u at *
 obtain ⟨n,j,y⟩ :=t
 obtain ⟨fl,hr⟩ :=u
 simp only [VBook.c,VBook.m,VU.c] at hv h28 h29
 simp only at hro2 hb1 hb2
 rcases hro2 with ⟨rfl,rfl⟩ | rfl
 ·simp only [rA,↓reduceIte,reduceCtorEq,N1,N2,N3,N4,N5,N6,N7,I1,I2,I3,I4,L1,e7,e27,e28,e29,Tryz.f7,VBook.c,VU.c,VBookDid.c,hv,h28,h29,List.cons_append,List.nil_append,rowsBookObject,rowsBookChange,rowsBookTicket,rowsShr,rowsShrC,rowsString]
 ·simp only [rA,↓reduceIte,reduceCtorEq,N1,N2,N3,N4,N5,N6,N7,I1,I2,I3,I4,L1,e7,e27,e28,e29,Tryz.f7,VBook.c,VU.c,VBookDid.c,hv,h28,h29,hb1,hb2,List.cons_append,List.nil_append,rowsBookObject,rowsBookChange,rowsBookTicket,rowsShr,rowsShrC,rowsString]
theorem k10 (b:VBook) (x:VU) (hw:b.w + x.w ≤ 1048576):EV Tryz.prog E 10 [.val 0 true (b.c .shr),.val 0 true (VU.c .shr x)] = some ⟨[(true,VBookDid.c .own (didA b x)),(false,[.p (.int .i64 (idxA b x))])],[]⟩ :=by
 refine EV_intro Tryz.func10 rfl ?_
 have hv :=k35 b (by omega)
 cases hi:implB b
 ·rw [hi] at hv
  have e:didA b x = ⟨1,zB,0⟩ :=by simp [didA,hi]
  have e2:idxA b x = 0 :=by simp [idxA,hi]
  rw [e,e2]
  simp only [VBook.c] at hv
  simp only [rA,↓reduceIte,reduceCtorEq,N1,N2,N3,N4,N5,N6,N7,I1,I2,I3,I4,L1,e10,e35,Tryz.f10,VBook.c,VU.c,VBookDid.c,zB,hv,List.map_nil]
 rw [hi] at hv
 have hg :=good_valid hi (by omega)
 have hx1:x.wants.length ≤ 4194304 :=by simp only [VU.w,wSBookWant] at hw; omega
 have hx2:x.writes.length ≤ 4194304 :=by simp only [VU.w,wSBookWrite] at hw; omega
 have h36 :=k36 x hx1 hx2
 have h37 :=k37 b (by omega)
 have e:didA b x = ⟨(allS b x).1,(allS b x).2.2,if (allS b x).1 = 0 then (allS b x).2.2.now else 0⟩ :=by simp [didA,hi]
 have e2:idxA b x = ((allS b x).2.1:Nat) :=by simp [idxA,hi]
 rw [e,e2]
 have hyw :=allS_w (x :=x) hg
 cases hB:bunB x
 ·rw [hB] at h36
  have es:allS b x = (2,0,b) :=by simp [allS,hB]
  rw [es]
  simp only [VBook.c,VU.c] at hv h36 h37
  simp only [rA,↓reduceIte,reduceCtorEq,N1,N2,N3,N4,N5,N6,N7,I1,I2,I3,I4,L1,e10,e35,e36,e37,Tryz.f10,VBook.c,VU.c,VBookDid.c,hv,h36,h37,c0n,rowsBookObject,rowsBookChange,rowsBookTicket,rowsShr,rowsShrC,rowsString]
 ·rw [hB] at h36
  have hB2 :=hB
  simp only [bunB,Bool.and_eq_true,decide_eq_true_eq] at hB2
  have h38 :=k38 b x hg (by omega) (by omega) hB2.2.2.2
  have es:allS b x = allR b x :=by simp [allS,hB]
  rw [es] at hyw ⊢
  generalize allR b x = t at *
  obtain ⟨n,j,y⟩ :=t
  have h37y :=k37 y (by simp only at hyw; omega)
  simp only [VBook.c,VU.c] at hv h36 h38 h37y
  by_cases h0:n = 0
  ·subst h0
   simp only [flD] at h38
   simp only [rA,↓reduceIte,reduceCtorEq,N1,N2,N3,N4,N5,N6,N7,I1,I2,I3,I4,L1,e10,e35,e36,e37,e38,Tryz.f10,VBook.c,VU.c,VBookDid.c,hv,h36,h38,h37y,rowsBookObject,rowsBookChange,rowsBookTicket,rowsShr,rowsShrC,rowsString]
  ·simp only [flD,h0] at h38
   simp only [rA,↓reduceIte,reduceCtorEq,N1,N2,N3,N4,N5,N6,N7,I1,I2,I3,I4,L1,e10,e35,e36,e37,e38,Tryz.f10,VBook.c,VU.c,VBookDid.c,hv,h36,h38,h37y,h0,rowsBookObject,rowsBookChange,rowsBookTicket,rowsShr,rowsShrC,rowsString]
theorem didA_w (b:VBook) (x:VU) (hw:b.w ≤ 1048576):(didA b x).w ≤ 1300000 :=by
 unfold didA VBookDid.w
 cases hi:implB b
 ·simp [zB,VBook.w,wSBookObject,wSBookChange,wSBookTicket,sumWBookObject,sumWBookChange,sumWBookTicket]
 ·exact allS_w (good_valid hi hw)
theorem k3 (b:VBook) (x:VU) (hx:b.ok) (hy:x.ok):EV Tryz.prog E 3 [.val 0 true (b.c .shr),.val 0 true (VU.c .shr x)] = some ⟨[(false,[.p (.bool true)])],[]⟩ :=by
 refine EV_intro Tryz.func3 rfl ?_
 have hz :=k_szBook b 1048576 hx (by omega) (by omega)
 simp only [VBook.c] at hz
 by_cases hc:(1048576:Int) < b.w
 ·rw [subW_lt hc] at hz
  simp only [rA,↓reduceIte,reduceCtorEq,N1,N2,N3,N4,N5,N6,N7,I1,I2,I3,I4,L1,e3,e5,Tryz.f3,VBook.c,VU.c,hz]
 rw [subW_ge hc] at hz
 have hnn:¬ ((1048576:Int) - b.w < 0) :=by omega
 have hw:b.w ≤ 4194304 :=by omega
 have hz2 :=k_szBookBundle x (1048576 - b.w) hy (by omega) (by omega)
 simp only [VU.c] at hz2
 by_cases hd:((1048576:Int) - b.w) < x.w
 ·rw [subW_lt hd] at hz2
  simp only [rA,↓reduceIte,reduceCtorEq,N1,N2,N3,N4,N5,N6,N7,I1,I2,I3,I4,L1,e3,e5,e6,Tryz.f3,VBook.c,VU.c,hz,hnn,hz2]
 rw [subW_ge hd] at hz2
 have hnn2:¬ ((1048576:Int) - b.w - x.w < 0) :=by omega
 have hnx:x.w ≤ 4194304 :=by omega
 have hob :=oc_leBook b
 have hox :=oc_leBookBundle x
 have hyw :=didA_w b x (by omega)
 have htb :=k_toBook b hw
 have htx :=k_toBookBundle x hnx
 have h1 :=k7 b x (by omega)
 have h2 :=k10 b x (by omega)
 have heb :=k_eqBook b hw
 have hex :=k_eqBookBundle x hnx
 generalize didA b x = y at *
 generalize idxA b x = ix at *
 have hoy :=oc_leBookDid y
 have hey :=k_eqBookDid y (by omega)
 have hmb :=k_markBook b 1 (by omega) (by omega)
 have hmx :=k_markBookBundle x (1 + (ocBook b:Nat)) (by omega) (by omega)
 have hmy :=k_markBookDid y 1 (by omega) (by omega)
 have hh :=k_heldBookDid y 1 (by omega) (by omega)
 have hn:¬ (1 + (ocBook b:Int) + (ocBookBundle x:Int) < 0) :=by omega
 have hny:¬ (1 + (ocBookDid y:Int) < 0) :=by omega
 simp only [VBook.c,VU.c,VBookDid.c,moBookDid,moBook,moBookBundle] at h1 h2 heb hex hey hmb hmx hmy hh htb htx
 simp only [n3_8,n3_31,addF_same,rA,↓reduceIte,reduceCtorEq,N1,N2,N3,N4,N5,N6,N7,I1,I2,I3,I4,L1,e3,e5,e6,e7,e8,e9,e10,e11,e12,e13,e14,e15,e16,e17,Tryz.f3,VBook.c,VU.c,VBookDid.c,hz,hnn,hz2,hnn2,h1,h2,heb,hex,hey,hmb,hmx,hmy,hh,htb,htx,hn,hny,beq_self_eq_true,rowsBookObject,rowsBookChange,rowsBookTicket,rowsBookWant,rowsBookWrite,rowsShr,rowsString]
end Go.Proofs.YtfpconipgllkkaaGreat

