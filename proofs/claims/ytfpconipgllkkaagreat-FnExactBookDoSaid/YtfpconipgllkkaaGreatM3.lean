/- Marks on books (written by a program). -/
import Derived.Test.YtfpconipgllkkaaGreatF3
namespace Go.Proofs.YtfpconipgllkkaaGreat
open Go.Sx
open Nat renaming reduceEqDiff → N1,reduceAdd → N2,reduceSub → N3,reduceMul → N4,reduceLeDiff → N5,reduceBEq → N6,reduceLT → N7
open Int renaming reduceLT → I1,reduceNeg → I2,reduceLE → I3,reduceEq → I4
open List renaming reduceReplicate → L1
set_option maxRecDepth 100000
set_option maxHeartbeats 4000000
set_option linter.unusedVariables false
set_option linter.unusedSimpArgs false
def mkString (_ : ByteArray) (k : Int) : ByteArray :=mtx k
def mcString (_ : ByteArray) : Nat :=1
def mkBookObject (x : VO) (k : Int) : VO :=⟨mtx (k),mtx (k + 1),k + 1 + 1,k + 1 + 1 + 1,mtx (k + 1 + 1 + 1 + 1),decide ((k + 1 + 1 + 1 + 1 + 1).tmod 3 = 0),mkL mkString mcString x.holds (k + 1 + 1 + 1 + 1 + 1 + 1)⟩
def mcBookObject (x : VO) : Nat :=1 + 1 + 1 + 1 + 1 + 1 + mcL mcString x.holds
def mkBookChange (x : VC) (k : Int) : VC :=⟨k,decide ((k + 1).tmod 3 = 0),⟨mtx (k + 1 + 1),mtx (k + 1 + 1 + 1),k + 1 + 1 + 1 + 1,k + 1 + 1 + 1 + 1 + 1,mtx (k + 1 + 1 + 1 + 1 + 1 + 1),decide ((k + 1 + 1 + 1 + 1 + 1 + 1 + 1).tmod 3 = 0),mkL mkString mcString x.object.holds (k + 1 + 1 + 1 + 1 + 1 + 1 + 1 + 1)⟩⟩
def mcBookChange (x : VC) : Nat :=1 + 1 + 1 + 1 + 1 + 1 + 1 + 1 + mcL mcString x.object.holds
def mkBookTicket (x : VT) (k : Int) : VT :=⟨mtx (k),k + 1,mtx (k + 1 + 1),k + 1 + 1 + 1,k + 1 + 1 + 1 + 1⟩
def mcBookTicket (x : VT) : Nat :=1 + 1 + 1 + 1 + 1
def moBook (x : VBook) (k : Int) : VBook :=⟨x.now,x.floor,mkL mkBookObject mcBookObject x.objects (k),mkL mkBookChange mcBookChange x.history (k + (mcL mcBookObject x.objects : Nat)),mkL mkBookTicket mcBookTicket x.tickets (k + (mcL mcBookObject x.objects : Nat) + (mcL mcBookChange x.history : Nat))⟩
def ocBook (x : VBook) : Nat :=mcL mcBookObject x.objects + mcL mcBookChange x.history + mcL mcBookTicket x.tickets
theorem k_markText (k : Int) (h0 : 0 ≤ k) (hb : k ≤ 4611686018427387904) : EV Tryz.prog E 83 [.val 0 false [.p (.int .i64 k)]] = some ⟨[(false,[.p (.string (mtx k))])],[]⟩ :=by
  refine EV_intro Tryz.func83 rfl ?_
  by_cases hk : k ≤ 0
  · simp only [rA,↓reduceIte,reduceCtorEq,N1,N2,N3,N4,N5,N6,N7,I1,I2,I3,I4,L1,e83,Tryz.f83,hk,mtx]
  · have h1 : (⟨#[109]⟩ : ByteArray).size + (dgs k.toNat ⟨#[]⟩).size < 9223372036854775807 :=by
      have :=dgs_size k.toNat ⟨#[]⟩
      have e1 : (⟨#[109]⟩ : ByteArray).size = 1 :=rfl
      have e2 : (⟨#[]⟩ : ByteArray).size = 0 :=rfl
      omega
    have ek : k = (k.toNat : Int) :=by omega
    simp only [rA,↓reduceIte,reduceCtorEq,N1,N2,N3,N4,N5,N6,N7,I1,I2,I3,I4,L1,e83,Tryz.f83,hk,mtx]
    rw [while_block (fun (p : Nat × ByteArray) =>⟨2,[(0,.val 0 false [.p (.int .i64 p.1)]),(3,.val 1 false [.p (.string p.2)])]⟩) (fun p =>p.1 ≤ 4611686018427387904 ∧ p.2.size + p.1 ≤ 4611686018427388004)
      (fun p =>.norm ⟨1,[(3,.val 0 false [.p (.string (dgs p.1 p.2))])]⟩) (fun p =>p.1) ?_ (i :=(k.toNat,⟨#[]⟩)) ⟨by simp only; omega,by
        have e2 : (⟨#[]⟩ : ByteArray).size = 0 :=rfl
        simp only [e2]; omega⟩ (by simp only [rA,↓reduceIte,reduceCtorEq,N1,N2,N3,N4,N5,N6,N7,I1,I2,I3,I4,L1,e83]; rw [← ek])]
    · simp only [rA,↓reduceIte,reduceCtorEq,N1,N2,N3,N4,N5,N6,N7,I1,I2,I3,I4,L1,e83,h1]
    · rintro ⟨n,s⟩ ⟨h1,h2⟩
      simp only at h1 h2
      by_cases hn : 0 < (n : Int)
      · left
        have e2 : (dgt n).size = 1 :=rfl
        have e3 : (dgt n).size + s.size < 9223372036854775807 :=by omega
        have e4 :=wrap64 (n :=((n / 10 : Nat) : Int)) (by omega) (by omega)
        refine ⟨(n / 10,dgt n ++ s),?_,⟨by simp only; omega,by simp only [ByteArray.size_append]; omega⟩,by simp only; omega,by simp only [dgs_pos (show n ≠ 0 by omega)]⟩
        unfold dgt at e3 ⊢
        simp only [rA,↓reduceIte,reduceCtorEq,N1,N2,N3,N4,N5,N6,N7,I1,I2,I3,I4,L1,e83,hn,tmod10,tdiv10,e3,e4]
      · right
        have : n = 0 :=by omega
        subst this
        simp only [rA,↓reduceIte,reduceCtorEq,N1,N2,N3,N4,N5,N6,N7,I1,I2,I3,I4,L1,e83,hn,dgs_zero]
theorem k_markStringS (l : List ByteArray) (k : Int) (h0 : 0 ≤ k) (hb : k + (mcL mcString l : Nat) ≤ 4611686018427387904) : EV Tryz.prog E 84 [.val 0 false [.sl .own 1 (l.map strC)],.val 0 false [.p (.int .i64 k)]] = some ⟨[(false,[.p (.int .i64 (k + (mcL mcString l : Nat)))])],[[.sl .own 1 ((mkL mkString mcString l k).map strC)]]⟩ :=by
  have hlc :=len_mcL mcString (fun x =>by unfold mcString; omega) l
  refine EV_intro Tryz.func84 rfl ?_
  simp only [rA,↓reduceIte,reduceCtorEq,N1,N2,N3,N4,N5,N6,N7,I1,I2,I3,I4,L1,e84,Tryz.f84]
  rw [for_block l (fun i (a : Int) =>⟨3,[(0,.val 0 false [.sl .own 1 ((mkTo mkString mcString i l k).map strC)]),(1,.val 1 false [.p (.int .i64 a)]),(5,.val 2 false [.p (.int .i64 i)])]⟩) (fun i a =>a = kAt mcString l k i)
      (fun r i a =>.norm ⟨2,[(0,.val 0 false [.sl .own 1 ((mkL mkString mcString l k).map strC)]),(1,.val 1 false [.p (.int .i64 (k + (mcL mcString l : Nat)))])]⟩) ?_ ?_ (a :=k) (kAt_zero mcString l k).symm (by simp only [rA,↓reduceIte,reduceCtorEq,N1,N2,N3,N4,N5,N6,N7,I1,I2,I3,I4,L1,e84,mkTo_zero]; rfl)]
  · simp only [rA,↓reduceIte,reduceCtorEq,N1,N2,N3,N4,N5,N6,N7,I1,I2,I3,I4,L1,e84]
  · rintro i s r a hd hi rfl
    have hlen :=(List.getElem?_eq_some_iff.1 hi).1
    have hlt : ((i : Int) < (l.length : Int)) :=by omega
    have hsu :=kAt_succ mcString hi k
    have hge :=kAt_ge mcString l k i
    have hle :=kAt_le mcString hi k
    have hwi :=wrap64 (n :=(i : Int) + 1) (by omega) (by omega)
    have hi0 : (0 : Int) ≤ (i : Int) :=by omega
    have hr :=getElem?_map_some (f :=strC) (mkTo_get mkString mcString hi k)
    have hst :=mkTo_set mkString mcString hi k
    have hlm :=mkTo_length mkString mcString i l k
    have hgs : ∀ z : List C,(((mkTo mkString mcString i l k).map strC).set i z)[i]? = some z :=fun z =>List.getElem?_set_self (by rw [List.length_map,hlm]; exact hlen)
    generalize kAt mcString l k i = a at *
    simp only [mcString] at hsu hle
    simp only [strC,mkString] at hr
    have hm0 :=k_markText (a) (by omega) (by omega)
    have hw0 :=wrap64 (n :=a + 1) (by omega) (by omega)
    left
    refine ⟨a + 1,?_,by rw [hsu]; omega,rfl⟩
    rw [← hst]
    simp only [rA,↓reduceIte,reduceCtorEq,N1,N2,N3,N4,N5,N6,N7,I1,I2,I3,I4,L1,e84,e83,hlt,hr,hwi,hi0,hlm,hlen,i64c,List.map_set,List.set_set,List.length_set,hgs,strC,mkString,hm0,hw0]
  · rintro a rfl
    simp only [rA,↓reduceIte,reduceCtorEq,N1,N2,N3,N4,N5,N6,N7,I1,I2,I3,I4,L1,e84,kAt_all,mkTo_all,mkL_length]
theorem k_markBookObjectS (l : List VO) (k : Int) (h0 : 0 ≤ k) (hb : k + (mcL mcBookObject l : Nat) ≤ 4611686018427387904) : EV Tryz.prog E 44 [.val 0 false [.sl .own 7 (l.map (VO.c .own))],.val 0 false [.p (.int .i64 k)]] = some ⟨[(false,[.p (.int .i64 (k + (mcL mcBookObject l : Nat)))])],[[.sl .own 7 ((mkL mkBookObject mcBookObject l k).map (VO.c .own))]]⟩ :=by
  have hlc :=len_mcL mcBookObject (fun x =>by unfold mcBookObject; omega) l
  refine EV_intro Tryz.func44 rfl ?_
  simp only [rA,↓reduceIte,reduceCtorEq,N1,N2,N3,N4,N5,N6,N7,I1,I2,I3,I4,L1,e44,Tryz.f44]
  rw [for_block l (fun i (a : Int) =>⟨3,[(0,.val 0 false [.sl .own 7 ((mkTo mkBookObject mcBookObject i l k).map (VO.c .own))]),(1,.val 1 false [.p (.int .i64 a)]),(5,.val 2 false [.p (.int .i64 i)])]⟩) (fun i a =>a = kAt mcBookObject l k i)
      (fun r i a =>.norm ⟨2,[(0,.val 0 false [.sl .own 7 ((mkL mkBookObject mcBookObject l k).map (VO.c .own))]),(1,.val 1 false [.p (.int .i64 (k + (mcL mcBookObject l : Nat)))])]⟩) ?_ ?_ (a :=k) (kAt_zero mcBookObject l k).symm (by simp only [rA,↓reduceIte,reduceCtorEq,N1,N2,N3,N4,N5,N6,N7,I1,I2,I3,I4,L1,e44,mkTo_zero]; rfl)]
  · simp only [rA,↓reduceIte,reduceCtorEq,N1,N2,N3,N4,N5,N6,N7,I1,I2,I3,I4,L1,e44]
  · rintro i s r a hd hi rfl
    have hlen :=(List.getElem?_eq_some_iff.1 hi).1
    have hlt : ((i : Int) < (l.length : Int)) :=by omega
    have hsu :=kAt_succ mcBookObject hi k
    have hge :=kAt_ge mcBookObject l k i
    have hle :=kAt_le mcBookObject hi k
    have hwi :=wrap64 (n :=(i : Int) + 1) (by omega) (by omega)
    have hi0 : (0 : Int) ≤ (i : Int) :=by omega
    have hr :=getElem?_map_some (f :=(VO.c .own)) (mkTo_get mkBookObject mcBookObject hi k)
    have hst :=mkTo_set mkBookObject mcBookObject hi k
    have hlm :=mkTo_length mkBookObject mcBookObject i l k
    have hgs : ∀ z : List C,(((mkTo mkBookObject mcBookObject i l k).map (VO.c .own)).set i z)[i]? = some z :=fun z =>List.getElem?_set_self (by rw [List.length_map,hlm]; exact hlen)
    generalize kAt mcBookObject l k i = a at *
    simp only [mcBookObject] at hsu hle
    simp only [VO.c,mkBookObject] at hr
    have hm0 :=k_markText (a) (by omega) (by omega)
    have hw0 :=wrap64 (n :=a + 1) (by omega) (by omega)
    have hm1 :=k_markText (a + 1) (by omega) (by omega)
    have hw1 :=wrap64 (n :=a + 1 + 1) (by omega) (by omega)
    have hw2 :=wrap64 (n :=a + 1 + 1 + 1) (by omega) (by omega)
    have hw3 :=wrap64 (n :=a + 1 + 1 + 1 + 1) (by omega) (by omega)
    have hm4 :=k_markText (a + 1 + 1 + 1 + 1) (by omega) (by omega)
    have hw4 :=wrap64 (n :=a + 1 + 1 + 1 + 1 + 1) (by omega) (by omega)
    have hw5 :=wrap64 (n :=a + 1 + 1 + 1 + 1 + 1 + 1) (by omega) (by omega)
    have hm6 :=k_markStringS s.holds (a + 1 + 1 + 1 + 1 + 1 + 1) (by omega) (by omega)
    left
    refine ⟨a + 1 + 1 + 1 + 1 + 1 + 1 + (mcL mcString s.holds : Nat),?_,by rw [hsu]; omega,rfl⟩
    rw [← hst]
    simp only [rA,↓reduceIte,reduceCtorEq,N1,N2,N3,N4,N5,N6,N7,I1,I2,I3,I4,L1,e44,e83,e84,hlt,hr,hwi,hi0,hlm,hlen,i64c,List.map_set,List.set_set,List.length_set,hgs,VO.c,mkBookObject,hm0,hw0,hm1,hw1,hw2,hw3,hm4,hw4,hw5,hm6,rowsString]
  · rintro a rfl
    simp only [rA,↓reduceIte,reduceCtorEq,N1,N2,N3,N4,N5,N6,N7,I1,I2,I3,I4,L1,e44,kAt_all,mkTo_all,mkL_length]
theorem k_markBookChangeS (l : List VC) (k : Int) (h0 : 0 ≤ k) (hb : k + (mcL mcBookChange l : Nat) ≤ 4611686018427387904) : EV Tryz.prog E 45 [.val 0 false [.sl .own 9 (l.map (VC.c .own))],.val 0 false [.p (.int .i64 k)]] = some ⟨[(false,[.p (.int .i64 (k + (mcL mcBookChange l : Nat)))])],[[.sl .own 9 ((mkL mkBookChange mcBookChange l k).map (VC.c .own))]]⟩ :=by
  have hlc :=len_mcL mcBookChange (fun x =>by unfold mcBookChange; omega) l
  refine EV_intro Tryz.func45 rfl ?_
  simp only [rA,↓reduceIte,reduceCtorEq,N1,N2,N3,N4,N5,N6,N7,I1,I2,I3,I4,L1,e45,Tryz.f45]
  rw [for_block l (fun i (a : Int) =>⟨3,[(0,.val 0 false [.sl .own 9 ((mkTo mkBookChange mcBookChange i l k).map (VC.c .own))]),(1,.val 1 false [.p (.int .i64 a)]),(5,.val 2 false [.p (.int .i64 i)])]⟩) (fun i a =>a = kAt mcBookChange l k i)
      (fun r i a =>.norm ⟨2,[(0,.val 0 false [.sl .own 9 ((mkL mkBookChange mcBookChange l k).map (VC.c .own))]),(1,.val 1 false [.p (.int .i64 (k + (mcL mcBookChange l : Nat)))])]⟩) ?_ ?_ (a :=k) (kAt_zero mcBookChange l k).symm (by simp only [rA,↓reduceIte,reduceCtorEq,N1,N2,N3,N4,N5,N6,N7,I1,I2,I3,I4,L1,e45,mkTo_zero]; rfl)]
  · simp only [rA,↓reduceIte,reduceCtorEq,N1,N2,N3,N4,N5,N6,N7,I1,I2,I3,I4,L1,e45]
  · rintro i s r a hd hi rfl
    have hlen :=(List.getElem?_eq_some_iff.1 hi).1
    have hlt : ((i : Int) < (l.length : Int)) :=by omega
    have hsu :=kAt_succ mcBookChange hi k
    have hge :=kAt_ge mcBookChange l k i
    have hle :=kAt_le mcBookChange hi k
    have hwi :=wrap64 (n :=(i : Int) + 1) (by omega) (by omega)
    have hi0 : (0 : Int) ≤ (i : Int) :=by omega
    have hr :=getElem?_map_some (f :=(VC.c .own)) (mkTo_get mkBookChange mcBookChange hi k)
    have hst :=mkTo_set mkBookChange mcBookChange hi k
    have hlm :=mkTo_length mkBookChange mcBookChange i l k
    have hgs : ∀ z : List C,(((mkTo mkBookChange mcBookChange i l k).map (VC.c .own)).set i z)[i]? = some z :=fun z =>List.getElem?_set_self (by rw [List.length_map,hlm]; exact hlen)
    generalize kAt mcBookChange l k i = a at *
    simp only [mcBookChange] at hsu hle
    simp only [VC.c,mkBookChange] at hr
    have hw0 :=wrap64 (n :=a + 1) (by omega) (by omega)
    have hw1 :=wrap64 (n :=a + 1 + 1) (by omega) (by omega)
    have hm2 :=k_markText (a + 1 + 1) (by omega) (by omega)
    have hw2 :=wrap64 (n :=a + 1 + 1 + 1) (by omega) (by omega)
    have hm3 :=k_markText (a + 1 + 1 + 1) (by omega) (by omega)
    have hw3 :=wrap64 (n :=a + 1 + 1 + 1 + 1) (by omega) (by omega)
    have hw4 :=wrap64 (n :=a + 1 + 1 + 1 + 1 + 1) (by omega) (by omega)
    have hw5 :=wrap64 (n :=a + 1 + 1 + 1 + 1 + 1 + 1) (by omega) (by omega)
    have hm6 :=k_markText (a + 1 + 1 + 1 + 1 + 1 + 1) (by omega) (by omega)
    have hw6 :=wrap64 (n :=a + 1 + 1 + 1 + 1 + 1 + 1 + 1) (by omega) (by omega)
    have hw7 :=wrap64 (n :=a + 1 + 1 + 1 + 1 + 1 + 1 + 1 + 1) (by omega) (by omega)
    have hm8 :=k_markStringS s.object.holds (a + 1 + 1 + 1 + 1 + 1 + 1 + 1 + 1) (by omega) (by omega)
    left
    refine ⟨a + 1 + 1 + 1 + 1 + 1 + 1 + 1 + 1 + (mcL mcString s.object.holds : Nat),?_,by rw [hsu]; omega,rfl⟩
    rw [← hst]
    simp only [rA,↓reduceIte,reduceCtorEq,N1,N2,N3,N4,N5,N6,N7,I1,I2,I3,I4,L1,e45,e83,e84,hlt,hr,hwi,hi0,hlm,hlen,i64c,List.map_set,List.set_set,List.length_set,hgs,VC.c,mkBookChange,hw0,hw1,hm2,hw2,hm3,hw3,hw4,hw5,hm6,hw6,hw7,hm8,rowsString]
  · rintro a rfl
    simp only [rA,↓reduceIte,reduceCtorEq,N1,N2,N3,N4,N5,N6,N7,I1,I2,I3,I4,L1,e45,kAt_all,mkTo_all,mkL_length]
theorem k_markBookTicketS (l : List VT) (k : Int) (h0 : 0 ≤ k) (hb : k + (mcL mcBookTicket l : Nat) ≤ 4611686018427387904) : EV Tryz.prog E 46 [.val 0 false [.sl .own 5 (l.map VT.c)],.val 0 false [.p (.int .i64 k)]] = some ⟨[(false,[.p (.int .i64 (k + (mcL mcBookTicket l : Nat)))])],[[.sl .own 5 ((mkL mkBookTicket mcBookTicket l k).map VT.c)]]⟩ :=by
  have hlc :=len_mcL mcBookTicket (fun x =>by unfold mcBookTicket; omega) l
  refine EV_intro Tryz.func46 rfl ?_
  simp only [rA,↓reduceIte,reduceCtorEq,N1,N2,N3,N4,N5,N6,N7,I1,I2,I3,I4,L1,e46,Tryz.f46]
  rw [for_block l (fun i (a : Int) =>⟨3,[(0,.val 0 false [.sl .own 5 ((mkTo mkBookTicket mcBookTicket i l k).map VT.c)]),(1,.val 1 false [.p (.int .i64 a)]),(5,.val 2 false [.p (.int .i64 i)])]⟩) (fun i a =>a = kAt mcBookTicket l k i)
      (fun r i a =>.norm ⟨2,[(0,.val 0 false [.sl .own 5 ((mkL mkBookTicket mcBookTicket l k).map VT.c)]),(1,.val 1 false [.p (.int .i64 (k + (mcL mcBookTicket l : Nat)))])]⟩) ?_ ?_ (a :=k) (kAt_zero mcBookTicket l k).symm (by simp only [rA,↓reduceIte,reduceCtorEq,N1,N2,N3,N4,N5,N6,N7,I1,I2,I3,I4,L1,e46,mkTo_zero]; rfl)]
  · simp only [rA,↓reduceIte,reduceCtorEq,N1,N2,N3,N4,N5,N6,N7,I1,I2,I3,I4,L1,e46]
  · rintro i s r a hd hi rfl
    have hlen :=(List.getElem?_eq_some_iff.1 hi).1
    have hlt : ((i : Int) < (l.length : Int)) :=by omega
    have hsu :=kAt_succ mcBookTicket hi k
    have hge :=kAt_ge mcBookTicket l k i
    have hle :=kAt_le mcBookTicket hi k
    have hwi :=wrap64 (n :=(i : Int) + 1) (by omega) (by omega)
    have hi0 : (0 : Int) ≤ (i : Int) :=by omega
    have hr :=getElem?_map_some (f :=VT.c) (mkTo_get mkBookTicket mcBookTicket hi k)
    have hst :=mkTo_set mkBookTicket mcBookTicket hi k
    have hlm :=mkTo_length mkBookTicket mcBookTicket i l k
    have hgs : ∀ z : List C,(((mkTo mkBookTicket mcBookTicket i l k).map VT.c).set i z)[i]? = some z :=fun z =>List.getElem?_set_self (by rw [List.length_map,hlm]; exact hlen)
    generalize kAt mcBookTicket l k i = a at *
    simp only [mcBookTicket] at hsu hle
    simp only [VT.c,mkBookTicket] at hr
    have hm0 :=k_markText (a) (by omega) (by omega)
    have hw0 :=wrap64 (n :=a + 1) (by omega) (by omega)
    have hw1 :=wrap64 (n :=a + 1 + 1) (by omega) (by omega)
    have hm2 :=k_markText (a + 1 + 1) (by omega) (by omega)
    have hw2 :=wrap64 (n :=a + 1 + 1 + 1) (by omega) (by omega)
    have hw3 :=wrap64 (n :=a + 1 + 1 + 1 + 1) (by omega) (by omega)
    have hw4 :=wrap64 (n :=a + 1 + 1 + 1 + 1 + 1) (by omega) (by omega)
    left
    refine ⟨a + 1 + 1 + 1 + 1 + 1,?_,by rw [hsu]; omega,rfl⟩
    rw [← hst]
    simp only [rA,↓reduceIte,reduceCtorEq,N1,N2,N3,N4,N5,N6,N7,I1,I2,I3,I4,L1,e46,e83,hlt,hr,hwi,hi0,hlm,hlen,i64c,List.map_set,List.set_set,List.length_set,hgs,VT.c,mkBookTicket,hm0,hw0,hw1,hm2,hw2,hw3,hw4]
  · rintro a rfl
    simp only [rA,↓reduceIte,reduceCtorEq,N1,N2,N3,N4,N5,N6,N7,I1,I2,I3,I4,L1,e46,kAt_all,mkTo_all,mkL_length]
theorem k_markBook (x : VBook) (k : Int) (h0 : 0 ≤ k) (hb : k + (ocBook x : Nat) ≤ 4611686018427387904) : EV Tryz.prog E 14 [.val 0 true (VBook.c .own x),.val 0 false [.p (.int .i64 k)]] = some ⟨[(false,[.p (.int .i64 (k + (ocBook x : Nat)))])],[VBook.c .own (moBook x k)]⟩ :=by
  refine EV_intro Tryz.func14 rfl ?_
  unfold ocBook at hb ⊢
  have hm0 :=k_markBookObjectS x.objects (k) (by omega) (by omega)
  have hm1 :=k_markBookChangeS x.history (k + (mcL mcBookObject x.objects : Nat)) (by omega) (by omega)
  have hm2 :=k_markBookTicketS x.tickets (k + (mcL mcBookObject x.objects : Nat) + (mcL mcBookChange x.history : Nat)) (by omega) (by omega)
  have he : k + ((mcL mcBookObject x.objects + mcL mcBookChange x.history + mcL mcBookTicket x.tickets : Nat) : Int) = k + (mcL mcBookObject x.objects : Nat) + (mcL mcBookChange x.history : Nat) + (mcL mcBookTicket x.tickets : Nat) :=by omega
  rw [he]
  simp only [rA,↓reduceIte,reduceCtorEq,N1,N2,N3,N4,N5,N6,N7,I1,I2,I3,I4,L1,e14,e44,e45,e46,Tryz.f14,VBook.c,moBook,hm0,hm1,hm2,rowsBookObject,rowsBookChange,rowsBookTicket]
theorem k_heldStringS (l : List ByteArray) (k : Int) (h0 : 0 ≤ k) (hb : k + (mcL mcString l : Nat) ≤ 4611686018427387904) : EV Tryz.prog E 110 [.val 0 false [.sl .shr 1 ((mkL mkString mcString l k).map strC)],.val 0 false [.p (.int .i64 k)]] = some ⟨[(false,[.p (.int .i64 (k + (mcL mcString l : Nat)))])],[]⟩ :=by
  have hlc :=len_mcL mcString (fun x =>by unfold mcString; omega) l
  refine EV_intro Tryz.func110 rfl ?_
  simp only [rA,↓reduceIte,reduceCtorEq,N1,N2,N3,N4,N5,N6,N7,I1,I2,I3,I4,L1,e110,Tryz.f110]
  rw [for_block l (fun i (a : Int) =>⟨3,[(0,.val 0 false [.sl .shr 1 ((mkL mkString mcString l k).map strC)]),(1,.val 1 false [.p (.int .i64 a)]),(5,.val 2 false [.p (.int .i64 i)])]⟩) (fun i a =>a = kAt mcString l k i)
      (fun r i a =>.norm ⟨1,[(1,.val 0 false [.p (.int .i64 (k + (mcL mcString l : Nat)))])]⟩) ?_ ?_ (a :=k) (kAt_zero mcString l k).symm (by simp only [rA,↓reduceIte,reduceCtorEq,N1,N2,N3,N4,N5,N6,N7,I1,I2,I3,I4,L1,e110]; rfl)]
  · simp only [rA,↓reduceIte,reduceCtorEq,N1,N2,N3,N4,N5,N6,N7,I1,I2,I3,I4,L1,e110]
  · rintro i s r a hd hi rfl
    have hlen :=(List.getElem?_eq_some_iff.1 hi).1
    have hlt : ((i : Int) < (l.length : Int)) :=by omega
    have hsu :=kAt_succ mcString hi k
    have hge :=kAt_ge mcString l k i
    have hle :=kAt_le mcString hi k
    have hwi :=wrap64 (n :=(i : Int) + 1) (by omega) (by omega)
    have hi0 : (0 : Int) ≤ (i : Int) :=by omega
    have hr :=getElem?_map_some (f :=strC) (mkL_get mkString mcString hi k)
    have hlm :=mkL_length mkString mcString l k
    generalize kAt mcString l k i = a at *
    simp only [mcString] at hsu hle
    simp only [strC,mkString] at hr
    have hm0 :=k_markText (a) (by omega) (by omega)
    have hw0 :=wrap64 (n :=a + 1) (by omega) (by omega)
    left
    refine ⟨a + 1,?_,by rw [hsu]; omega,rfl⟩
    simp only [rA,↓reduceIte,reduceCtorEq,N1,N2,N3,N4,N5,N6,N7,I1,I2,I3,I4,L1,e110,e83,hlt,hr,hwi,hi0,hlm,hlen,i64c,hm0,hw0,beq_self_eq_true]
  · rintro a rfl
    simp only [rA,↓reduceIte,reduceCtorEq,N1,N2,N3,N4,N5,N6,N7,I1,I2,I3,I4,L1,e110,kAt_all,mkL_length]
theorem k_heldBookObjectS (l : List VO) (k : Int) (h0 : 0 ≤ k) (hb : k + (mcL mcBookObject l : Nat) ≤ 4611686018427387904) : EV Tryz.prog E 85 [.val 0 false [.sl .shr 7 ((mkL mkBookObject mcBookObject l k).map (VO.c .shr))],.val 0 false [.p (.int .i64 k)]] = some ⟨[(false,[.p (.int .i64 (k + (mcL mcBookObject l : Nat)))])],[]⟩ :=by
  have hlc :=len_mcL mcBookObject (fun x =>by unfold mcBookObject; omega) l
  refine EV_intro Tryz.func85 rfl ?_
  simp only [rA,↓reduceIte,reduceCtorEq,N1,N2,N3,N4,N5,N6,N7,I1,I2,I3,I4,L1,e85,Tryz.f85]
  rw [for_block l (fun i (a : Int) =>⟨3,[(0,.val 0 false [.sl .shr 7 ((mkL mkBookObject mcBookObject l k).map (VO.c .shr))]),(1,.val 1 false [.p (.int .i64 a)]),(5,.val 2 false [.p (.int .i64 i)])]⟩) (fun i a =>a = kAt mcBookObject l k i)
      (fun r i a =>.norm ⟨1,[(1,.val 0 false [.p (.int .i64 (k + (mcL mcBookObject l : Nat)))])]⟩) ?_ ?_ (a :=k) (kAt_zero mcBookObject l k).symm (by simp only [rA,↓reduceIte,reduceCtorEq,N1,N2,N3,N4,N5,N6,N7,I1,I2,I3,I4,L1,e85]; rfl)]
  · simp only [rA,↓reduceIte,reduceCtorEq,N1,N2,N3,N4,N5,N6,N7,I1,I2,I3,I4,L1,e85]
  · rintro i s r a hd hi rfl
    have hlen :=(List.getElem?_eq_some_iff.1 hi).1
    have hlt : ((i : Int) < (l.length : Int)) :=by omega
    have hsu :=kAt_succ mcBookObject hi k
    have hge :=kAt_ge mcBookObject l k i
    have hle :=kAt_le mcBookObject hi k
    have hwi :=wrap64 (n :=(i : Int) + 1) (by omega) (by omega)
    have hi0 : (0 : Int) ≤ (i : Int) :=by omega
    have hr :=getElem?_map_some (f :=(VO.c .shr)) (mkL_get mkBookObject mcBookObject hi k)
    have hlm :=mkL_length mkBookObject mcBookObject l k
    generalize kAt mcBookObject l k i = a at *
    simp only [mcBookObject] at hsu hle
    simp only [VO.c,mkBookObject] at hr
    have hm0 :=k_markText (a) (by omega) (by omega)
    have hw0 :=wrap64 (n :=a + 1) (by omega) (by omega)
    have hm1 :=k_markText (a + 1) (by omega) (by omega)
    have hw1 :=wrap64 (n :=a + 1 + 1) (by omega) (by omega)
    have hw2 :=wrap64 (n :=a + 1 + 1 + 1) (by omega) (by omega)
    have hw3 :=wrap64 (n :=a + 1 + 1 + 1 + 1) (by omega) (by omega)
    have hm4 :=k_markText (a + 1 + 1 + 1 + 1) (by omega) (by omega)
    have hw4 :=wrap64 (n :=a + 1 + 1 + 1 + 1 + 1) (by omega) (by omega)
    have hw5 :=wrap64 (n :=a + 1 + 1 + 1 + 1 + 1 + 1) (by omega) (by omega)
    have hm6 :=k_heldStringS s.holds (a + 1 + 1 + 1 + 1 + 1 + 1) (by omega) (by omega)
    have hn6 : ¬ (a + 1 + 1 + 1 + 1 + 1 + 1 + (mcL mcString s.holds : Nat) < 0) :=by omega
    left
    refine ⟨a + 1 + 1 + 1 + 1 + 1 + 1 + (mcL mcString s.holds : Nat),?_,by rw [hsu]; omega,rfl⟩
    simp only [rA,↓reduceIte,reduceCtorEq,N1,N2,N3,N4,N5,N6,N7,I1,I2,I3,I4,L1,e85,e83,e110,hlt,hr,hwi,hi0,hlm,hlen,i64c,hm0,hw0,hm1,hw1,hw2,hw3,hm4,hw4,hw5,hm6,hn6,rowsString,beq_self_eq_true]
  · rintro a rfl
    simp only [rA,↓reduceIte,reduceCtorEq,N1,N2,N3,N4,N5,N6,N7,I1,I2,I3,I4,L1,e85,kAt_all,mkL_length]
theorem k_heldBookChangeS (l : List VC) (k : Int) (h0 : 0 ≤ k) (hb : k + (mcL mcBookChange l : Nat) ≤ 4611686018427387904) : EV Tryz.prog E 86 [.val 0 false [.sl .shr 9 ((mkL mkBookChange mcBookChange l k).map (VC.c .shr))],.val 0 false [.p (.int .i64 k)]] = some ⟨[(false,[.p (.int .i64 (k + (mcL mcBookChange l : Nat)))])],[]⟩ :=by
  have hlc :=len_mcL mcBookChange (fun x =>by unfold mcBookChange; omega) l
  refine EV_intro Tryz.func86 rfl ?_
  simp only [rA,↓reduceIte,reduceCtorEq,N1,N2,N3,N4,N5,N6,N7,I1,I2,I3,I4,L1,e86,Tryz.f86]
  rw [for_block l (fun i (a : Int) =>⟨3,[(0,.val 0 false [.sl .shr 9 ((mkL mkBookChange mcBookChange l k).map (VC.c .shr))]),(1,.val 1 false [.p (.int .i64 a)]),(5,.val 2 false [.p (.int .i64 i)])]⟩) (fun i a =>a = kAt mcBookChange l k i)
      (fun r i a =>.norm ⟨1,[(1,.val 0 false [.p (.int .i64 (k + (mcL mcBookChange l : Nat)))])]⟩) ?_ ?_ (a :=k) (kAt_zero mcBookChange l k).symm (by simp only [rA,↓reduceIte,reduceCtorEq,N1,N2,N3,N4,N5,N6,N7,I1,I2,I3,I4,L1,e86]; rfl)]
  · simp only [rA,↓reduceIte,reduceCtorEq,N1,N2,N3,N4,N5,N6,N7,I1,I2,I3,I4,L1,e86]
  · rintro i s r a hd hi rfl
    have hlen :=(List.getElem?_eq_some_iff.1 hi).1
    have hlt : ((i : Int) < (l.length : Int)) :=by omega
    have hsu :=kAt_succ mcBookChange hi k
    have hge :=kAt_ge mcBookChange l k i
    have hle :=kAt_le mcBookChange hi k
    have hwi :=wrap64 (n :=(i : Int) + 1) (by omega) (by omega)
    have hi0 : (0 : Int) ≤ (i : Int) :=by omega
    have hr :=getElem?_map_some (f :=(VC.c .shr)) (mkL_get mkBookChange mcBookChange hi k)
    have hlm :=mkL_length mkBookChange mcBookChange l k
    generalize kAt mcBookChange l k i = a at *
    simp only [mcBookChange] at hsu hle
    simp only [VC.c,mkBookChange] at hr
    have hw0 :=wrap64 (n :=a + 1) (by omega) (by omega)
    have hw1 :=wrap64 (n :=a + 1 + 1) (by omega) (by omega)
    have hm2 :=k_markText (a + 1 + 1) (by omega) (by omega)
    have hw2 :=wrap64 (n :=a + 1 + 1 + 1) (by omega) (by omega)
    have hm3 :=k_markText (a + 1 + 1 + 1) (by omega) (by omega)
    have hw3 :=wrap64 (n :=a + 1 + 1 + 1 + 1) (by omega) (by omega)
    have hw4 :=wrap64 (n :=a + 1 + 1 + 1 + 1 + 1) (by omega) (by omega)
    have hw5 :=wrap64 (n :=a + 1 + 1 + 1 + 1 + 1 + 1) (by omega) (by omega)
    have hm6 :=k_markText (a + 1 + 1 + 1 + 1 + 1 + 1) (by omega) (by omega)
    have hw6 :=wrap64 (n :=a + 1 + 1 + 1 + 1 + 1 + 1 + 1) (by omega) (by omega)
    have hw7 :=wrap64 (n :=a + 1 + 1 + 1 + 1 + 1 + 1 + 1 + 1) (by omega) (by omega)
    have hm8 :=k_heldStringS s.object.holds (a + 1 + 1 + 1 + 1 + 1 + 1 + 1 + 1) (by omega) (by omega)
    have hn8 : ¬ (a + 1 + 1 + 1 + 1 + 1 + 1 + 1 + 1 + (mcL mcString s.object.holds : Nat) < 0) :=by omega
    left
    refine ⟨a + 1 + 1 + 1 + 1 + 1 + 1 + 1 + 1 + (mcL mcString s.object.holds : Nat),?_,by rw [hsu]; omega,rfl⟩
    simp only [rA,↓reduceIte,reduceCtorEq,N1,N2,N3,N4,N5,N6,N7,I1,I2,I3,I4,L1,e86,e83,e110,hlt,hr,hwi,hi0,hlm,hlen,i64c,hw0,hw1,hm2,hw2,hm3,hw3,hw4,hw5,hm6,hw6,hw7,hm8,hn8,rowsString,beq_self_eq_true]
  · rintro a rfl
    simp only [rA,↓reduceIte,reduceCtorEq,N1,N2,N3,N4,N5,N6,N7,I1,I2,I3,I4,L1,e86,kAt_all,mkL_length]
theorem k_heldBookTicketS (l : List VT) (k : Int) (h0 : 0 ≤ k) (hb : k + (mcL mcBookTicket l : Nat) ≤ 4611686018427387904) : EV Tryz.prog E 87 [.val 0 false [.sl .shr 5 ((mkL mkBookTicket mcBookTicket l k).map VT.c)],.val 0 false [.p (.int .i64 k)]] = some ⟨[(false,[.p (.int .i64 (k + (mcL mcBookTicket l : Nat)))])],[]⟩ :=by
  have hlc :=len_mcL mcBookTicket (fun x =>by unfold mcBookTicket; omega) l
  refine EV_intro Tryz.func87 rfl ?_
  simp only [rA,↓reduceIte,reduceCtorEq,N1,N2,N3,N4,N5,N6,N7,I1,I2,I3,I4,L1,e87,Tryz.f87]
  rw [for_block l (fun i (a : Int) =>⟨3,[(0,.val 0 false [.sl .shr 5 ((mkL mkBookTicket mcBookTicket l k).map VT.c)]),(1,.val 1 false [.p (.int .i64 a)]),(5,.val 2 false [.p (.int .i64 i)])]⟩) (fun i a =>a = kAt mcBookTicket l k i)
      (fun r i a =>.norm ⟨1,[(1,.val 0 false [.p (.int .i64 (k + (mcL mcBookTicket l : Nat)))])]⟩) ?_ ?_ (a :=k) (kAt_zero mcBookTicket l k).symm (by simp only [rA,↓reduceIte,reduceCtorEq,N1,N2,N3,N4,N5,N6,N7,I1,I2,I3,I4,L1,e87]; rfl)]
  · simp only [rA,↓reduceIte,reduceCtorEq,N1,N2,N3,N4,N5,N6,N7,I1,I2,I3,I4,L1,e87]
  · rintro i s r a hd hi rfl
    have hlen :=(List.getElem?_eq_some_iff.1 hi).1
    have hlt : ((i : Int) < (l.length : Int)) :=by omega
    have hsu :=kAt_succ mcBookTicket hi k
    have hge :=kAt_ge mcBookTicket l k i
    have hle :=kAt_le mcBookTicket hi k
    have hwi :=wrap64 (n :=(i : Int) + 1) (by omega) (by omega)
    have hi0 : (0 : Int) ≤ (i : Int) :=by omega
    have hr :=getElem?_map_some (f :=VT.c) (mkL_get mkBookTicket mcBookTicket hi k)
    have hlm :=mkL_length mkBookTicket mcBookTicket l k
    generalize kAt mcBookTicket l k i = a at *
    simp only [mcBookTicket] at hsu hle
    simp only [VT.c,mkBookTicket] at hr
    have hm0 :=k_markText (a) (by omega) (by omega)
    have hw0 :=wrap64 (n :=a + 1) (by omega) (by omega)
    have hw1 :=wrap64 (n :=a + 1 + 1) (by omega) (by omega)
    have hm2 :=k_markText (a + 1 + 1) (by omega) (by omega)
    have hw2 :=wrap64 (n :=a + 1 + 1 + 1) (by omega) (by omega)
    have hw3 :=wrap64 (n :=a + 1 + 1 + 1 + 1) (by omega) (by omega)
    have hw4 :=wrap64 (n :=a + 1 + 1 + 1 + 1 + 1) (by omega) (by omega)
    left
    refine ⟨a + 1 + 1 + 1 + 1 + 1,?_,by rw [hsu]; omega,rfl⟩
    simp only [rA,↓reduceIte,reduceCtorEq,N1,N2,N3,N4,N5,N6,N7,I1,I2,I3,I4,L1,e87,e83,hlt,hr,hwi,hi0,hlm,hlen,i64c,hm0,hw0,hw1,hm2,hw2,hw3,hw4,beq_self_eq_true]
  · rintro a rfl
    simp only [rA,↓reduceIte,reduceCtorEq,N1,N2,N3,N4,N5,N6,N7,I1,I2,I3,I4,L1,e87,kAt_all,mkL_length]
theorem k_heldBook (x : VBook) (k : Int) (h0 : 0 ≤ k) (hb : k + (ocBook x : Nat) ≤ 4611686018427387904) : EV Tryz.prog E 49 [.val 0 true (VBook.c .shr (moBook x k)),.val 0 false [.p (.int .i64 k)]] = some ⟨[(false,[.p (.int .i64 (k + (ocBook x : Nat)))])],[]⟩ :=by
  refine EV_intro Tryz.func49 rfl ?_
  unfold ocBook at hb ⊢
  have hm0 :=k_heldBookObjectS x.objects (k) (by omega) (by omega)
  have hn0 : ¬ (k + (mcL mcBookObject x.objects : Nat) < 0) :=by omega
  have hm1 :=k_heldBookChangeS x.history (k + (mcL mcBookObject x.objects : Nat)) (by omega) (by omega)
  have hn1 : ¬ (k + (mcL mcBookObject x.objects : Nat) + (mcL mcBookChange x.history : Nat) < 0) :=by omega
  have hm2 :=k_heldBookTicketS x.tickets (k + (mcL mcBookObject x.objects : Nat) + (mcL mcBookChange x.history : Nat)) (by omega) (by omega)
  have hn2 : ¬ (k + (mcL mcBookObject x.objects : Nat) + (mcL mcBookChange x.history : Nat) + (mcL mcBookTicket x.tickets : Nat) < 0) :=by omega
  have he : k + ((mcL mcBookObject x.objects + mcL mcBookChange x.history + mcL mcBookTicket x.tickets : Nat) : Int) = k + (mcL mcBookObject x.objects : Nat) + (mcL mcBookChange x.history : Nat) + (mcL mcBookTicket x.tickets : Nat) :=by omega
  rw [he]
  simp only [rA,↓reduceIte,reduceCtorEq,N1,N2,N3,N4,N5,N6,N7,I1,I2,I3,I4,L1,e49,e85,e86,e87,Tryz.f49,VBook.c,moBook,hm0,hn0,hm1,hn1,hm2,hn2,rowsBookObject,rowsBookChange,rowsBookTicket]
theorem mc_leString (x : ByteArray) : mcString x ≤ 1 + 1 * x.size :=by
  unfold mcString
  omega
theorem mcL_leString (l : List ByteArray) : mcL mcString l ≤ 1 * wSString l :=by
  unfold wSString
  induction l with
  | nil =>simp [mcL]
  | cons x r ih =>
    have :=mc_leString x
    simp only [mcL,sumWString,List.length_cons]
    omega
theorem mc_leBookObject (x : VO) : mcBookObject x ≤ 6 + 6 * x.w :=by
  have h0 :=mcL_leString x.holds
  unfold mcBookObject VO.w
  omega
theorem mcL_leBookObject (l : List VO) : mcL mcBookObject l ≤ 6 * wSBookObject l :=by
  unfold wSBookObject
  induction l with
  | nil =>simp [mcL]
  | cons x r ih =>
    have :=mc_leBookObject x
    simp only [mcL,sumWBookObject,List.length_cons]
    omega
theorem mc_leBookChange (x : VC) : mcBookChange x ≤ 8 + 8 * x.w :=by
  have h0 :=mcL_leString x.object.holds
  unfold mcBookChange VC.w VO.w
  omega
theorem mcL_leBookChange (l : List VC) : mcL mcBookChange l ≤ 8 * wSBookChange l :=by
  unfold wSBookChange
  induction l with
  | nil =>simp [mcL]
  | cons x r ih =>
    have :=mc_leBookChange x
    simp only [mcL,sumWBookChange,List.length_cons]
    omega
theorem mc_leBookTicket (x : VT) : mcBookTicket x ≤ 5 + 5 * x.w :=by
  unfold mcBookTicket VT.w
  omega
theorem mcL_leBookTicket (l : List VT) : mcL mcBookTicket l ≤ 5 * wSBookTicket l :=by
  unfold wSBookTicket
  induction l with
  | nil =>simp [mcL]
  | cons x r ih =>
    have :=mc_leBookTicket x
    simp only [mcL,sumWBookTicket,List.length_cons]
    omega
theorem oc_leBook (x : VBook) : ocBook x ≤ 8 * x.w :=by
  have h0 :=mcL_leBookObject x.objects
  have h1 :=mcL_leBookChange x.history
  have h2 :=mcL_leBookTicket x.tickets
  unfold ocBook VBook.w
  omega
end Go.Proofs.YtfpconipgllkkaaGreat

