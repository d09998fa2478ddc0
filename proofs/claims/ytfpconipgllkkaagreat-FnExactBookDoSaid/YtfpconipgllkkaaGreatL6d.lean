/- FnExactBookDo: the two sides and the law. -/
import Derived.Test.YtfpconipgllkkaaGreatH6
import Derived.Test.YtfpconipgllkkaaGreatM3
import Derived.Test.YtfpconipgllkkaaGreatF6
namespace Go.Proofs.YtfpconipgllkkaaGreat
open Go.Sx
open Nat renaming reduceEqDiff → N1,reduceAdd → N2,reduceSub → N3,reduceMul → N4,reduceLeDiff → N5,reduceBEq → N6,reduceLT → N7
open Int renaming reduceLT → I1,reduceNeg → I2,reduceLE → I3,reduceEq → I4
open List renaming reduceReplicate → L1
set_option maxRecDepth 100000
set_option maxHeartbeats 16000000
set_option linter.unusedVariables false
set_option linter.unusedSimpArgs false
def zB : VBook :=⟨0,0,[],[],[]⟩
def didC (b : VBook) (w : VW) : VBookDid :=if implB b = true then (if wrB w = true then ⟨chC b w (fO b w) (fT b w),bookS b w (fO b w) (fT b w),verI b w (fO b w) (fT b w)⟩ else ⟨2,zB,0⟩) else ⟨1,zB,0⟩
theorem k19 (b : VBook) (w : VW) (hw : b.w + w.w ≤ 1048577) : EV Tryz.prog E 19 [.val 0 true (b.c .shr),.val 0 true (VW.c w)] = some ⟨[(true,VBookDid.c .own (didC b w))],[]⟩ :=by
  refine EV_intro Tryz.func19 rfl ?_
  have hv :=kS b (by omega)
  cases hi : implB b
  · rw [hi] at hv
    have e : didC b w = ⟨1,zB,0⟩ :=by simp [didC,hi]
    rw [e]
    simp only [VBook.c] at hv
    simp only [rA,↓reduceIte,reduceCtorEq,N1,N2,N3,N4,N5,N6,N7,I1,I2,I3,I4,L1,e19,e27,Tryz.f19,VBook.c,VW.c,VBookDid.c,zB,hv,List.map_nil]
  rw [hi] at hv
  obtain ⟨hr,⟨hro,hrn⟩,h50⟩ :=k50 b w (by omega) (valid_now hi).1 (valid_now hi).2
  have hbw :=bookS_w b w
  cases hr0 : wrB w
  · have e : didC b w = ⟨2,zB,0⟩ :=by simp [didC,hi,hr0]
    have ec : codeD b w = 2 :=by simp [codeD,hr0]
    have eb : bkD b w = b :=by simp [bkD,hr0]
    have ev : verD b w = 0 :=by simp [verD,hr0]
    rw [ec,eb,ev] at h50
    rw [ec,eb] at hrn
    rw [eb] at hro
    have hb1 :=hro.bor
    have hb2 :=hro.whole
    rw [e]
    simp only [VBook.c,VBook.m,VW.c,flD] at hv h50
    simp only [rA,↓reduceIte,reduceCtorEq,N1,N2,N3,N4,N5,N6,N7,I1,I2,I3,I4,L1,e19,e27,e50,Tryz.f19,VBook.c,VW.c,VBookDid.c,zB,hv,h50,hb1,hb2,List.map_nil,List.cons_append,List.nil_append,rowsBookObject,rowsBookChange,rowsBookTicket,rowsShr,rowsShrC,rowsString]
  · have e : didC b w = ⟨chC b w (fO b w) (fT b w),bookS b w (fO b w) (fT b w),verI b w (fO b w) (fT b w)⟩ :=by simp [didC,hi,hr0]
    have ec : codeD b w = chC b w (fO b w) (fT b w) :=by simp [codeD,hr0]
    have eb : bkD b w = bookS b w (fO b w) (fT b w) :=by simp [bkD,hr0]
    have ev : verD b w = verI b w (fO b w) (fT b w) :=by simp [verD,hr0]
    have h2 :=chC_ne b w (fO b w) (fT b w)
    rw [ec,eb,ev] at h50
    rw [ec,eb] at hrn
    rw [eb] at hro
    have hb1 :=hro.bor
    have hb2 :=hro.whole
    rw [e]
    have h29 :=k29 (bookS b w (fO b w) (fT b w)) (by omega)
    generalize chC b w (fO b w) (fT b w) = n at *
    generalize bookS b w (fO b w) (fT b w) = y at *
    generalize verI b w (fO b w) (fT b w) = v at *
    simp only [VBook.c,VBook.m,VW.c] at hv h50 h29
    by_cases h0 : n = 0
    · subst h0
      simp only [flD] at h50
      simp only [rA,↓reduceIte,reduceCtorEq,N1,N2,N3,N4,N5,N6,N7,I1,I2,I3,I4,L1,e19,e27,e50,e29,Tryz.f19,VBook.c,VW.c,VBookDid.c,hv,h50,h29,hb1,hb2,List.cons_append,List.nil_append,rowsBookObject,rowsBookChange,rowsBookTicket,rowsShr,rowsShrC,rowsString]
    · simp only [flD,h0] at h50
      have hr1 :=hrn h0
      subst hr1
      simp only [rA,↓reduceIte,reduceCtorEq,N1,N2,N3,N4,N5,N6,N7,I1,I2,I3,I4,L1,e19,e27,e50,e29,Tryz.f19,VBook.c,VW.c,VBookDid.c,hv,h50,h29,hb1,hb2,h0,h2,List.cons_append,List.nil_append,rowsBookObject,rowsBookChange,rowsBookTicket,rowsShr,rowsShrC,rowsString]
theorem k21 (b : VBook) (w : VW) (hw : b.w + w.w ≤ 1048577) : EV Tryz.prog E 21 [.val 0 true (b.c .shr),.val 0 true (VW.c w)] = some ⟨[(true,VBookDid.c .own (didC b w))],[]⟩ :=by
  refine EV_intro Tryz.func21 rfl ?_
  have hv :=k35 b (by omega)
  have h51 :=k51 w
  cases hi : implB b
  · rw [hi] at hv
    have e : didC b w = ⟨1,zB,0⟩ :=by simp [didC,hi]
    rw [e]
    simp only [VBook.c] at hv
    simp only [rA,↓reduceIte,reduceCtorEq,N1,N2,N3,N4,N5,N6,N7,I1,I2,I3,I4,L1,e21,e35,Tryz.f21,VBook.c,VW.c,VBookDid.c,zB,hv,List.map_nil]
  rw [hi] at hv
  have hbw :=bookS_w b w
  cases hr : wrB w
  · have e : didC b w = ⟨2,zB,0⟩ :=by simp [didC,hi,hr]
    rw [hr] at h51
    rw [e]
    simp only [VBook.c,VW.c] at hv h51
    simp only [rA,↓reduceIte,reduceCtorEq,N1,N2,N3,N4,N5,N6,N7,I1,I2,I3,I4,L1,e21,e35,e51,Tryz.f21,VBook.c,VW.c,VBookDid.c,zB,hv,h51,List.map_nil]
  · have e : didC b w = ⟨chC b w (fO b w) (fT b w),bookS b w (fO b w) (fT b w),verI b w (fO b w) (fT b w)⟩ :=by simp [didC,hi,hr]
    rw [hr] at h51
    have h52 :=k52 b w (by omega) (valid_now hi).1 (valid_now hi).2 hr
    have h37 :=k37 b (by omega)
    have heq :=book_eq (valid_asc hi) hr
    have h37y :=k37 (bookS b w (fO b w) (fT b w)) (by omega)
    rw [e]
    have h52 : EV Tryz.prog E 52 [.box 0 0 (b.c .own),.val 0 true (VW.c w)] = some ⟨[(false,[.p (.int .i64 (chC b w (fO b w) (fT b w)))]),(false,[.p (.int .i64 (verI b w (fO b w) (fT b w)))])],[(bookI b w (fO b w) (fT b w)).c .own]⟩ :=h52
    rw [heq] at h52
    have hne : chC b w (fO b w) (fT b w) ≠ 0 → bookS b w (fO b w) (fT b w) = b :=fun h =>by simp [bookS,h]
    generalize chC b w (fO b w) (fT b w) = n at *
    generalize bookS b w (fO b w) (fT b w) = y at *
    generalize verI b w (fO b w) (fT b w) = v at *
    by_cases h0 : n = 0
    · subst h0
      simp only [VBook.c,VW.c] at hv h51 h52 h37 h37y
      simp only [rA,↓reduceIte,reduceCtorEq,N1,N2,N3,N4,N5,N6,N7,I1,I2,I3,I4,L1,e21,e35,e51,e52,e37,Tryz.f21,VBook.c,VW.c,VBookDid.c,hv,h51,h52,h37,h37y,rowsBookObject,rowsBookChange,rowsBookTicket,rowsShr,rowsShrC,rowsString]
    · have hy :=hne h0
      subst hy
      simp only [VBook.c,VW.c] at hv h51 h52 h37 h37y
      simp only [rA,↓reduceIte,reduceCtorEq,N1,N2,N3,N4,N5,N6,N7,I1,I2,I3,I4,L1,e21,e35,e51,e52,e37,Tryz.f21,VBook.c,VW.c,VBookDid.c,hv,h51,h52,h37,h0,rowsBookObject,rowsBookChange,rowsBookTicket,rowsShr,rowsShrC,rowsString]
theorem addF_same (t : Nat) (x : St) (F : List (Nat × St)) : addF t x F (some x) = some F :=by simp [addF]
theorem didC_w (b : VBook) (w : VW) : (didC b w).w ≤ b.w + 2 * (b.w + w.w + 2) :=by
  have h :=bookS_w b w
  unfold didC VBookDid.w
  split
  · split
    · exact h
    · simp [zB,VBook.w,wSBookObject,wSBookChange,wSBookTicket,sumWBookObject,sumWBookChange,sumWBookTicket]
  · simp [zB,VBook.w,wSBookObject,wSBookChange,wSBookTicket,sumWBookObject,sumWBookChange,sumWBookTicket]
theorem k4 (b : VBook) (w : VW) (hx : b.ok) (hy : w.ok) : EV Tryz.prog E 4 [.val 0 true (b.c .shr),.val 0 true (VW.c w)] = some ⟨[(false,[.p (.bool true)])],[]⟩ :=by
  refine EV_intro Tryz.func4 rfl ?_
  have hz :=k_szBook b 1048576 hx (by omega) (by omega)
  simp only [VBook.c] at hz
  by_cases hc : (1048576 : Int) < b.w
  · rw [subW_lt hc] at hz
    simp only [rA,↓reduceIte,reduceCtorEq,N1,N2,N3,N4,N5,N6,N7,I1,I2,I3,I4,L1,e4,e5,Tryz.f4,VBook.c,VW.c,hz]
  rw [subW_ge hc] at hz
  have hnn : ¬ ((1048576 : Int) - b.w < 0) :=by omega
  have hw : b.w ≤ 4194304 :=by omega
  have hz2 :=k_szBookWrite w (1048576 - b.w) hy (by omega) (by omega)
  simp only [VW.c] at hz2
  by_cases hd : ((1048576 : Int) - b.w) < w.w
  · rw [subW_lt hd] at hz2
    simp only [rA,↓reduceIte,reduceCtorEq,N1,N2,N3,N4,N5,N6,N7,I1,I2,I3,I4,L1,e4,e5,e18,Tryz.f4,VBook.c,VW.c,hz,hnn,hz2]
  rw [subW_ge hd] at hz2
  have hnn2 : ¬ ((1048576 : Int) - b.w - w.w < 0) :=by omega
  have hnw : w.w ≤ 4194304 :=by omega
  have hob :=oc_leBook b
  have hyw :=didC_w b w
  have htb :=k_toBook b hw
  have htw :=k_toBookWrite w hnw
  have h1 :=k19 b w (by omega)
  have h2 :=k21 b w (by omega)
  have heb :=k_eqBook b hw
  generalize didC b w = y at *
  have hoy :=oc_leBookDid y
  have hey :=k_eqBookDid y (by omega)
  have hmb :=k_markBook b 1 (by omega) (by omega)
  have hmy :=k_markBookDid y 1 (by omega) (by omega)
  have hh :=k_heldBookDid y 1 (by omega) (by omega)
  have hn : ¬ (1 + (ocBook b : Int) < 0) :=by omega
  have hny : ¬ (1 + (ocBookDid y : Int) < 0) :=by omega
  simp only [VBook.c,VW.c,VBookDid.c,moBookDid,moBook] at h1 h2 heb hey hmb hmy hh htb htw
  simp only [addF_same,rA,↓reduceIte,reduceCtorEq,N1,N2,N3,N4,N5,N6,N7,I1,I2,I3,I4,L1,e4,e5,e18,e8,e20,e19,e21,e11,e12,e14,e16,e17,Tryz.f4,VBook.c,VW.c,VBookDid.c,hz,hnn,hz2,hnn2,h1,h2,heb,hey,hmb,hmy,hh,htb,htw,hn,hny,beq_self_eq_true,rowsBookObject,rowsBookChange,rowsBookTicket,rowsShr,rowsString]
end Go.Proofs.YtfpconipgllkkaaGreat

