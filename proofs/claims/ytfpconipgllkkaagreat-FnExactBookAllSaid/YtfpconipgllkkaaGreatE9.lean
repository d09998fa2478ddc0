/- A bundle done: what the document computes. -/
import Derived.Test.YtfpconipgllkkaaGreatMD
namespace Go.Proofs.YtfpconipgllkkaaGreat
open Go.Sx
open Nat renaming reduceEqDiff → N1,reduceAdd → N2,reduceSub → N3,reduceMul → N4,reduceLeDiff → N5,reduceBEq → N6,reduceLT → N7
open Int renaming reduceLT → I1,reduceNeg → I2,reduceLE → I3,reduceEq → I4
open List renaming reduceReplicate → L1
set_option maxRecDepth 100000
set_option maxHeartbeats 64000000
set_option linter.unusedVariables false
set_option linter.unusedSimpArgs false
noncomputable def hrF (b:VBook) (w:VW):List (List C) :=
 open Classical in if h:b.w + w.w ≤ 4194000 ∧ 0 ≤ b.now ∧ b.now ≤ 1000000 then Classical.choose (k50 b w h.1 h.2.1 h.2.2) else []
theorem hrF_spec {b:VBook} {w:VW} (h1:b.w + w.w ≤ 4194000) (h2:0 ≤ b.now) (h3:b.now ≤ 1000000) :
  (RowsH (hrF b w) (bkD b w).history ∧ (codeD b w ≠ 0 → hrF b w = (bkD b w).history.map (VC.c .shr))) ∧ EV Tryz.prog E 50 [.val 0 true (b.c .shr),.val 0 true (VW.c w)] =
   some ⟨[(true,[.p (.int .i64 (codeD b w))] ++ (bkD b w).m (flD (codeD b w)) (hrF b w) ++ [.p (.int .i64 (verD b w))])],[]⟩ :=by
 have h:b.w + w.w ≤ 4194000 ∧ 0 ≤ b.now ∧ b.now ≤ 1000000 :=⟨h1,h2,h3⟩
 unfold hrF
 rw [dif_pos h]
 exact Classical.choose_spec (k50 b w h.1 h.2.1 h.2.2)
noncomputable def runH:List VW → VBook × Fl × List (List C) → Fl × List (List C)
 | [],a =>a.2
 | w :: r,a =>if stepC a.1 w = 0 then runH r (stepB a.1 w,.own,hrF a.1 w) else a.2
def okH (i:Nat) (a:VBook × Fl × List (List C)):Prop :=GoodB i a.1 ∧ RowsH a.2.2 a.1.history ∧ ((a.2.1 = .shr ∧ a.2.2 = a.1.history.map (VC.c .shr)) ∨ a.2.1 = .own)
theorem step_rows {y:VBook} {w:VW} (h1:y.w + w.w ≤ 4194000) (h2:0 ≤ y.now) (h3:y.now ≤ 1000000) (hw:wrB w = true) (h0:stepC y w = 0):RowsH (hrF y w) (stepB y w).history :=by
 have h :=(hrF_spec h1 h2 h3).1.1
 have e:bkD y w = stepB y w :=by simp [bkD,hw]
 rwa [e] at h
theorem runH_ok:∀ (r:List VW) (i:Nat) (a:VBook × Fl × List (List C)),okH i a → i + r.length ≤ 10 → r.all wrB = true → (runW r i a.1).1 = 0 →
  RowsH (runH r a).2 (runW r i a.1).2.2.history ∧ (((runH r a).1 = .shr ∧ (runH r a).2 = (runW r i a.1).2.2.history.map (VC.c .shr)) ∨ (runH r a).1 = .own)
 | [],i,a,h,_,_,_ =>⟨h.2.1,h.2.2⟩
 | w :: r,i,a,h,hi,hw,h0 =>by
  simp only [List.all_cons,Bool.and_eq_true] at hw
  simp only [List.length_cons] at hi
  have hg :=h.1
  have hgw :=hg.w
  have hws :=wr_sz hw.1
  unfold runW at h0 ⊢
  unfold runH
  by_cases hc:stepC a.1 w = 0
  ·rw [if_pos hc] at h0 ⊢
   rw [if_pos hc]
   exact runH_ok r (i + 1) (stepB a.1 w,.own,hrF a.1 w) ⟨good_step hg (by omega) hw.1 hc,step_rows (by omega) hg.lo hg.hi hw.1 hc,.inr rfl⟩ (by omega) hw.2 h0
  ·rw [if_neg hc] at h0
   exact absurd h0 hc
def allS (b:VBook) (x:VU):Int × Nat × VBook :=if bunB x = true then allR b x else (2,0,b)
noncomputable def retS (b:VBook) (x:VU):Fl × List (List C) :=if bunB x = true ∧ wantF b x.wants 0 = none ∧ (runW x.writes 0 b).1 = 0 then runH x.writes (b,.shr,b.history.map (VC.c .shr)) else (.shr,b.history.map (VC.c .shr))
theorem retS_ok {b:VBook} {x:VU} (hb:GoodB 0 b):RowsH (retS b x).2 (allS b x).2.2.history ∧ (((retS b x).1 = .shr ∧ (retS b x).2 = (allS b x).2.2.history.map (VC.c .shr)) ∨ (retS b x).1 = .own) :=by
 unfold retS allS allR
 by_cases hB:bunB x = true
 ·rw [if_pos hB]
  have hB2 :=hB
  simp only [bunB,Bool.and_eq_true,decide_eq_true_eq] at hB2
  cases hW:wantF b x.wants 0 with
  | some j =>rw [if_neg (by rintro ⟨_,h,_⟩; cases h)]; exact ⟨rowsH_shr _,.inl ⟨rfl,rfl⟩⟩
  | none =>
   simp only
   by_cases h0:(runW x.writes 0 b).1 = 0
   ·rw [if_pos h0,if_pos ⟨hB,by trivial,h0⟩]
    exact runH_ok x.writes 0 (b,.shr,b.history.map (VC.c .shr)) ⟨hb,rowsH_shr _,.inl ⟨rfl,rfl⟩⟩ (by omega) hB2.2.2.2 h0
   ·rw [if_neg h0,if_neg (fun h =>h0 h.2.2)]; exact ⟨rowsH_shr _,.inl ⟨rfl,rfl⟩⟩
 ·rw [if_neg hB,if_neg (fun h =>hB h.1)]; exact ⟨rowsH_shr _,.inl ⟨rfl,rfl⟩⟩
def R28 (b:VBook) (t:Int × Nat × VBook) (u:Fl × List (List C)):Res :=⟨[(true,[.p (.int .i64 t.1)] ++ t.2.2.m u.1 u.2 ++ [.p (.int .i64 (if t.1 = 0 then t.2.2.now else 0))]),(false,[.p (.int .i64 (t.2.1:Nat))])],[]⟩
theorem k28 (b:VBook) (x:VU) (hb:GoodB 0 b) (hx1:x.wants.length ≤ 4194304) (hx2:x.writes.length ≤ 4194304) :
  EV Tryz.prog E 28 [.val 0 true (b.c .shr),.val 0 true (VU.c .shr x)] = some (R28 b (allS b x) (retS b x)) :=by
 refine EV_intro Tryz.func28 rfl ?_
 have hbw :=hb.w
 have no:bunB x = false → R28 b (allS b x) (retS b x) = ⟨[(true,VBookDid.c .shr ⟨2,b,0⟩),(false,[.p (.int .i64 0)])],[]⟩ :=fun h =>by
  simp only [allS,retS,h,R28]
  rfl
 by_cases c1:(x.wants.length:Int) ≤ 10
 case neg =>
  have d1:(10:Int) < (x.wants.length:Int) :=by omega
  rw [no (by simp [bunB,c1])]
  simp only [rA,↓reduceIte,reduceCtorEq,N1,N2,N3,N4,N5,N6,N7,I1,I2,I3,I4,L1,e28,Tryz.f28,VBook.c,VBookDid.c,VU.c,c1,d1]
 have d1:¬ (10:Int) < (x.wants.length:Int) :=by omega
 by_cases c2:(x.writes.length:Int) ≤ 10
 case neg =>
  have d2:(10:Int) < (x.writes.length:Int) :=by omega
  rw [no (by simp [bunB,c2])]
  simp only [rA,↓reduceIte,reduceCtorEq,N1,N2,N3,N4,N5,N6,N7,I1,I2,I3,I4,L1,e28,Tryz.f28,VBook.c,VBookDid.c,VU.c,c1,d1,c2,d2]
 have d2:¬ (10:Int) < (x.writes.length:Int) :=by omega
 simp only [rA,↓reduceIte,reduceCtorEq,N1,N2,N3,N4,N5,N6,N7,I1,I2,I3,I4,L1,e28,Tryz.f28,VBook.c,VBookDid.c,VU.c,d1,d2]
 rw [for_block x.wants (fun i (_:Unit) =>⟨4,[(2,.box 0 0 (b.c .shr)),(3,.box 1 1 (x.c .shr)),(4,.box 2 2 (VBookDid.c .own ⟨0,zB,0⟩)),(6,.val 3 false [.p (.int .i64 i)])]⟩) (fun i _ =>True)
  (fun r i a =>if r.all wantB = true then .norm ⟨3,[(2,.box 0 0 (b.c .shr)),(3,.box 1 1 (x.c .shr)),(4,.box 2 2 (VBookDid.c .own ⟨0,zB,0⟩))]⟩ else .ret ⟨[(true,VBookDid.c .shr ⟨2,b,0⟩),(false,[.p (.int .i64 0)])],[]⟩) ?_ ?_ (a :=()) trivial (by simp only [rA,↓reduceIte,reduceCtorEq,N1,N2,N3,N4,N5,N6,N7,I1,I2,I3,I4,L1,e28,VU.c,VBook.c,VBookDid.c,zB]; rfl)]
 ·cases hA:x.wants.all wantB
  ·rw [no (by simp [bunB,hA])]
   simp only [rA,↓reduceIte,reduceCtorEq,N1,N2,N3,N4,N5,N6,N7,I1,I2,I3,I4,L1,e28,VU.c,VBook.c,VBookDid.c]
  simp only [rA,↓reduceIte,reduceCtorEq,N1,N2,N3,N4,N5,N6,N7,I1,I2,I3,I4,L1,e28,VU.c,VBook.c,VBookDid.c,zB]
  rw [for_block x.writes (fun i (_:Unit) =>⟨4,[(2,.box 0 0 (b.c .shr)),(3,.box 1 1 (x.c .shr)),(4,.box 2 2 (VBookDid.c .own ⟨0,zB,0⟩)),(7,.val 3 false [.p (.int .i64 i)])]⟩) (fun i _ =>True)
   (fun r i a =>if r.all wrB = true then .norm ⟨3,[(2,.box 0 0 (b.c .shr)),(3,.box 1 1 (x.c .shr)),(4,.box 2 2 (VBookDid.c .own ⟨0,zB,0⟩))]⟩ else .ret ⟨[(true,VBookDid.c .shr ⟨2,b,0⟩),(false,[.p (.int .i64 0)])],[]⟩) ?_ ?_ (a :=()) trivial (by simp only [rA,↓reduceIte,reduceCtorEq,N1,N2,N3,N4,N5,N6,N7,I1,I2,I3,I4,L1,e28,VU.c,VBook.c,VBookDid.c,zB]; rfl)]
  ·cases hB:x.writes.all wrB
   ·rw [no (by simp [bunB,hB])]
    simp only [rA,↓reduceIte,reduceCtorEq,N1,N2,N3,N4,N5,N6,N7,I1,I2,I3,I4,L1,e28,VU.c,VBook.c,VBookDid.c]
   have hbun:bunB x = true :=by simp [bunB,hA,hB,c1,c2]
   simp only [rA,↓reduceIte,reduceCtorEq,N1,N2,N3,N4,N5,N6,N7,I1,I2,I3,I4,L1,e28,VU.c,VBook.c,VBookDid.c,zB]
   rw [for_block x.wants (fun i (_:Unit) =>⟨4,[(2,.box 0 0 (b.c .shr)),(3,.box 1 1 (x.c .shr)),(4,.box 2 2 (VBookDid.c .own ⟨0,zB,0⟩)),(8,.val 3 false [.p (.int .i64 i)])]⟩) (fun i _ =>True)
    (fun r i a =>match wantF b r i with
     | none =>.norm ⟨3,[(2,.box 0 0 (b.c .shr)),(3,.box 1 1 (x.c .shr)),(4,.box 2 2 (VBookDid.c .own ⟨0,zB,0⟩))]⟩
     | some j =>.ret ⟨[(true,VBookDid.c .shr ⟨9,b,0⟩),(false,[.p (.int .i64 (j:Nat))])],[]⟩) ?_ ?_ (a :=()) trivial (by simp only [rA,↓reduceIte,reduceCtorEq,N1,N2,N3,N4,N5,N6,N7,I1,I2,I3,I4,L1,e28,VU.c,VBook.c,VBookDid.c,zB]; rfl)]
   ·cases hW:wantF b x.wants 0 with
    | some j =>
     have hR:R28 b (allS b x) (retS b x) = ⟨[(true,VBookDid.c .shr ⟨9,b,0⟩),(false,[.p (.int .i64 (j:Nat))])],[]⟩ :=by
      simp only [allS,allR,retS,hbun,hW,R28]
      rfl
     rw [hR]
     simp only [rA,↓reduceIte,reduceCtorEq,N1,N2,N3,N4,N5,N6,N7,I1,I2,I3,I4,L1,e28,VBook.c,VBookDid.c]
    | none =>
     simp only [rA,↓reduceIte,reduceCtorEq,N1,N2,N3,N4,N5,N6,N7,I1,I2,I3,I4,L1,e28,VBook.c,VU.c,VBookDid.c,zB]
     rw [for_block x.writes (fun i (a:VBook × Fl × List (List C)) =>⟨5,[(2,.box 0 0 (b.c .shr)),(3,.box 1 1 (x.c .shr)),(4,.box 2 2 (VBookDid.c .own ⟨0,zB,0⟩)),(11,.box 3 3 (a.1.m a.2.1 a.2.2)),(12,.val 4 false [.p (.int .i64 i)])]⟩) (fun i a =>okH i a)
      (fun r i a =>if (runW r i a.1).1 = 0 then .norm ⟨2,[(4,.box 0 0 (VBookDid.c .own ⟨0,zB,0⟩)),(11,.box 1 1 ((runW r i a.1).2.2.m (runH r a).1 (runH r a).2))]⟩ else .ret ⟨[(true,VBookDid.c .shr ⟨(runW r i a.1).1,b,0⟩),(false,[.p (.int .i64 ((runW r i a.1).2.1:Nat))])],[]⟩) ?_ ?_ (a :=(b,.shr,b.history.map (VC.c .shr))) ⟨hb,rowsH_shr _,.inl ⟨rfl,rfl⟩⟩ (by simp only [rA,↓reduceIte,reduceCtorEq,N1,N2,N3,N4,N5,N6,N7,I1,I2,I3,I4,L1,e28,VU.c,VBook.c,VBook.m,VBookDid.c,zB]; rfl)]
     ·by_cases h0:(runW x.writes 0 b).1 = 0
      ·have hR:R28 b (allS b x) (retS b x) = ⟨[(true,[.p (.int .i64 0)] ++ (runW x.writes 0 b).2.2.m (runH x.writes (b,.shr,b.history.map (VC.c .shr))).1 (runH x.writes (b,.shr,b.history.map (VC.c .shr))).2 ++ [.p (.int .i64 (runW x.writes 0 b).2.2.now)]),(false,[.p (.int .i64 0)])],[]⟩ :=by
        simp [allS,allR,retS,R28,hbun,hW,h0]
       rw [hR]
       obtain ⟨hro,hro2⟩ :=runH_ok x.writes 0 (b,.shr,b.history.map (VC.c .shr)) ⟨hb,rowsH_shr _,.inl ⟨rfl,rfl⟩⟩ (by omega) hB h0
       simp only at hro hro2
       have hb2 :=hro.whole
       generalize (runW x.writes 0 b).2.2 = y at *
       generalize (runH x.writes (b,.shr,b.history.map (VC.c .shr))) = u at *
       obtain ⟨fl,hr⟩ :=u
       simp only at hro2 hb2
       rcases hro2 with ⟨rfl,rfl⟩ | rfl
       ·simp only [rA,↓reduceIte,reduceCtorEq,N1,N2,N3,N4,N5,N6,N7,I1,I2,I3,I4,L1,e28,h0,VBook.c,VBook.m,VBookDid.c,zB,hb2,List.cons_append,List.nil_append,rowsShr,rowsShrC,rowsString,rowsBookTicket]
       ·simp only [rA,↓reduceIte,reduceCtorEq,N1,N2,N3,N4,N5,N6,N7,I1,I2,I3,I4,L1,e28,h0,VBook.c,VBook.m,VBookDid.c,zB,hb2,List.cons_append,List.nil_append,rowsShr,rowsShrC,rowsString,rowsBookTicket]
      ·have hR:R28 b (allS b x) (retS b x) = ⟨[(true,VBookDid.c .shr ⟨(runW x.writes 0 b).1,b,0⟩),(false,[.p (.int .i64 ((runW x.writes 0 b).2.1:Nat))])],[]⟩ :=by
        simp only [allS,allR,retS,R28,hbun,hW,h0,if_true,if_false,and_false]
        rfl
       rw [hR]
       simp only [rA,↓reduceIte,reduceCtorEq,N1,N2,N3,N4,N5,N6,N7,I1,I2,I3,I4,L1,e28,h0,VBook.c,VBookDid.c]
     ·rintro i w r ⟨y,fl,hr⟩ hd hi ⟨hg,hro,hro2⟩
      have hlen :=(List.getElem?_eq_some_iff.1 hi).1
      have hlt:((i:Int) < (x.writes.length:Int)) :=by omega
      have hrw :=getElem?_map_some (f :=VW.c) hi
      have hwi :=wrap64 (n :=(i:Int) + 1) (by omega) (by omega)
      have hi0:(0:Int) ≤ (i:Int) :=by omega
      have hww:wrB w = true :=List.all_eq_true.1 hB w (List.mem_of_getElem? hi)
      simp only at hg hro hro2
      have hyw :=hg.w
      have hws :=wr_sz hww
      obtain ⟨⟨hn1,hn2⟩,h50⟩ :=hrF_spec (b :=y) (w :=w) (by omega) hg.lo hg.hi
      have ec:codeD y w = stepC y w :=by simp [codeD,hww]
      have eb:bkD y w = stepB y w :=by simp [bkD,hww]
      rw [ec,eb] at h50
      rw [ec] at hn2
      rw [eb] at hn1 hn2
      have hgs :=good_step hg (by omega) hww
      have eR:runW (w :: r) i y = if stepC y w = 0 then runW r (i + 1) (stepB y w) else (stepC y w,i,y) :=rfl
      have eH:runH (w :: r) (y,fl,hr) = if stepC y w = 0 then runH r (stepB y w,.own,hrF y w) else (fl,hr) :=rfl
      simp only
      rw [eR,eH]
      have hb1 :=hro.bor
      have hb2 :=hro.whole
      have hc1 :=hn1.bor
      have hc2 :=hn1.whole
      generalize stepC y w = n at *
      generalize stepB y w = z at *
      generalize verD y w = v at *
      generalize hrF y w = hz at *
      simp only [VBook.c,VBook.m,VW.c] at h50 hrw
      by_cases h0:n = 0
      ·left
       subst h0
       refine ⟨(z,.own,hz),?_,⟨hgs rfl,hn1,.inr rfl⟩,by simp only [if_true]⟩
       simp only [flD] at h50
       rcases hro2 with ⟨rfl,rfl⟩ | rfl
       ·simp only [rA,↓reduceIte,reduceCtorEq,N1,N2,N3,N4,N5,N6,N7,I1,I2,I3,I4,L1,e28,e50,VBook.c,VBook.m,VU.c,VBookDid.c,zB,hlt,hrw,hwi,hi0,h50,hb1,hb2,hc1,hc2,i64c,List.cons_append,List.nil_append,rowsShr,rowsShrC,rowsString,rowsBookTicket]
       ·simp only [rA,↓reduceIte,reduceCtorEq,N1,N2,N3,N4,N5,N6,N7,I1,I2,I3,I4,L1,e28,e50,VBook.c,VBook.m,VU.c,VBookDid.c,zB,hlt,hrw,hwi,hi0,h50,hb1,hb2,hc1,hc2,i64c,List.cons_append,List.nil_append,rowsShr,rowsShrC,rowsString,rowsBookTicket]
      ·right
       rw [if_neg h0]
       have hz2 :=hn2 h0
       subst hz2
       simp only [flD,h0] at h50
       rcases hro2 with ⟨rfl,rfl⟩ | rfl
       ·simp only [rA,↓reduceIte,reduceCtorEq,N1,N2,N3,N4,N5,N6,N7,I1,I2,I3,I4,L1,e28,e50,VBook.c,VBook.m,VU.c,VBookDid.c,zB,hlt,hrw,hwi,hi0,h0,h50,hb1,hb2,i64c,List.cons_append,List.nil_append,rowsShr,rowsShrC,rowsString,rowsBookTicket]
       ·simp only [rA,↓reduceIte,reduceCtorEq,N1,N2,N3,N4,N5,N6,N7,I1,I2,I3,I4,L1,e28,e50,VBook.c,VBook.m,VU.c,VBookDid.c,zB,hlt,hrw,hwi,hi0,h0,h50,hb1,hb2,i64c,List.cons_append,List.nil_append,rowsShr,rowsShrC,rowsString,rowsBookTicket]
     ·rintro ⟨y,fl,hr⟩ _
      have hn:¬ ((x.writes.length:Int) < (x.writes.length:Int)) :=by omega
      have eR:runW [] x.writes.length y = (0,0,y) :=rfl
      have eH:runH [] (y,fl,hr) = (fl,hr) :=rfl
      simp only
      rw [eR,eH]
      simp only [rA,↓reduceIte,reduceCtorEq,N1,N2,N3,N4,N5,N6,N7,I1,I2,I3,I4,L1,e28,VBook.c,VBook.m,VU.c,VBookDid.c,zB,hn]
   ·intro i y r a hd hi _
    have hlen :=(List.getElem?_eq_some_iff.1 hi).1
    have hlt:((i:Int) < (x.wants.length:Int)) :=by omega
    have hr :=getElem?_map_some (f :=VN.c) hi
    have hwi :=wrap64 (n :=(i:Int) + 1) (by omega) (by omega)
    have hi0:(0:Int) ≤ (i:Int) :=by omega
    have h63 :=k63 b y.kind y.name (by omega)
    have eW:wantF b (y :: r) i = if (bfind b.objects y.kind y.name).1.version = y.version then wantF b r (i + 1) else some i :=rfl
    rw [eW]
    generalize bfind b.objects y.kind y.name = p at *
    obtain ⟨⟨ok,on,ov,ob,ot,oe,oh⟩,pt⟩ :=p
    simp only [VBook.c,VO.c,VN.c] at h63 hr
    simp only
    simp (maxSteps :=100000000) only [n28_16,addF_same,rA,↓reduceIte,reduceCtorEq,N1,N2,N3,N4,N5,N6,N7,I1,I2,I3,I4,L1,e28,e63,VBook.c,VU.c,VBookDid.c,VO.c,zB,hlt,hr,hwi,hi0,h63,rowsString,i64c]
    by_cases hv:ov = y.version
    ·left
     refine ⟨(),?_,trivial,by rw [if_pos hv]⟩
     simp only [rA,↓reduceIte,reduceCtorEq,N1,N2,N3,N4,N5,N6,N7,I1,I2,I3,I4,L1,e28,VBook.c,VU.c,VBookDid.c,VO.c,zB,hwi,hv,rowsString,i64c]
    ·right
     rw [if_neg hv]
     simp only [rA,↓reduceIte,reduceCtorEq,N1,N2,N3,N4,N5,N6,N7,I1,I2,I3,I4,L1,e28,VBook.c,VU.c,VBookDid.c,VO.c,zB,hwi,hv,rowsString,i64c]
   ·intro a _
    have hn:¬ ((x.wants.length:Int) < (x.wants.length:Int)) :=by omega
    have eW:wantF b [] x.wants.length = none :=rfl
    rw [eW]
    simp only [rA,↓reduceIte,reduceCtorEq,N1,N2,N3,N4,N5,N6,N7,I1,I2,I3,I4,L1,e28,VU.c,VBook.c,VBookDid.c,zB,hn]
  ·intro i y r a hd hi _
   have hlen :=(List.getElem?_eq_some_iff.1 hi).1
   have hlt:((i:Int) < (x.writes.length:Int)) :=by omega
   have hr :=getElem?_map_some (f :=VW.c) hi
   have hwi :=wrap64 (n :=(i:Int) + 1) (by omega) (by omega)
   have hi0:(0:Int) ≤ (i:Int) :=by omega
   have hk :=k62 y
   simp only [VW.c] at hr hk
   cases d:wrB y
   ·right
    simp only [rA,↓reduceIte,reduceCtorEq,N1,N2,N3,N4,N5,N6,N7,I1,I2,I3,I4,L1,e28,e62,VU.c,VBook.c,VBookDid.c,zB,hlt,hr,hwi,hi0,hk,d,List.all_cons,Bool.false_and]
   ·left
    refine ⟨(),?_,trivial,by simp [d]⟩
    simp only [rA,↓reduceIte,reduceCtorEq,N1,N2,N3,N4,N5,N6,N7,I1,I2,I3,I4,L1,e28,e62,VU.c,VBook.c,VBookDid.c,zB,hlt,hr,hwi,hi0,hk,d,i64c]
  ·intro a _
   have hn:¬ ((x.writes.length:Int) < (x.writes.length:Int)) :=by omega
   simp only [rA,↓reduceIte,reduceCtorEq,N1,N2,N3,N4,N5,N6,N7,I1,I2,I3,I4,L1,e28,VU.c,VBook.c,VBookDid.c,zB,hn,List.all_nil]
 ·intro i y r a hd hi _
  have hlen :=(List.getElem?_eq_some_iff.1 hi).1
  have hlt:((i:Int) < (x.wants.length:Int)) :=by omega
  have hr :=getElem?_map_some (f :=VN.c) hi
  have hwi :=wrap64 (n :=(i:Int) + 1) (by omega) (by omega)
  have hi0:(0:Int) ≤ (i:Int) :=by omega
  have h1 :=k61 y.kind
  have h2 :=k61 y.name
  simp only [VN.c] at hr
  have e:(y :: r).all wantB = (nameB y.kind && (nameB y.name && decide (0 ≤ y.version)) && r.all wantB) :=by simp [wantB]
  cases c3:nameB y.kind
  ·right
   simp only [rA,↓reduceIte,reduceCtorEq,N1,N2,N3,N4,N5,N6,N7,I1,I2,I3,I4,L1,e28,e61,VU.c,VBook.c,VBookDid.c,zB,hlt,hr,hwi,hi0,h1,h2,c3,e,Bool.false_and]
  cases c4:nameB y.name
  ·right
   simp only [rA,↓reduceIte,reduceCtorEq,N1,N2,N3,N4,N5,N6,N7,I1,I2,I3,I4,L1,e28,e61,VU.c,VBook.c,VBookDid.c,zB,hlt,hr,hwi,hi0,h1,h2,c3,c4,e,Bool.false_and,Bool.and_false]
  by_cases c5:0 ≤ y.version
  ·left
   have d5:¬ (y.version < 0) :=by omega
   refine ⟨(),?_,trivial,by rw [e,c3,c4]; simp [c5]⟩
   simp only [rA,↓reduceIte,reduceCtorEq,N1,N2,N3,N4,N5,N6,N7,I1,I2,I3,I4,L1,e28,e61,VU.c,VBook.c,VBookDid.c,zB,hlt,hr,hwi,hi0,h1,h2,c3,c4,d5,i64c]
  ·right
   have d5:y.version < 0 :=by omega
   simp only [rA,↓reduceIte,reduceCtorEq,N1,N2,N3,N4,N5,N6,N7,I1,I2,I3,I4,L1,e28,e61,VU.c,VBook.c,VBookDid.c,zB,hlt,hr,hwi,hi0,h1,h2,c3,c4,c5,d5,e,Bool.false_and,Bool.and_false]
 ·intro a _
  have hn:¬ ((x.wants.length:Int) < (x.wants.length:Int)) :=by omega
  simp only [rA,↓reduceIte,reduceCtorEq,N1,N2,N3,N4,N5,N6,N7,I1,I2,I3,I4,L1,e28,VU.c,VBook.c,VBookDid.c,zB,hn,List.all_nil]
end Go.Proofs.YtfpconipgllkkaaGreat

