/- A write done to a book: what impl.do computes. -/
import Derived.Test.YtfpconipgllkkaaGreatMC
namespace Go.Proofs.YtfpconipgllkkaaGreat
open Go.Sx
open Nat renaming reduceEqDiff → N1,reduceAdd → N2,reduceSub → N3,reduceMul → N4,reduceLeDiff → N5,reduceBEq → N6,reduceLT → N7
open Int renaming reduceLT → I1,reduceNeg → I2,reduceLE → I3,reduceEq → I4
open List renaming reduceReplicate → L1
set_option maxRecDepth 100000
set_option maxHeartbeats 16000000
set_option linter.unusedVariables false
set_option linter.unusedSimpArgs false

theorem k52 (b:VBook) (w:VW) (hw:b.w + w.w ≤ 4194000) (hb0:0 ≤ b.now) (hb1:b.now ≤ 1000000) (hwr:wrB w = true) :
  EV Tryz.prog E 52 [.box 0 0 (b.c .own),.val 0 true (VW.c w)] =
   some ⟨[(false,[.p (.int .i64 (chC b w (bfind b.objects w.kind w.name).1 (bfind b.objects w.kind w.name).2))]),(false,[.p (.int .i64 (verI b w (bfind b.objects w.kind w.name).1 (bfind b.objects w.kind w.name).2))])],[(bookI b w (bfind b.objects w.kind w.name).1 (bfind b.objects w.kind w.name).2).c .own]⟩ :=by
 refine EV_intro Tryz.func52 rfl ?_
 obtain ⟨now,floor,objects,history,tickets⟩ :=b
 obtain ⟨op,kind,name,seen,text,hold⟩ :=w
 simp only [VBook.w,wSBookObject,wSBookChange,VW.w] at hw
 have hol:objects.length ≤ 4194304 :=by omega
 have hlh:history.length + 1 < 4294967296 :=by omega
 have hwn :=wrap64 (n :=now + 1) (by simp only at hb0; omega) (by simp only at hb1; omega)
 have h77 :=k77 objects kind name hol
 simp only at hb0 hb1
 have w1:1 ≤ op ∧ op ≤ 5 :=by
  simp only [wrB,inR,Bool.and_eq_true,decide_eq_true_eq] at hwr
  omega
 have w2:op = 1 → seen = 0 :=by
  simp only [wrB,Bool.and_eq_true,Bool.or_eq_true,Bool.not_eq_true',decide_eq_true_eq,decide_eq_false_iff_not] at hwr
  omega
 simp only
 rcases idxF_find (isKey kind name) objects 0 with ⟨f1,f2⟩ | ⟨i,o,f1,f2,f3,f4⟩
 ·have fb:bfind objects kind name = (nilObj,false) :=by unfold bfind; rw [f1]
  rw [fb]
  rw [f2] at h77
  simp only
  by_cases o1:op = 1
  ·subst o1
   have s0 :=w2 rfl
   subst s0
   by_cases hh:hold = ⟨#[]⟩
   ·by_cases n1:100 ≤ objects.length
    ·have n2:(100:Int) ≤ (objects.length:Int) :=by omega
     have hc:chC ⟨now,floor,objects,history,tickets⟩ ⟨1,kind,name,0,text,hold⟩ nilObj false = 7 :=by simp [chC,hasF,nilObj,n1]
     have hv:verI ⟨now,floor,objects,history,tickets⟩ ⟨1,kind,name,0,text,hold⟩ nilObj false = 0 :=by simp [verI,hc]
     have hB:bookI ⟨now,floor,objects,history,tickets⟩ ⟨1,kind,name,0,text,hold⟩ nilObj false = ⟨now,floor,objects,history,tickets⟩ :=by simp [bookI,hc]
     rw [hc,hv,hB]
     simp only [rA,↓reduceIte,reduceCtorEq,N1,N2,N3,N4,N5,N6,N7,I1,I2,I3,I4,L1,e52,e77,e90,e71,e91,e92,e93,e94,e95,Tryz.f52,uf,ug,hwn,hol,hlh,LIM,h77,hh,n2]
    ·have n2:¬ (100:Int) ≤ (objects.length:Int) :=by omega
     by_cases n8:now = 1000000
     ·subst n8
      have hc:chC ⟨1000000,floor,objects,history,tickets⟩ ⟨1,kind,name,0,text,hold⟩ nilObj false = 8 :=by simp [chC,hasF,nilObj,n1]
      have hv:verI ⟨1000000,floor,objects,history,tickets⟩ ⟨1,kind,name,0,text,hold⟩ nilObj false = 0 :=by simp [verI,hc]
      have hB:bookI ⟨1000000,floor,objects,history,tickets⟩ ⟨1,kind,name,0,text,hold⟩ nilObj false = ⟨1000000,floor,objects,history,tickets⟩ :=by simp [bookI,hc]
      rw [hc,hv,hB]
      simp only [rA,↓reduceIte,reduceCtorEq,N1,N2,N3,N4,N5,N6,N7,I1,I2,I3,I4,L1,e52,e77,e90,e71,e91,e92,e93,e94,e95,Tryz.f52,uf,ug,hwn,hol,hlh,LIM,h77,hh,n2]
     ·have n9:¬ 1000000 ≤ now :=by omega
      by_cases hl2:history.length < 200
      ·have hl3:¬ (200:Int) < (history.length:Int) + 1 :=by omega
       have hc:chC ⟨now,floor,objects,history,tickets⟩ ⟨1,kind,name,0,text,hold⟩ nilObj false = 0 :=by simp [chC,hasF,nilObj,n1,n9,hh]
       have hv:verI ⟨now,floor,objects,history,tickets⟩ ⟨1,kind,name,0,text,hold⟩ nilObj false = now + 1 :=by simp [verI,hc]
       have hG:chG insI delI ⟨1,kind,name,0,text,hold⟩ (now + 1) nilObj = (⟨now + 1,false,⟨kind,name,now + 1,now + 1,text,false,[]⟩⟩:VC) :=by simp [chG,chO,goneO,nilObj,n1,n9,hh]
       have hB:bookI ⟨now,floor,objects,history,tickets⟩ ⟨1,kind,name,0,text,hold⟩ nilObj false = ⟨now + 1,floor,putR ⟨kind,name,now + 1,now + 1,text,false,[]⟩ false objects,history ++ [(⟨now + 1,false,⟨kind,name,now + 1,now + 1,text,false,[]⟩⟩:VC)],tickets⟩ :=by simp [bookI,hc,hG,bookC,hl2]
       have h90 :=k90 ⟨kind,name,now + 1,now + 1,text,false,[]⟩ (by simp only; first | omega | (simp; done) | (simp; omega))
       have h71 :=k71 ⟨kind,name,now + 1,now + 1,text,false,[]⟩
       have h94 :=k94 objects ⟨kind,name,now + 1,now + 1,text,false,[]⟩ hol
       have h95 :=k95 objects ⟨kind,name,now + 1,now + 1,text,false,[]⟩ hol
       simp only [VO.c,List.map_nil,List.map_cons,strC] at h90 h71 h94 h95
       rw [hc,hv,hB]
       simp only [rA,↓reduceIte,reduceCtorEq,N1,N2,N3,N4,N5,N6,N7,I1,I2,I3,I4,L1,e52,e77,e90,e71,e91,e92,e93,e94,e95,Tryz.f52,uf,ug,hwn,hol,hlh,LIM,h77,h90,h71,h94,h95,hh,n2,n8,hl3]
      ·cases history with
       | nil =>exact absurd (show 0 < 200 by omega) hl2
       | cons c0 hr0 =>
        have hlk:hr0.length + 1 + 1 < 4294967296 :=by simpa using hlh
        have hl3:(200:Int) < ((hr0.length + 1:Nat):Int) + 1 :=by simp only [List.length_cons] at hl2; omega
        have hl4:(200:Int) < (hr0.length:Int) + 1 + 1 :=by omega
        have hc:chC ⟨now,floor,objects,c0 :: hr0,tickets⟩ ⟨1,kind,name,0,text,hold⟩ nilObj false = 0 :=by simp [chC,hasF,nilObj,n1,n9,hh]
        have hv:verI ⟨now,floor,objects,c0 :: hr0,tickets⟩ ⟨1,kind,name,0,text,hold⟩ nilObj false = now + 1 :=by simp [verI,hc]
        have hG:chG insI delI ⟨1,kind,name,0,text,hold⟩ (now + 1) nilObj = (⟨now + 1,false,⟨kind,name,now + 1,now + 1,text,false,[]⟩⟩:VC) :=by simp [chG,chO,goneO,nilObj,n1,n9,hh]
        have hB:bookI ⟨now,floor,objects,c0 :: hr0,tickets⟩ ⟨1,kind,name,0,text,hold⟩ nilObj false = ⟨now + 1,c0.version,putR ⟨kind,name,now + 1,now + 1,text,false,[]⟩ false objects,hr0 ++ [(⟨now + 1,false,⟨kind,name,now + 1,now + 1,text,false,[]⟩⟩:VC)],tickets⟩ :=by simp [bookI,hc,hG,bookC,show ¬ (hr0.length + 1 < 200) by simpa using hl2]
        have h90 :=k90 ⟨kind,name,now + 1,now + 1,text,false,[]⟩ (by simp only; first | omega | (simp; done) | (simp; omega))
        have h71 :=k71 ⟨kind,name,now + 1,now + 1,text,false,[]⟩
        have h94 :=k94 objects ⟨kind,name,now + 1,now + 1,text,false,[]⟩ hol
        have h95 :=k95 objects ⟨kind,name,now + 1,now + 1,text,false,[]⟩ hol
        simp only [VO.c,List.map_nil,List.map_cons,strC] at h90 h71 h94 h95
        rw [hc,hv,hB]
        simp only [rA,↓reduceIte,reduceCtorEq,N1,N2,N3,N4,N5,N6,N7,I1,I2,I3,I4,L1,e52,e77,e90,e71,e91,e92,e93,e94,e95,Tryz.f52,uf,ug,hwn,hol,hlh,LIM,h77,h90,h71,h94,h95,hlk,hl4,List.length_cons,hh,n2,n8,hl3]
   ·by_cases n1:100 ≤ objects.length
    ·have n2:(100:Int) ≤ (objects.length:Int) :=by omega
     have hc:chC ⟨now,floor,objects,history,tickets⟩ ⟨1,kind,name,0,text,hold⟩ nilObj false = 7 :=by simp [chC,hasF,nilObj,n1]
     have hv:verI ⟨now,floor,objects,history,tickets⟩ ⟨1,kind,name,0,text,hold⟩ nilObj false = 0 :=by simp [verI,hc]
     have hB:bookI ⟨now,floor,objects,history,tickets⟩ ⟨1,kind,name,0,text,hold⟩ nilObj false = ⟨now,floor,objects,history,tickets⟩ :=by simp [bookI,hc]
     rw [hc,hv,hB]
     simp only [rA,↓reduceIte,reduceCtorEq,N1,N2,N3,N4,N5,N6,N7,I1,I2,I3,I4,L1,e52,e77,e90,e71,e91,e92,e93,e94,e95,Tryz.f52,uf,ug,hwn,hol,hlh,LIM,h77,hh,n2]
    ·have n2:¬ (100:Int) ≤ (objects.length:Int) :=by omega
     by_cases n8:now = 1000000
     ·subst n8
      have hc:chC ⟨1000000,floor,objects,history,tickets⟩ ⟨1,kind,name,0,text,hold⟩ nilObj false = 8 :=by simp [chC,hasF,nilObj,n1]
      have hv:verI ⟨1000000,floor,objects,history,tickets⟩ ⟨1,kind,name,0,text,hold⟩ nilObj false = 0 :=by simp [verI,hc]
      have hB:bookI ⟨1000000,floor,objects,history,tickets⟩ ⟨1,kind,name,0,text,hold⟩ nilObj false = ⟨1000000,floor,objects,history,tickets⟩ :=by simp [bookI,hc]
      rw [hc,hv,hB]
      simp only [rA,↓reduceIte,reduceCtorEq,N1,N2,N3,N4,N5,N6,N7,I1,I2,I3,I4,L1,e52,e77,e90,e71,e91,e92,e93,e94,e95,Tryz.f52,uf,ug,hwn,hol,hlh,LIM,h77,hh,n2]
     ·have n9:¬ 1000000 ≤ now :=by omega
      by_cases hl2:history.length < 200
      ·have hl3:¬ (200:Int) < (history.length:Int) + 1 :=by omega
       have hc:chC ⟨now,floor,objects,history,tickets⟩ ⟨1,kind,name,0,text,hold⟩ nilObj false = 0 :=by simp [chC,hasF,nilObj,n1,n9,hh]
       have hv:verI ⟨now,floor,objects,history,tickets⟩ ⟨1,kind,name,0,text,hold⟩ nilObj false = now + 1 :=by simp [verI,hc]
       have hG:chG insI delI ⟨1,kind,name,0,text,hold⟩ (now + 1) nilObj = (⟨now + 1,false,⟨kind,name,now + 1,now + 1,text,false,[hold]⟩⟩:VC) :=by simp [chG,chO,goneO,nilObj,n1,n9,hh]
       have hB:bookI ⟨now,floor,objects,history,tickets⟩ ⟨1,kind,name,0,text,hold⟩ nilObj false = ⟨now + 1,floor,putR ⟨kind,name,now + 1,now + 1,text,false,[hold]⟩ false objects,history ++ [(⟨now + 1,false,⟨kind,name,now + 1,now + 1,text,false,[hold]⟩⟩:VC)],tickets⟩ :=by simp [bookI,hc,hG,bookC,hl2]
       have h90 :=k90 ⟨kind,name,now + 1,now + 1,text,false,[hold]⟩ (by simp only; first | omega | (simp; done) | (simp; omega))
       have h71 :=k71 ⟨kind,name,now + 1,now + 1,text,false,[hold]⟩
       have h94 :=k94 objects ⟨kind,name,now + 1,now + 1,text,false,[hold]⟩ hol
       have h95 :=k95 objects ⟨kind,name,now + 1,now + 1,text,false,[hold]⟩ hol
       simp only [VO.c,List.map_nil,List.map_cons,strC] at h90 h71 h94 h95
       rw [hc,hv,hB]
       simp only [rA,↓reduceIte,reduceCtorEq,N1,N2,N3,N4,N5,N6,N7,I1,I2,I3,I4,L1,e52,e77,e90,e71,e91,e92,e93,e94,e95,Tryz.f52,uf,ug,hwn,hol,hlh,LIM,h77,h90,h71,h94,h95,hh,n2,n8,hl3]
      ·cases history with
       | nil =>exact absurd (show 0 < 200 by omega) hl2
       | cons c0 hr0 =>
        have hlk:hr0.length + 1 + 1 < 4294967296 :=by simpa using hlh
        have hl3:(200:Int) < ((hr0.length + 1:Nat):Int) + 1 :=by simp only [List.length_cons] at hl2; omega
        have hl4:(200:Int) < (hr0.length:Int) + 1 + 1 :=by omega
        have hc:chC ⟨now,floor,objects,c0 :: hr0,tickets⟩ ⟨1,kind,name,0,text,hold⟩ nilObj false = 0 :=by simp [chC,hasF,nilObj,n1,n9,hh]
        have hv:verI ⟨now,floor,objects,c0 :: hr0,tickets⟩ ⟨1,kind,name,0,text,hold⟩ nilObj false = now + 1 :=by simp [verI,hc]
        have hG:chG insI delI ⟨1,kind,name,0,text,hold⟩ (now + 1) nilObj = (⟨now + 1,false,⟨kind,name,now + 1,now + 1,text,false,[hold]⟩⟩:VC) :=by simp [chG,chO,goneO,nilObj,n1,n9,hh]
        have hB:bookI ⟨now,floor,objects,c0 :: hr0,tickets⟩ ⟨1,kind,name,0,text,hold⟩ nilObj false = ⟨now + 1,c0.version,putR ⟨kind,name,now + 1,now + 1,text,false,[hold]⟩ false objects,hr0 ++ [(⟨now + 1,false,⟨kind,name,now + 1,now + 1,text,false,[hold]⟩⟩:VC)],tickets⟩ :=by simp [bookI,hc,hG,bookC,show ¬ (hr0.length + 1 < 200) by simpa using hl2]
        have h90 :=k90 ⟨kind,name,now + 1,now + 1,text,false,[hold]⟩ (by simp only; first | omega | (simp; done) | (simp; omega))
        have h71 :=k71 ⟨kind,name,now + 1,now + 1,text,false,[hold]⟩
        have h94 :=k94 objects ⟨kind,name,now + 1,now + 1,text,false,[hold]⟩ hol
        have h95 :=k95 objects ⟨kind,name,now + 1,now + 1,text,false,[hold]⟩ hol
        simp only [VO.c,List.map_nil,List.map_cons,strC] at h90 h71 h94 h95
        rw [hc,hv,hB]
        simp only [rA,↓reduceIte,reduceCtorEq,N1,N2,N3,N4,N5,N6,N7,I1,I2,I3,I4,L1,e52,e77,e90,e71,e91,e92,e93,e94,e95,Tryz.f52,uf,ug,hwn,hol,hlh,LIM,h77,h90,h71,h94,h95,hlk,hl4,List.length_cons,hh,n2,n8,hl3]
  ·skip
   have hc:chC ⟨now,floor,objects,history,tickets⟩ ⟨op,kind,name,seen,text,hold⟩ nilObj false = 3 :=by simp [chC,hasF,o1]
   have hv:verI ⟨now,floor,objects,history,tickets⟩ ⟨op,kind,name,seen,text,hold⟩ nilObj false = 0 :=by simp [verI,hc]
   have hB:bookI ⟨now,floor,objects,history,tickets⟩ ⟨op,kind,name,seen,text,hold⟩ nilObj false = ⟨now,floor,objects,history,tickets⟩ :=by simp [bookI,hc]
   rw [hc,hv,hB]
   simp only [rA,↓reduceIte,reduceCtorEq,N1,N2,N3,N4,N5,N6,N7,I1,I2,I3,I4,L1,e52,e77,e90,e71,e91,e92,e93,e94,e95,Tryz.f52,uf,ug,hwn,hol,hlh,LIM,h77,o1]
 ·obtain ⟨ok,on,ov,ob,ot,oe,oh⟩ :=o
  have fb:bfind objects kind name = (⟨ok,on,ov,ob,ot,oe,oh⟩,true) :=by unfold bfind; rw [f1]
  rw [fb]
  rw [f4,Nat.zero_add] at h77
  have hohl:oh.length ≤ 4194000 :=by
   have :=sum_obj_le (List.mem_of_getElem? f2)
   simp only [VO.w,wSString] at this
   omega
  have hi1:i < objects.length :=(List.getElem?_eq_some_iff.1 f2).1
  have hi2:(i:Int) < (objects.length:Int) :=by omega
  have hi3:(0:Int) ≤ (i:Int) :=by omega
  have hr :=getElem?_map_some (f :=VO.c .own) f2
  have h90o :=k90 ⟨ok,on,ov,ob,ot,oe,oh⟩ (by simp only; omega)
  have h91 :=k91 oh hold (by omega)
  have hoh1:oh.length + 1 < 4294967296 :=by omega
  have h92 :=k92 oh hold (by omega)
  simp only [VO.c] at hr h90o
  simp only
  by_cases o1:op = 1
  ·have o2 :=o1
   subst o1
   have hc:chC ⟨now,floor,objects,history,tickets⟩ ⟨1,kind,name,seen,text,hold⟩ ⟨ok,on,ov,ob,ot,oe,oh⟩ true = 3 :=by simp [chC,hasF]
   have hv:verI ⟨now,floor,objects,history,tickets⟩ ⟨1,kind,name,seen,text,hold⟩ ⟨ok,on,ov,ob,ot,oe,oh⟩ true = 0 :=by simp [verI,hc]
   have hB:bookI ⟨now,floor,objects,history,tickets⟩ ⟨1,kind,name,seen,text,hold⟩ ⟨ok,on,ov,ob,ot,oe,oh⟩ true = ⟨now,floor,objects,history,tickets⟩ :=by simp [bookI,hc]
   rw [hc,hv,hB]
   simp only [rA,↓reduceIte,reduceCtorEq,N1,N2,N3,N4,N5,N6,N7,I1,I2,I3,I4,L1,e52,e77,e90,e71,e91,e92,e93,e94,e95,Tryz.f52,uf,ug,hwn,hol,hlh,LIM,h77,hi1,hi2,hi3,hr,h90o,h91,hoh1]
  ·by_cases s1:seen ≠ 0 ∧ seen ≠ ov
   ·obtain ⟨s1,s2⟩ :=s1
    have hc:chC ⟨now,floor,objects,history,tickets⟩ ⟨op,kind,name,seen,text,hold⟩ ⟨ok,on,ov,ob,ot,oe,oh⟩ true = 4 :=by simp [chC,hasF,o1,s1,s2]
    have hv:verI ⟨now,floor,objects,history,tickets⟩ ⟨op,kind,name,seen,text,hold⟩ ⟨ok,on,ov,ob,ot,oe,oh⟩ true = ov :=by simp [verI,hc]
    have hB:bookI ⟨now,floor,objects,history,tickets⟩ ⟨op,kind,name,seen,text,hold⟩ ⟨ok,on,ov,ob,ot,oe,oh⟩ true = ⟨now,floor,objects,history,tickets⟩ :=by simp [bookI,hc]
    rw [hc,hv,hB]
    simp only [rA,↓reduceIte,reduceCtorEq,N1,N2,N3,N4,N5,N6,N7,I1,I2,I3,I4,L1,e52,e77,e90,e71,e91,e92,e93,e94,e95,Tryz.f52,uf,ug,hwn,hol,hlh,LIM,h77,hi1,hi2,hi3,hr,h90o,h91,hoh1,o1,s1,s2]
   ·rcases (show (seen = 0 ∧ ¬ (0:Int) = 1) ∨ (seen = ov ∧ ¬ ov = 0) by omega) with ⟨s2,s3⟩ | ⟨s2,s3⟩
    all_goals
     rcases (show op = 2 ∨ op = 3 ∨ op = 4 ∨ op = 5 by omega) with rfl | rfl | rfl | rfl
     ·cases oe
      ·skip
       by_cases n8:now = 1000000
       ·subst n8
        have hc:chC ⟨1000000,floor,objects,history,tickets⟩ ⟨2,kind,name,seen,text,hold⟩ ⟨ok,on,ov,ob,ot,false,oh⟩ true = 8 :=by simp [chC,hasF,s2,s3]
        have hv:verI ⟨1000000,floor,objects,history,tickets⟩ ⟨2,kind,name,seen,text,hold⟩ ⟨ok,on,ov,ob,ot,false,oh⟩ true = 0 :=by simp [verI,hc]
        have hB:bookI ⟨1000000,floor,objects,history,tickets⟩ ⟨2,kind,name,seen,text,hold⟩ ⟨ok,on,ov,ob,ot,false,oh⟩ true = ⟨1000000,floor,objects,history,tickets⟩ :=by simp [bookI,hc]
        rw [hc,hv,hB]
        simp only [rA,↓reduceIte,reduceCtorEq,N1,N2,N3,N4,N5,N6,N7,I1,I2,I3,I4,L1,e52,e77,e90,e71,e91,e92,e93,e94,e95,Tryz.f52,uf,ug,hwn,hol,hlh,LIM,h77,hi1,hi2,hi3,hr,h90o,h91,hoh1,s2,s3]
       ·have n9:¬ 1000000 ≤ now :=by omega
        by_cases hl2:history.length < 200
        ·have hl3:¬ (200:Int) < (history.length:Int) + 1 :=by omega
         have hc:chC ⟨now,floor,objects,history,tickets⟩ ⟨2,kind,name,seen,text,hold⟩ ⟨ok,on,ov,ob,ot,false,oh⟩ true = 0 :=by simp [chC,hasF,s2,s3,n9]
         have hv:verI ⟨now,floor,objects,history,tickets⟩ ⟨2,kind,name,seen,text,hold⟩ ⟨ok,on,ov,ob,ot,false,oh⟩ true = now + 1 :=by simp [verI,hc]
         have hG:chG insI delI ⟨2,kind,name,seen,text,hold⟩ (now + 1) ⟨ok,on,ov,ob,ot,false,oh⟩ = (⟨now + 1,false,⟨ok,on,now + 1,ob,text,false,oh⟩⟩:VC) :=by simp [chG,chO,goneO,s2,s3,n9]
         have hB:bookI ⟨now,floor,objects,history,tickets⟩ ⟨2,kind,name,seen,text,hold⟩ ⟨ok,on,ov,ob,ot,false,oh⟩ true = ⟨now + 1,floor,putR ⟨ok,on,now + 1,ob,text,false,oh⟩ false objects,history ++ [(⟨now + 1,false,⟨ok,on,now + 1,ob,text,false,oh⟩⟩:VC)],tickets⟩ :=by simp [bookI,hc,hG,bookC,hl2]
         have h90 :=k90 ⟨ok,on,now + 1,ob,text,false,oh⟩ (by simp only; first | omega | (simp; done) | (simp; omega))
         have h71 :=k71 ⟨ok,on,now + 1,ob,text,false,oh⟩
         have h94 :=k94 objects ⟨ok,on,now + 1,ob,text,false,oh⟩ hol
         have h95 :=k95 objects ⟨ok,on,now + 1,ob,text,false,oh⟩ hol
         simp only [VO.c,List.map_nil,List.map_cons,strC] at h90 h71 h94 h95
         rw [hc,hv,hB]
         simp only [rA,↓reduceIte,reduceCtorEq,N1,N2,N3,N4,N5,N6,N7,I1,I2,I3,I4,L1,e52,e77,e90,e71,e91,e92,e93,e94,e95,Tryz.f52,uf,ug,hwn,hol,hlh,LIM,h77,h90,h71,h94,h95,hi1,hi2,hi3,hr,h90o,h91,hoh1,s2,s3,n8,hl3]
        ·cases history with
         | nil =>exact absurd (show 0 < 200 by omega) hl2
         | cons c0 hr0 =>
          have hlk:hr0.length + 1 + 1 < 4294967296 :=by simpa using hlh
          have hl3:(200:Int) < ((hr0.length + 1:Nat):Int) + 1 :=by simp only [List.length_cons] at hl2; omega
          have hl4:(200:Int) < (hr0.length:Int) + 1 + 1 :=by omega
          have hc:chC ⟨now,floor,objects,c0 :: hr0,tickets⟩ ⟨2,kind,name,seen,text,hold⟩ ⟨ok,on,ov,ob,ot,false,oh⟩ true = 0 :=by simp [chC,hasF,s2,s3,n9]
          have hv:verI ⟨now,floor,objects,c0 :: hr0,tickets⟩ ⟨2,kind,name,seen,text,hold⟩ ⟨ok,on,ov,ob,ot,false,oh⟩ true = now + 1 :=by simp [verI,hc]
          have hG:chG insI delI ⟨2,kind,name,seen,text,hold⟩ (now + 1) ⟨ok,on,ov,ob,ot,false,oh⟩ = (⟨now + 1,false,⟨ok,on,now + 1,ob,text,false,oh⟩⟩:VC) :=by simp [chG,chO,goneO,s2,s3,n9]
          have hB:bookI ⟨now,floor,objects,c0 :: hr0,tickets⟩ ⟨2,kind,name,seen,text,hold⟩ ⟨ok,on,ov,ob,ot,false,oh⟩ true = ⟨now + 1,c0.version,putR ⟨ok,on,now + 1,ob,text,false,oh⟩ false objects,hr0 ++ [(⟨now + 1,false,⟨ok,on,now + 1,ob,text,false,oh⟩⟩:VC)],tickets⟩ :=by simp [bookI,hc,hG,bookC,show ¬ (hr0.length + 1 < 200) by simpa using hl2]
          have h90 :=k90 ⟨ok,on,now + 1,ob,text,false,oh⟩ (by simp only; first | omega | (simp; done) | (simp; omega))
          have h71 :=k71 ⟨ok,on,now + 1,ob,text,false,oh⟩
          have h94 :=k94 objects ⟨ok,on,now + 1,ob,text,false,oh⟩ hol
          have h95 :=k95 objects ⟨ok,on,now + 1,ob,text,false,oh⟩ hol
          simp only [VO.c,List.map_nil,List.map_cons,strC] at h90 h71 h94 h95
          rw [hc,hv,hB]
          simp only [rA,↓reduceIte,reduceCtorEq,N1,N2,N3,N4,N5,N6,N7,I1,I2,I3,I4,L1,e52,e77,e90,e71,e91,e92,e93,e94,e95,Tryz.f52,uf,ug,hwn,hol,hlh,LIM,h77,h90,h71,h94,h95,hlk,hl4,List.length_cons,hi1,hi2,hi3,hr,h90o,h91,hoh1,s2,s3,n8,hl3]
      ·skip
       have hc:chC ⟨now,floor,objects,history,tickets⟩ ⟨2,kind,name,seen,text,hold⟩ ⟨ok,on,ov,ob,ot,true,oh⟩ true = 5 :=by simp [chC,hasF,s2,s3]
       have hv:verI ⟨now,floor,objects,history,tickets⟩ ⟨2,kind,name,seen,text,hold⟩ ⟨ok,on,ov,ob,ot,true,oh⟩ true = 0 :=by simp [verI,hc]
       have hB:bookI ⟨now,floor,objects,history,tickets⟩ ⟨2,kind,name,seen,text,hold⟩ ⟨ok,on,ov,ob,ot,true,oh⟩ true = ⟨now,floor,objects,history,tickets⟩ :=by simp [bookI,hc]
       rw [hc,hv,hB]
       simp only [rA,↓reduceIte,reduceCtorEq,N1,N2,N3,N4,N5,N6,N7,I1,I2,I3,I4,L1,e52,e77,e90,e71,e91,e92,e93,e94,e95,Tryz.f52,uf,ug,hwn,hol,hlh,LIM,h77,hi1,hi2,hi3,hr,h90o,h91,hoh1,s2,s3]
     ·cases oe
      ·skip
       by_cases hz:oh = []
       ·subst hz
        simp only [List.map_nil] at hr h90o h91
        by_cases n8:now = 1000000
        ·subst n8
         have hc:chC ⟨1000000,floor,objects,history,tickets⟩ ⟨3,kind,name,seen,text,hold⟩ ⟨ok,on,ov,ob,ot,false,[]⟩ true = 8 :=by simp [chC,hasF,s2,s3]
         have hv:verI ⟨1000000,floor,objects,history,tickets⟩ ⟨3,kind,name,seen,text,hold⟩ ⟨ok,on,ov,ob,ot,false,[]⟩ true = 0 :=by simp [verI,hc]
         have hB:bookI ⟨1000000,floor,objects,history,tickets⟩ ⟨3,kind,name,seen,text,hold⟩ ⟨ok,on,ov,ob,ot,false,[]⟩ true = ⟨1000000,floor,objects,history,tickets⟩ :=by simp [bookI,hc]
         rw [hc,hv,hB]
         simp only [rA,↓reduceIte,reduceCtorEq,N1,N2,N3,N4,N5,N6,N7,I1,I2,I3,I4,L1,e52,e77,e90,e71,e91,e92,e93,e94,e95,Tryz.f52,uf,ug,hwn,hol,hlh,LIM,h77,hi1,hi2,hi3,hr,h90o,h91,hoh1,s2,s3,List.length_nil,c0n]
        ·have n9:¬ 1000000 ≤ now :=by omega
         by_cases hl2:history.length < 200
         ·have hl3:¬ (200:Int) < (history.length:Int) + 1 :=by omega
          have hc:chC ⟨now,floor,objects,history,tickets⟩ ⟨3,kind,name,seen,text,hold⟩ ⟨ok,on,ov,ob,ot,false,[]⟩ true = 0 :=by simp [chC,hasF,s2,s3,n9]
          have hv:verI ⟨now,floor,objects,history,tickets⟩ ⟨3,kind,name,seen,text,hold⟩ ⟨ok,on,ov,ob,ot,false,[]⟩ true = now + 1 :=by simp [verI,hc]
          have hG:chG insI delI ⟨3,kind,name,seen,text,hold⟩ (now + 1) ⟨ok,on,ov,ob,ot,false,[]⟩ = (⟨now + 1,true,⟨ok,on,now + 1,ob,ot,true,[]⟩⟩:VC) :=by simp [chG,chO,goneO,s2,s3,n9]
          have hB:bookI ⟨now,floor,objects,history,tickets⟩ ⟨3,kind,name,seen,text,hold⟩ ⟨ok,on,ov,ob,ot,false,[]⟩ true = ⟨now + 1,floor,putR ⟨ok,on,now + 1,ob,ot,true,[]⟩ true objects,history ++ [(⟨now + 1,true,⟨ok,on,now + 1,ob,ot,true,[]⟩⟩:VC)],tickets⟩ :=by simp [bookI,hc,hG,bookC,hl2]
          have h90 :=k90 ⟨ok,on,now + 1,ob,ot,true,[]⟩ (by simp only; first | omega | (simp; done) | (simp; omega))
          have h71 :=k71 ⟨ok,on,now + 1,ob,ot,true,[]⟩
          have h94 :=k94 objects ⟨ok,on,now + 1,ob,ot,true,[]⟩ hol
          have h95 :=k95 objects ⟨ok,on,now + 1,ob,ot,true,[]⟩ hol
          simp only [VO.c,List.map_nil,List.map_cons,strC] at h90 h71 h94 h95
          rw [hc,hv,hB]
          simp only [rA,↓reduceIte,reduceCtorEq,N1,N2,N3,N4,N5,N6,N7,I1,I2,I3,I4,L1,e52,e77,e90,e71,e91,e92,e93,e94,e95,Tryz.f52,uf,ug,hwn,hol,hlh,LIM,h77,h90,h71,h94,h95,hi1,hi2,hi3,hr,h90o,h91,hoh1,s2,s3,List.length_nil,c0n,n8,hl3]
         ·cases history with
          | nil =>exact absurd (show 0 < 200 by omega) hl2
          | cons c0 hr0 =>
           have hlk:hr0.length + 1 + 1 < 4294967296 :=by simpa using hlh
           have hl3:(200:Int) < ((hr0.length + 1:Nat):Int) + 1 :=by simp only [List.length_cons] at hl2; omega
           have hl4:(200:Int) < (hr0.length:Int) + 1 + 1 :=by omega
           have hc:chC ⟨now,floor,objects,c0 :: hr0,tickets⟩ ⟨3,kind,name,seen,text,hold⟩ ⟨ok,on,ov,ob,ot,false,[]⟩ true = 0 :=by simp [chC,hasF,s2,s3,n9]
           have hv:verI ⟨now,floor,objects,c0 :: hr0,tickets⟩ ⟨3,kind,name,seen,text,hold⟩ ⟨ok,on,ov,ob,ot,false,[]⟩ true = now + 1 :=by simp [verI,hc]
           have hG:chG insI delI ⟨3,kind,name,seen,text,hold⟩ (now + 1) ⟨ok,on,ov,ob,ot,false,[]⟩ = (⟨now + 1,true,⟨ok,on,now + 1,ob,ot,true,[]⟩⟩:VC) :=by simp [chG,chO,goneO,s2,s3,n9]
           have hB:bookI ⟨now,floor,objects,c0 :: hr0,tickets⟩ ⟨3,kind,name,seen,text,hold⟩ ⟨ok,on,ov,ob,ot,false,[]⟩ true = ⟨now + 1,c0.version,putR ⟨ok,on,now + 1,ob,ot,true,[]⟩ true objects,hr0 ++ [(⟨now + 1,true,⟨ok,on,now + 1,ob,ot,true,[]⟩⟩:VC)],tickets⟩ :=by simp [bookI,hc,hG,bookC,show ¬ (hr0.length + 1 < 200) by simpa using hl2]
           have h90 :=k90 ⟨ok,on,now + 1,ob,ot,true,[]⟩ (by simp only; first | omega | (simp; done) | (simp; omega))
           have h71 :=k71 ⟨ok,on,now + 1,ob,ot,true,[]⟩
           have h94 :=k94 objects ⟨ok,on,now + 1,ob,ot,true,[]⟩ hol
           have h95 :=k95 objects ⟨ok,on,now + 1,ob,ot,true,[]⟩ hol
           simp only [VO.c,List.map_nil,List.map_cons,strC] at h90 h71 h94 h95
           rw [hc,hv,hB]
           simp only [rA,↓reduceIte,reduceCtorEq,N1,N2,N3,N4,N5,N6,N7,I1,I2,I3,I4,L1,e52,e77,e90,e71,e91,e92,e93,e94,e95,Tryz.f52,uf,ug,hwn,hol,hlh,LIM,h77,h90,h71,h94,h95,hlk,hl4,List.length_cons,hi1,hi2,hi3,hr,h90o,h91,hoh1,s2,s3,List.length_nil,c0n,n8,hl3]
       ·have hz2:¬ (oh.length:Int) = 0 :=by have :=List.length_pos_iff.2 hz; omega
        have hz3:¬ oh.length = 0 :=by omega
        by_cases n8:now = 1000000
        ·subst n8
         have hc:chC ⟨1000000,floor,objects,history,tickets⟩ ⟨3,kind,name,seen,text,hold⟩ ⟨ok,on,ov,ob,ot,false,oh⟩ true = 8 :=by simp [chC,hasF,s2,s3,hz,hz3]
         have hv:verI ⟨1000000,floor,objects,history,tickets⟩ ⟨3,kind,name,seen,text,hold⟩ ⟨ok,on,ov,ob,ot,false,oh⟩ true = 0 :=by simp [verI,hc]
         have hB:bookI ⟨1000000,floor,objects,history,tickets⟩ ⟨3,kind,name,seen,text,hold⟩ ⟨ok,on,ov,ob,ot,false,oh⟩ true = ⟨1000000,floor,objects,history,tickets⟩ :=by simp [bookI,hc]
         rw [hc,hv,hB]
         simp only [rA,↓reduceIte,reduceCtorEq,N1,N2,N3,N4,N5,N6,N7,I1,I2,I3,I4,L1,e52,e77,e90,e71,e91,e92,e93,e94,e95,Tryz.f52,uf,ug,hwn,hol,hlh,LIM,h77,hi1,hi2,hi3,hr,h90o,h91,hoh1,s2,s3,hz2]
        ·have n9:¬ 1000000 ≤ now :=by omega
         by_cases hl2:history.length < 200
         ·have hl3:¬ (200:Int) < (history.length:Int) + 1 :=by omega
          have hc:chC ⟨now,floor,objects,history,tickets⟩ ⟨3,kind,name,seen,text,hold⟩ ⟨ok,on,ov,ob,ot,false,oh⟩ true = 0 :=by simp [chC,hasF,s2,s3,hz,hz3,n9]
          have hv:verI ⟨now,floor,objects,history,tickets⟩ ⟨3,kind,name,seen,text,hold⟩ ⟨ok,on,ov,ob,ot,false,oh⟩ true = now + 1 :=by simp [verI,hc]
          have hG:chG insI delI ⟨3,kind,name,seen,text,hold⟩ (now + 1) ⟨ok,on,ov,ob,ot,false,oh⟩ = (⟨now + 1,false,⟨ok,on,now + 1,ob,ot,true,oh⟩⟩:VC) :=by simp [chG,chO,goneO,s2,s3,hz,hz3,n9]
          have hB:bookI ⟨now,floor,objects,history,tickets⟩ ⟨3,kind,name,seen,text,hold⟩ ⟨ok,on,ov,ob,ot,false,oh⟩ true = ⟨now + 1,floor,putR ⟨ok,on,now + 1,ob,ot,true,oh⟩ false objects,history ++ [(⟨now + 1,false,⟨ok,on,now + 1,ob,ot,true,oh⟩⟩:VC)],tickets⟩ :=by simp [bookI,hc,hG,bookC,hl2]
          have h90 :=k90 ⟨ok,on,now + 1,ob,ot,true,oh⟩ (by simp only; first | omega | (simp; done) | (simp; omega))
          have h71 :=k71 ⟨ok,on,now + 1,ob,ot,true,oh⟩
          have h94 :=k94 objects ⟨ok,on,now + 1,ob,ot,true,oh⟩ hol
          have h95 :=k95 objects ⟨ok,on,now + 1,ob,ot,true,oh⟩ hol
          simp only [VO.c,List.map_nil,List.map_cons,strC] at h90 h71 h94 h95
          rw [hc,hv,hB]
          simp only [rA,↓reduceIte,reduceCtorEq,N1,N2,N3,N4,N5,N6,N7,I1,I2,I3,I4,L1,e52,e77,e90,e71,e91,e92,e93,e94,e95,Tryz.f52,uf,ug,hwn,hol,hlh,LIM,h77,h90,h71,h94,h95,hi1,hi2,hi3,hr,h90o,h91,hoh1,s2,s3,hz2,n8,hl3]
         ·cases history with
          | nil =>exact absurd (show 0 < 200 by omega) hl2
          | cons c0 hr0 =>
           have hlk:hr0.length + 1 + 1 < 4294967296 :=by simpa using hlh
           have hl3:(200:Int) < ((hr0.length + 1:Nat):Int) + 1 :=by simp only [List.length_cons] at hl2; omega
           have hl4:(200:Int) < (hr0.length:Int) + 1 + 1 :=by omega
           have hc:chC ⟨now,floor,objects,c0 :: hr0,tickets⟩ ⟨3,kind,name,seen,text,hold⟩ ⟨ok,on,ov,ob,ot,false,oh⟩ true = 0 :=by simp [chC,hasF,s2,s3,hz,hz3,n9]
           have hv:verI ⟨now,floor,objects,c0 :: hr0,tickets⟩ ⟨3,kind,name,seen,text,hold⟩ ⟨ok,on,ov,ob,ot,false,oh⟩ true = now + 1 :=by simp [verI,hc]
           have hG:chG insI delI ⟨3,kind,name,seen,text,hold⟩ (now + 1) ⟨ok,on,ov,ob,ot,false,oh⟩ = (⟨now + 1,false,⟨ok,on,now + 1,ob,ot,true,oh⟩⟩:VC) :=by simp [chG,chO,goneO,s2,s3,hz,hz3,n9]
           have hB:bookI ⟨now,floor,objects,c0 :: hr0,tickets⟩ ⟨3,kind,name,seen,text,hold⟩ ⟨ok,on,ov,ob,ot,false,oh⟩ true = ⟨now + 1,c0.version,putR ⟨ok,on,now + 1,ob,ot,true,oh⟩ false objects,hr0 ++ [(⟨now + 1,false,⟨ok,on,now + 1,ob,ot,true,oh⟩⟩:VC)],tickets⟩ :=by simp [bookI,hc,hG,bookC,show ¬ (hr0.length + 1 < 200) by simpa using hl2]
           have h90 :=k90 ⟨ok,on,now + 1,ob,ot,true,oh⟩ (by simp only; first | omega | (simp; done) | (simp; omega))
           have h71 :=k71 ⟨ok,on,now + 1,ob,ot,true,oh⟩
           have h94 :=k94 objects ⟨ok,on,now + 1,ob,ot,true,oh⟩ hol
           have h95 :=k95 objects ⟨ok,on,now + 1,ob,ot,true,oh⟩ hol
           simp only [VO.c,List.map_nil,List.map_cons,strC] at h90 h71 h94 h95
           rw [hc,hv,hB]
           simp only [rA,↓reduceIte,reduceCtorEq,N1,N2,N3,N4,N5,N6,N7,I1,I2,I3,I4,L1,e52,e77,e90,e71,e91,e92,e93,e94,e95,Tryz.f52,uf,ug,hwn,hol,hlh,LIM,h77,h90,h71,h94,h95,hlk,hl4,List.length_cons,hi1,hi2,hi3,hr,h90o,h91,hoh1,s2,s3,hz2,n8,hl3]
      ·skip
       have hc:chC ⟨now,floor,objects,history,tickets⟩ ⟨3,kind,name,seen,text,hold⟩ ⟨ok,on,ov,ob,ot,true,oh⟩ true = 5 :=by simp [chC,hasF,s2,s3]
       have hv:verI ⟨now,floor,objects,history,tickets⟩ ⟨3,kind,name,seen,text,hold⟩ ⟨ok,on,ov,ob,ot,true,oh⟩ true = 0 :=by simp [verI,hc]
       have hB:bookI ⟨now,floor,objects,history,tickets⟩ ⟨3,kind,name,seen,text,hold⟩ ⟨ok,on,ov,ob,ot,true,oh⟩ true = ⟨now,floor,objects,history,tickets⟩ :=by simp [bookI,hc]
       rw [hc,hv,hB]
       simp only [rA,↓reduceIte,reduceCtorEq,N1,N2,N3,N4,N5,N6,N7,I1,I2,I3,I4,L1,e52,e77,e90,e71,e91,e92,e93,e94,e95,Tryz.f52,uf,ug,hwn,hol,hlh,LIM,h77,hi1,hi2,hi3,hr,h90o,h91,hoh1,s2,s3]
     ·cases oe
      ·skip
       rcases idxT_spec hold oh 0 with ⟨q1,q2⟩ | ⟨q1,q,q3,q2⟩
       ·by_cases n5:5 ≤ oh.length
        ·have n6:(5:Int) ≤ (oh.length:Int) :=by omega
         have hc:chC ⟨now,floor,objects,history,tickets⟩ ⟨4,kind,name,seen,text,hold⟩ ⟨ok,on,ov,ob,ot,false,oh⟩ true = 7 :=by simp [chC,hasF,s2,s3,q1,n5]
         have hv:verI ⟨now,floor,objects,history,tickets⟩ ⟨4,kind,name,seen,text,hold⟩ ⟨ok,on,ov,ob,ot,false,oh⟩ true = 0 :=by simp [verI,hc]
         have hB:bookI ⟨now,floor,objects,history,tickets⟩ ⟨4,kind,name,seen,text,hold⟩ ⟨ok,on,ov,ob,ot,false,oh⟩ true = ⟨now,floor,objects,history,tickets⟩ :=by simp [bookI,hc]
         rw [hc,hv,hB]
         simp only [rA,↓reduceIte,reduceCtorEq,N1,N2,N3,N4,N5,N6,N7,I1,I2,I3,I4,L1,e52,e77,e90,e71,e91,e92,e93,e94,e95,Tryz.f52,uf,ug,hwn,hol,hlh,LIM,h77,hi1,hi2,hi3,hr,h90o,h91,hoh1,s2,s3,q2,n6]
        ·have n6:¬ (5:Int) ≤ (oh.length:Int) :=by omega
         by_cases n8:now = 1000000
         ·subst n8
          have hc:chC ⟨1000000,floor,objects,history,tickets⟩ ⟨4,kind,name,seen,text,hold⟩ ⟨ok,on,ov,ob,ot,false,oh⟩ true = 8 :=by simp [chC,hasF,s2,s3,q1,n5]
          have hv:verI ⟨1000000,floor,objects,history,tickets⟩ ⟨4,kind,name,seen,text,hold⟩ ⟨ok,on,ov,ob,ot,false,oh⟩ true = 0 :=by simp [verI,hc]
          have hB:bookI ⟨1000000,floor,objects,history,tickets⟩ ⟨4,kind,name,seen,text,hold⟩ ⟨ok,on,ov,ob,ot,false,oh⟩ true = ⟨1000000,floor,objects,history,tickets⟩ :=by simp [bookI,hc]
          rw [hc,hv,hB]
          simp only [rA,↓reduceIte,reduceCtorEq,N1,N2,N3,N4,N5,N6,N7,I1,I2,I3,I4,L1,e52,e77,e90,e71,e91,e92,e93,e94,e95,Tryz.f52,uf,ug,hwn,hol,hlh,LIM,h77,hi1,hi2,hi3,hr,h90o,h91,hoh1,s2,s3,q2,n6,h92]
         ·have n9:¬ 1000000 ≤ now :=by omega
          by_cases hl2:history.length < 200
          ·have hl3:¬ (200:Int) < (history.length:Int) + 1 :=by omega
           have hc:chC ⟨now,floor,objects,history,tickets⟩ ⟨4,kind,name,seen,text,hold⟩ ⟨ok,on,ov,ob,ot,false,oh⟩ true = 0 :=by simp [chC,hasF,s2,s3,q1,n5,n9]
           have hv:verI ⟨now,floor,objects,history,tickets⟩ ⟨4,kind,name,seen,text,hold⟩ ⟨ok,on,ov,ob,ot,false,oh⟩ true = now + 1 :=by simp [verI,hc]
           have hG:chG insI delI ⟨4,kind,name,seen,text,hold⟩ (now + 1) ⟨ok,on,ov,ob,ot,false,oh⟩ = (⟨now + 1,false,⟨ok,on,now + 1,ob,ot,false,insI oh hold⟩⟩:VC) :=by simp [chG,chO,goneO,s2,s3,q1,n5,n9]
           have hB:bookI ⟨now,floor,objects,history,tickets⟩ ⟨4,kind,name,seen,text,hold⟩ ⟨ok,on,ov,ob,ot,false,oh⟩ true = ⟨now + 1,floor,putR ⟨ok,on,now + 1,ob,ot,false,insI oh hold⟩ false objects,history ++ [(⟨now + 1,false,⟨ok,on,now + 1,ob,ot,false,insI oh hold⟩⟩:VC)],tickets⟩ :=by simp [bookI,hc,hG,bookC,hl2]
           have h90 :=k90 ⟨ok,on,now + 1,ob,ot,false,insI oh hold⟩ (by simp only [insI,sortT_length,List.length_append,List.length_cons,List.length_nil]; first | omega | (simp; done) | (simp; omega))
           have h71 :=k71 ⟨ok,on,now + 1,ob,ot,false,insI oh hold⟩
           have h94 :=k94 objects ⟨ok,on,now + 1,ob,ot,false,insI oh hold⟩ hol
           have h95 :=k95 objects ⟨ok,on,now + 1,ob,ot,false,insI oh hold⟩ hol
           simp only [VO.c,List.map_nil,List.map_cons,strC] at h90 h71 h94 h95
           rw [hc,hv,hB]
           simp only [rA,↓reduceIte,reduceCtorEq,N1,N2,N3,N4,N5,N6,N7,I1,I2,I3,I4,L1,e52,e77,e90,e71,e91,e92,e93,e94,e95,Tryz.f52,uf,ug,hwn,hol,hlh,LIM,h77,h90,h71,h94,h95,hi1,hi2,hi3,hr,h90o,h91,hoh1,s2,s3,q2,n6,h92,n8,hl3]
          ·cases history with
           | nil =>exact absurd (show 0 < 200 by omega) hl2
           | cons c0 hr0 =>
            have hlk:hr0.length + 1 + 1 < 4294967296 :=by simpa using hlh
            have hl3:(200:Int) < ((hr0.length + 1:Nat):Int) + 1 :=by simp only [List.length_cons] at hl2; omega
            have hl4:(200:Int) < (hr0.length:Int) + 1 + 1 :=by omega
            have hc:chC ⟨now,floor,objects,c0 :: hr0,tickets⟩ ⟨4,kind,name,seen,text,hold⟩ ⟨ok,on,ov,ob,ot,false,oh⟩ true = 0 :=by simp [chC,hasF,s2,s3,q1,n5,n9]
            have hv:verI ⟨now,floor,objects,c0 :: hr0,tickets⟩ ⟨4,kind,name,seen,text,hold⟩ ⟨ok,on,ov,ob,ot,false,oh⟩ true = now + 1 :=by simp [verI,hc]
            have hG:chG insI delI ⟨4,kind,name,seen,text,hold⟩ (now + 1) ⟨ok,on,ov,ob,ot,false,oh⟩ = (⟨now + 1,false,⟨ok,on,now + 1,ob,ot,false,insI oh hold⟩⟩:VC) :=by simp [chG,chO,goneO,s2,s3,q1,n5,n9]
            have hB:bookI ⟨now,floor,objects,c0 :: hr0,tickets⟩ ⟨4,kind,name,seen,text,hold⟩ ⟨ok,on,ov,ob,ot,false,oh⟩ true = ⟨now + 1,c0.version,putR ⟨ok,on,now + 1,ob,ot,false,insI oh hold⟩ false objects,hr0 ++ [(⟨now + 1,false,⟨ok,on,now + 1,ob,ot,false,insI oh hold⟩⟩:VC)],tickets⟩ :=by simp [bookI,hc,hG,bookC,show ¬ (hr0.length + 1 < 200) by simpa using hl2]
            have h90 :=k90 ⟨ok,on,now + 1,ob,ot,false,insI oh hold⟩ (by simp only [insI,sortT_length,List.length_append,List.length_cons,List.length_nil]; first | omega | (simp; done) | (simp; omega))
            have h71 :=k71 ⟨ok,on,now + 1,ob,ot,false,insI oh hold⟩
            have h94 :=k94 objects ⟨ok,on,now + 1,ob,ot,false,insI oh hold⟩ hol
            have h95 :=k95 objects ⟨ok,on,now + 1,ob,ot,false,insI oh hold⟩ hol
            simp only [VO.c,List.map_nil,List.map_cons,strC] at h90 h71 h94 h95
            rw [hc,hv,hB]
            simp only [rA,↓reduceIte,reduceCtorEq,N1,N2,N3,N4,N5,N6,N7,I1,I2,I3,I4,L1,e52,e77,e90,e71,e91,e92,e93,e94,e95,Tryz.f52,uf,ug,hwn,hol,hlh,LIM,h77,h90,h71,h94,h95,hlk,hl4,List.length_cons,hi1,hi2,hi3,hr,h90o,h91,hoh1,s2,s3,q2,n6,h92,n8,hl3]
       ·rw [Nat.zero_add] at q2
        have q4:(0:Int) ≤ (q:Int) :=by omega
        have hc:chC ⟨now,floor,objects,history,tickets⟩ ⟨4,kind,name,seen,text,hold⟩ ⟨ok,on,ov,ob,ot,false,oh⟩ true = 6 :=by simp [chC,hasF,s2,s3,q1]
        have hv:verI ⟨now,floor,objects,history,tickets⟩ ⟨4,kind,name,seen,text,hold⟩ ⟨ok,on,ov,ob,ot,false,oh⟩ true = 0 :=by simp [verI,hc]
        have hB:bookI ⟨now,floor,objects,history,tickets⟩ ⟨4,kind,name,seen,text,hold⟩ ⟨ok,on,ov,ob,ot,false,oh⟩ true = ⟨now,floor,objects,history,tickets⟩ :=by simp [bookI,hc]
        rw [hc,hv,hB]
        simp only [rA,↓reduceIte,reduceCtorEq,N1,N2,N3,N4,N5,N6,N7,I1,I2,I3,I4,L1,e52,e77,e90,e71,e91,e92,e93,e94,e95,Tryz.f52,uf,ug,hwn,hol,hlh,LIM,h77,hi1,hi2,hi3,hr,h90o,h91,hoh1,s2,s3,q2,q4]
      ·skip
       have hc:chC ⟨now,floor,objects,history,tickets⟩ ⟨4,kind,name,seen,text,hold⟩ ⟨ok,on,ov,ob,ot,true,oh⟩ true = 5 :=by simp [chC,hasF,s2,s3]
       have hv:verI ⟨now,floor,objects,history,tickets⟩ ⟨4,kind,name,seen,text,hold⟩ ⟨ok,on,ov,ob,ot,true,oh⟩ true = 0 :=by simp [verI,hc]
       have hB:bookI ⟨now,floor,objects,history,tickets⟩ ⟨4,kind,name,seen,text,hold⟩ ⟨ok,on,ov,ob,ot,true,oh⟩ true = ⟨now,floor,objects,history,tickets⟩ :=by simp [bookI,hc]
       rw [hc,hv,hB]
       simp only [rA,↓reduceIte,reduceCtorEq,N1,N2,N3,N4,N5,N6,N7,I1,I2,I3,I4,L1,e52,e77,e90,e71,e91,e92,e93,e94,e95,Tryz.f52,uf,ug,hwn,hol,hlh,LIM,h77,hi1,hi2,hi3,hr,h90o,h91,hoh1,s2,s3]
     ·cases oe
      ·skip
       rcases idxT_spec hold oh 0 with ⟨q1,q2⟩ | ⟨q1,q,q3,q2⟩
       ·skip
        have hc:chC ⟨now,floor,objects,history,tickets⟩ ⟨5,kind,name,seen,text,hold⟩ ⟨ok,on,ov,ob,ot,false,oh⟩ true = 6 :=by simp [chC,hasF,s2,s3,q1]
        have hv:verI ⟨now,floor,objects,history,tickets⟩ ⟨5,kind,name,seen,text,hold⟩ ⟨ok,on,ov,ob,ot,false,oh⟩ true = 0 :=by simp [verI,hc]
        have hB:bookI ⟨now,floor,objects,history,tickets⟩ ⟨5,kind,name,seen,text,hold⟩ ⟨ok,on,ov,ob,ot,false,oh⟩ true = ⟨now,floor,objects,history,tickets⟩ :=by simp [bookI,hc]
        rw [hc,hv,hB]
        simp only [rA,↓reduceIte,reduceCtorEq,N1,N2,N3,N4,N5,N6,N7,I1,I2,I3,I4,L1,e52,e77,e90,e71,e91,e92,e93,e94,e95,Tryz.f52,uf,ug,hwn,hol,hlh,LIM,h77,hi1,hi2,hi3,hr,h90o,h91,hoh1,s2,s3,q2]
       ·rw [Nat.zero_add] at q2
        have q4:¬ ((q:Int) < 0) :=by omega
        have hwq :=wrap64 (n :=(q:Int) + 1) (by omega) (by omega)
        have h93 :=k93 oh hold q q3 q2
        have hdl:(delI oh hold).length ≤ 4194000 :=by simp only [delI,List.length_append,List.length_take,List.length_drop]; omega
        by_cases n8:now = 1000000
        ·subst n8
         have hc:chC ⟨1000000,floor,objects,history,tickets⟩ ⟨5,kind,name,seen,text,hold⟩ ⟨ok,on,ov,ob,ot,false,oh⟩ true = 8 :=by simp [chC,hasF,s2,s3,q1]
         have hv:verI ⟨1000000,floor,objects,history,tickets⟩ ⟨5,kind,name,seen,text,hold⟩ ⟨ok,on,ov,ob,ot,false,oh⟩ true = 0 :=by simp [verI,hc]
         have hB:bookI ⟨1000000,floor,objects,history,tickets⟩ ⟨5,kind,name,seen,text,hold⟩ ⟨ok,on,ov,ob,ot,false,oh⟩ true = ⟨1000000,floor,objects,history,tickets⟩ :=by simp [bookI,hc]
         rw [hc,hv,hB]
         simp only [rA,↓reduceIte,reduceCtorEq,N1,N2,N3,N4,N5,N6,N7,I1,I2,I3,I4,L1,e52,e77,e90,e71,e91,e92,e93,e94,e95,Tryz.f52,uf,ug,hwn,hol,hlh,LIM,h77,hi1,hi2,hi3,hr,h90o,h91,hoh1,s2,s3,q2,q4,hwq,h93]
        ·have n9:¬ 1000000 ≤ now :=by omega
         by_cases hl2:history.length < 200
         ·have hl3:¬ (200:Int) < (history.length:Int) + 1 :=by omega
          have hc:chC ⟨now,floor,objects,history,tickets⟩ ⟨5,kind,name,seen,text,hold⟩ ⟨ok,on,ov,ob,ot,false,oh⟩ true = 0 :=by simp [chC,hasF,s2,s3,q1,n9]
          have hv:verI ⟨now,floor,objects,history,tickets⟩ ⟨5,kind,name,seen,text,hold⟩ ⟨ok,on,ov,ob,ot,false,oh⟩ true = now + 1 :=by simp [verI,hc]
          have hG:chG insI delI ⟨5,kind,name,seen,text,hold⟩ (now + 1) ⟨ok,on,ov,ob,ot,false,oh⟩ = (⟨now + 1,false,⟨ok,on,now + 1,ob,ot,false,delI oh hold⟩⟩:VC) :=by simp [chG,chO,goneO,s2,s3,q1,n9]
          have hB:bookI ⟨now,floor,objects,history,tickets⟩ ⟨5,kind,name,seen,text,hold⟩ ⟨ok,on,ov,ob,ot,false,oh⟩ true = ⟨now + 1,floor,putR ⟨ok,on,now + 1,ob,ot,false,delI oh hold⟩ false objects,history ++ [(⟨now + 1,false,⟨ok,on,now + 1,ob,ot,false,delI oh hold⟩⟩:VC)],tickets⟩ :=by simp [bookI,hc,hG,bookC,hl2]
          have h90 :=k90 ⟨ok,on,now + 1,ob,ot,false,delI oh hold⟩ (by simp only; first | omega | (simp; done) | (simp; omega))
          have h71 :=k71 ⟨ok,on,now + 1,ob,ot,false,delI oh hold⟩
          have h94 :=k94 objects ⟨ok,on,now + 1,ob,ot,false,delI oh hold⟩ hol
          have h95 :=k95 objects ⟨ok,on,now + 1,ob,ot,false,delI oh hold⟩ hol
          simp only [VO.c,List.map_nil,List.map_cons,strC] at h90 h71 h94 h95
          rw [hc,hv,hB]
          simp only [rA,↓reduceIte,reduceCtorEq,N1,N2,N3,N4,N5,N6,N7,I1,I2,I3,I4,L1,e52,e77,e90,e71,e91,e92,e93,e94,e95,Tryz.f52,uf,ug,hwn,hol,hlh,LIM,h77,h90,h71,h94,h95,hi1,hi2,hi3,hr,h90o,h91,hoh1,s2,s3,q2,q4,hwq,h93,n8,hl3]
         ·cases history with
          | nil =>exact absurd (show 0 < 200 by omega) hl2
          | cons c0 hr0 =>
           have hlk:hr0.length + 1 + 1 < 4294967296 :=by simpa using hlh
           have hl3:(200:Int) < ((hr0.length + 1:Nat):Int) + 1 :=by simp only [List.length_cons] at hl2; omega
           have hl4:(200:Int) < (hr0.length:Int) + 1 + 1 :=by omega
           have hc:chC ⟨now,floor,objects,c0 :: hr0,tickets⟩ ⟨5,kind,name,seen,text,hold⟩ ⟨ok,on,ov,ob,ot,false,oh⟩ true = 0 :=by simp [chC,hasF,s2,s3,q1,n9]
           have hv:verI ⟨now,floor,objects,c0 :: hr0,tickets⟩ ⟨5,kind,name,seen,text,hold⟩ ⟨ok,on,ov,ob,ot,false,oh⟩ true = now + 1 :=by simp [verI,hc]
           have hG:chG insI delI ⟨5,kind,name,seen,text,hold⟩ (now + 1) ⟨ok,on,ov,ob,ot,false,oh⟩ = (⟨now + 1,false,⟨ok,on,now + 1,ob,ot,false,delI oh hold⟩⟩:VC) :=by simp [chG,chO,goneO,s2,s3,q1,n9]
           have hB:bookI ⟨now,floor,objects,c0 :: hr0,tickets⟩ ⟨5,kind,name,seen,text,hold⟩ ⟨ok,on,ov,ob,ot,false,oh⟩ true = ⟨now + 1,c0.version,putR ⟨ok,on,now + 1,ob,ot,false,delI oh hold⟩ false objects,hr0 ++ [(⟨now + 1,false,⟨ok,on,now + 1,ob,ot,false,delI oh hold⟩⟩:VC)],tickets⟩ :=by simp [bookI,hc,hG,bookC,show ¬ (hr0.length + 1 < 200) by simpa using hl2]
           have h90 :=k90 ⟨ok,on,now + 1,ob,ot,false,delI oh hold⟩ (by simp only; first | omega | (simp; done) | (simp; omega))
           have h71 :=k71 ⟨ok,on,now + 1,ob,ot,false,delI oh hold⟩
           have h94 :=k94 objects ⟨ok,on,now + 1,ob,ot,false,delI oh hold⟩ hol
           have h95 :=k95 objects ⟨ok,on,now + 1,ob,ot,false,delI oh hold⟩ hol
           simp only [VO.c,List.map_nil,List.map_cons,strC] at h90 h71 h94 h95
           rw [hc,hv,hB]
           simp only [rA,↓reduceIte,reduceCtorEq,N1,N2,N3,N4,N5,N6,N7,I1,I2,I3,I4,L1,e52,e77,e90,e71,e91,e92,e93,e94,e95,Tryz.f52,uf,ug,hwn,hol,hlh,LIM,h77,h90,h71,h94,h95,hlk,hl4,List.length_cons,hi1,hi2,hi3,hr,h90o,h91,hoh1,s2,s3,q2,q4,hwq,h93,n8,hl3]
      ·skip
       rcases idxT_spec hold oh 0 with ⟨q1,q2⟩ | ⟨q1,q,q3,q2⟩
       ·skip
        have hc:chC ⟨now,floor,objects,history,tickets⟩ ⟨5,kind,name,seen,text,hold⟩ ⟨ok,on,ov,ob,ot,true,oh⟩ true = 6 :=by simp [chC,hasF,s2,s3,q1]
        have hv:verI ⟨now,floor,objects,history,tickets⟩ ⟨5,kind,name,seen,text,hold⟩ ⟨ok,on,ov,ob,ot,true,oh⟩ true = 0 :=by simp [verI,hc]
        have hB:bookI ⟨now,floor,objects,history,tickets⟩ ⟨5,kind,name,seen,text,hold⟩ ⟨ok,on,ov,ob,ot,true,oh⟩ true = ⟨now,floor,objects,history,tickets⟩ :=by simp [bookI,hc]
        rw [hc,hv,hB]
        simp only [rA,↓reduceIte,reduceCtorEq,N1,N2,N3,N4,N5,N6,N7,I1,I2,I3,I4,L1,e52,e77,e90,e71,e91,e92,e93,e94,e95,Tryz.f52,uf,ug,hwn,hol,hlh,LIM,h77,hi1,hi2,hi3,hr,h90o,h91,hoh1,s2,s3,q2]
       ·rw [Nat.zero_add] at q2
        have q4:¬ ((q:Int) < 0) :=by omega
        have hwq :=wrap64 (n :=(q:Int) + 1) (by omega) (by omega)
        have h93 :=k93 oh hold q q3 q2
        have hdl:(delI oh hold).length ≤ 4194000 :=by simp only [delI,List.length_append,List.length_take,List.length_drop]; omega
        by_cases hz:(delI oh hold).length = 0
        ·have hz2:((delI oh hold).length:Int) = 0 :=by omega
         by_cases n8:now = 1000000
         ·subst n8
          have hc:chC ⟨1000000,floor,objects,history,tickets⟩ ⟨5,kind,name,seen,text,hold⟩ ⟨ok,on,ov,ob,ot,true,oh⟩ true = 8 :=by simp [chC,hasF,s2,s3,q1,hz]
          have hv:verI ⟨1000000,floor,objects,history,tickets⟩ ⟨5,kind,name,seen,text,hold⟩ ⟨ok,on,ov,ob,ot,true,oh⟩ true = 0 :=by simp [verI,hc]
          have hB:bookI ⟨1000000,floor,objects,history,tickets⟩ ⟨5,kind,name,seen,text,hold⟩ ⟨ok,on,ov,ob,ot,true,oh⟩ true = ⟨1000000,floor,objects,history,tickets⟩ :=by simp [bookI,hc]
          rw [hc,hv,hB]
          simp only [rA,↓reduceIte,reduceCtorEq,N1,N2,N3,N4,N5,N6,N7,I1,I2,I3,I4,L1,e52,e77,e90,e71,e91,e92,e93,e94,e95,Tryz.f52,uf,ug,hwn,hol,hlh,LIM,h77,hi1,hi2,hi3,hr,h90o,h91,hoh1,s2,s3,q2,q4,hwq,h93,hz2]
         ·have n9:¬ 1000000 ≤ now :=by omega
          by_cases hl2:history.length < 200
          ·have hl3:¬ (200:Int) < (history.length:Int) + 1 :=by omega
           have hc:chC ⟨now,floor,objects,history,tickets⟩ ⟨5,kind,name,seen,text,hold⟩ ⟨ok,on,ov,ob,ot,true,oh⟩ true = 0 :=by simp [chC,hasF,s2,s3,q1,hz,n9]
           have hv:verI ⟨now,floor,objects,history,tickets⟩ ⟨5,kind,name,seen,text,hold⟩ ⟨ok,on,ov,ob,ot,true,oh⟩ true = now + 1 :=by simp [verI,hc]
           have hG:chG insI delI ⟨5,kind,name,seen,text,hold⟩ (now + 1) ⟨ok,on,ov,ob,ot,true,oh⟩ = (⟨now + 1,true,⟨ok,on,now + 1,ob,ot,true,delI oh hold⟩⟩:VC) :=by simp [chG,chO,goneO,s2,s3,q1,hz,n9]
           have hB:bookI ⟨now,floor,objects,history,tickets⟩ ⟨5,kind,name,seen,text,hold⟩ ⟨ok,on,ov,ob,ot,true,oh⟩ true = ⟨now + 1,floor,putR ⟨ok,on,now + 1,ob,ot,true,delI oh hold⟩ true objects,history ++ [(⟨now + 1,true,⟨ok,on,now + 1,ob,ot,true,delI oh hold⟩⟩:VC)],tickets⟩ :=by simp [bookI,hc,hG,bookC,hl2]
           have h90 :=k90 ⟨ok,on,now + 1,ob,ot,true,delI oh hold⟩ (by simp only; first | omega | (simp; done) | (simp; omega))
           have h71 :=k71 ⟨ok,on,now + 1,ob,ot,true,delI oh hold⟩
           have h94 :=k94 objects ⟨ok,on,now + 1,ob,ot,true,delI oh hold⟩ hol
           have h95 :=k95 objects ⟨ok,on,now + 1,ob,ot,true,delI oh hold⟩ hol
           simp only [VO.c,List.map_nil,List.map_cons,strC] at h90 h71 h94 h95
           rw [hc,hv,hB]
           simp only [rA,↓reduceIte,reduceCtorEq,N1,N2,N3,N4,N5,N6,N7,I1,I2,I3,I4,L1,e52,e77,e90,e71,e91,e92,e93,e94,e95,Tryz.f52,uf,ug,hwn,hol,hlh,LIM,h77,h90,h71,h94,h95,hi1,hi2,hi3,hr,h90o,h91,hoh1,s2,s3,q2,q4,hwq,h93,hz2,n8,hl3]
          ·cases history with
           | nil =>exact absurd (show 0 < 200 by omega) hl2
           | cons c0 hr0 =>
            have hlk:hr0.length + 1 + 1 < 4294967296 :=by simpa using hlh
            have hl3:(200:Int) < ((hr0.length + 1:Nat):Int) + 1 :=by simp only [List.length_cons] at hl2; omega
            have hl4:(200:Int) < (hr0.length:Int) + 1 + 1 :=by omega
            have hc:chC ⟨now,floor,objects,c0 :: hr0,tickets⟩ ⟨5,kind,name,seen,text,hold⟩ ⟨ok,on,ov,ob,ot,true,oh⟩ true = 0 :=by simp [chC,hasF,s2,s3,q1,hz,n9]
            have hv:verI ⟨now,floor,objects,c0 :: hr0,tickets⟩ ⟨5,kind,name,seen,text,hold⟩ ⟨ok,on,ov,ob,ot,true,oh⟩ true = now + 1 :=by simp [verI,hc]
            have hG:chG insI delI ⟨5,kind,name,seen,text,hold⟩ (now + 1) ⟨ok,on,ov,ob,ot,true,oh⟩ = (⟨now + 1,true,⟨ok,on,now + 1,ob,ot,true,delI oh hold⟩⟩:VC) :=by simp [chG,chO,goneO,s2,s3,q1,hz,n9]
            have hB:bookI ⟨now,floor,objects,c0 :: hr0,tickets⟩ ⟨5,kind,name,seen,text,hold⟩ ⟨ok,on,ov,ob,ot,true,oh⟩ true = ⟨now + 1,c0.version,putR ⟨ok,on,now + 1,ob,ot,true,delI oh hold⟩ true objects,hr0 ++ [(⟨now + 1,true,⟨ok,on,now + 1,ob,ot,true,delI oh hold⟩⟩:VC)],tickets⟩ :=by simp [bookI,hc,hG,bookC,show ¬ (hr0.length + 1 < 200) by simpa using hl2]
            have h90 :=k90 ⟨ok,on,now + 1,ob,ot,true,delI oh hold⟩ (by simp only; first | omega | (simp; done) | (simp; omega))
            have h71 :=k71 ⟨ok,on,now + 1,ob,ot,true,delI oh hold⟩
            have h94 :=k94 objects ⟨ok,on,now + 1,ob,ot,true,delI oh hold⟩ hol
            have h95 :=k95 objects ⟨ok,on,now + 1,ob,ot,true,delI oh hold⟩ hol
            simp only [VO.c,List.map_nil,List.map_cons,strC] at h90 h71 h94 h95
            rw [hc,hv,hB]
            simp only [rA,↓reduceIte,reduceCtorEq,N1,N2,N3,N4,N5,N6,N7,I1,I2,I3,I4,L1,e52,e77,e90,e71,e91,e92,e93,e94,e95,Tryz.f52,uf,ug,hwn,hol,hlh,LIM,h77,h90,h71,h94,h95,hlk,hl4,List.length_cons,hi1,hi2,hi3,hr,h90o,h91,hoh1,s2,s3,q2,q4,hwq,h93,hz2,n8,hl3]
        ·have hz2:¬ ((delI oh hold).length:Int) = 0 :=by omega
         by_cases n8:now = 1000000
         ·subst n8
          have hc:chC ⟨1000000,floor,objects,history,tickets⟩ ⟨5,kind,name,seen,text,hold⟩ ⟨ok,on,ov,ob,ot,true,oh⟩ true = 8 :=by simp [chC,hasF,s2,s3,q1,hz]
          have hv:verI ⟨1000000,floor,objects,history,tickets⟩ ⟨5,kind,name,seen,text,hold⟩ ⟨ok,on,ov,ob,ot,true,oh⟩ true = 0 :=by simp [verI,hc]
          have hB:bookI ⟨1000000,floor,objects,history,tickets⟩ ⟨5,kind,name,seen,text,hold⟩ ⟨ok,on,ov,ob,ot,true,oh⟩ true = ⟨1000000,floor,objects,history,tickets⟩ :=by simp [bookI,hc]
          rw [hc,hv,hB]
          simp only [rA,↓reduceIte,reduceCtorEq,N1,N2,N3,N4,N5,N6,N7,I1,I2,I3,I4,L1,e52,e77,e90,e71,e91,e92,e93,e94,e95,Tryz.f52,uf,ug,hwn,hol,hlh,LIM,h77,hi1,hi2,hi3,hr,h90o,h91,hoh1,s2,s3,q2,q4,hwq,h93,hz2]
         ·have n9:¬ 1000000 ≤ now :=by omega
          by_cases hl2:history.length < 200
          ·have hl3:¬ (200:Int) < (history.length:Int) + 1 :=by omega
           have hc:chC ⟨now,floor,objects,history,tickets⟩ ⟨5,kind,name,seen,text,hold⟩ ⟨ok,on,ov,ob,ot,true,oh⟩ true = 0 :=by simp [chC,hasF,s2,s3,q1,hz,n9]
           have hv:verI ⟨now,floor,objects,history,tickets⟩ ⟨5,kind,name,seen,text,hold⟩ ⟨ok,on,ov,ob,ot,true,oh⟩ true = now + 1 :=by simp [verI,hc]
           have hG:chG insI delI ⟨5,kind,name,seen,text,hold⟩ (now + 1) ⟨ok,on,ov,ob,ot,true,oh⟩ = (⟨now + 1,false,⟨ok,on,now + 1,ob,ot,true,delI oh hold⟩⟩:VC) :=by simp [chG,chO,goneO,s2,s3,q1,hz,n9]
           have hB:bookI ⟨now,floor,objects,history,tickets⟩ ⟨5,kind,name,seen,text,hold⟩ ⟨ok,on,ov,ob,ot,true,oh⟩ true = ⟨now + 1,floor,putR ⟨ok,on,now + 1,ob,ot,true,delI oh hold⟩ false objects,history ++ [(⟨now + 1,false,⟨ok,on,now + 1,ob,ot,true,delI oh hold⟩⟩:VC)],tickets⟩ :=by simp [bookI,hc,hG,bookC,hl2]
           have h90 :=k90 ⟨ok,on,now + 1,ob,ot,true,delI oh hold⟩ (by simp only; first | omega | (simp; done) | (simp; omega))
           have h71 :=k71 ⟨ok,on,now + 1,ob,ot,true,delI oh hold⟩
           have h94 :=k94 objects ⟨ok,on,now + 1,ob,ot,true,delI oh hold⟩ hol
           have h95 :=k95 objects ⟨ok,on,now + 1,ob,ot,true,delI oh hold⟩ hol
           simp only [VO.c,List.map_nil,List.map_cons,strC] at h90 h71 h94 h95
           rw [hc,hv,hB]
           simp only [rA,↓reduceIte,reduceCtorEq,N1,N2,N3,N4,N5,N6,N7,I1,I2,I3,I4,L1,e52,e77,e90,e71,e91,e92,e93,e94,e95,Tryz.f52,uf,ug,hwn,hol,hlh,LIM,h77,h90,h71,h94,h95,hi1,hi2,hi3,hr,h90o,h91,hoh1,s2,s3,q2,q4,hwq,h93,hz2,n8,hl3]
          ·cases history with
           | nil =>exact absurd (show 0 < 200 by omega) hl2
           | cons c0 hr0 =>
            have hlk:hr0.length + 1 + 1 < 4294967296 :=by simpa using hlh
            have hl3:(200:Int) < ((hr0.length + 1:Nat):Int) + 1 :=by simp only [List.length_cons] at hl2; omega
            have hl4:(200:Int) < (hr0.length:Int) + 1 + 1 :=by omega
            have hc:chC ⟨now,floor,objects,c0 :: hr0,tickets⟩ ⟨5,kind,name,seen,text,hold⟩ ⟨ok,on,ov,ob,ot,true,oh⟩ true = 0 :=by simp [chC,hasF,s2,s3,q1,hz,n9]
            have hv:verI ⟨now,floor,objects,c0 :: hr0,tickets⟩ ⟨5,kind,name,seen,text,hold⟩ ⟨ok,on,ov,ob,ot,true,oh⟩ true = now + 1 :=by simp [verI,hc]
            have hG:chG insI delI ⟨5,kind,name,seen,text,hold⟩ (now + 1) ⟨ok,on,ov,ob,ot,true,oh⟩ = (⟨now + 1,false,⟨ok,on,now + 1,ob,ot,true,delI oh hold⟩⟩:VC) :=by simp [chG,chO,goneO,s2,s3,q1,hz,n9]
            have hB:bookI ⟨now,floor,objects,c0 :: hr0,tickets⟩ ⟨5,kind,name,seen,text,hold⟩ ⟨ok,on,ov,ob,ot,true,oh⟩ true = ⟨now + 1,c0.version,putR ⟨ok,on,now + 1,ob,ot,true,delI oh hold⟩ false objects,hr0 ++ [(⟨now + 1,false,⟨ok,on,now + 1,ob,ot,true,delI oh hold⟩⟩:VC)],tickets⟩ :=by simp [bookI,hc,hG,bookC,show ¬ (hr0.length + 1 < 200) by simpa using hl2]
            have h90 :=k90 ⟨ok,on,now + 1,ob,ot,true,delI oh hold⟩ (by simp only; first | omega | (simp; done) | (simp; omega))
            have h71 :=k71 ⟨ok,on,now + 1,ob,ot,true,delI oh hold⟩
            have h94 :=k94 objects ⟨ok,on,now + 1,ob,ot,true,delI oh hold⟩ hol
            have h95 :=k95 objects ⟨ok,on,now + 1,ob,ot,true,delI oh hold⟩ hol
            simp only [VO.c,List.map_nil,List.map_cons,strC] at h90 h71 h94 h95
            rw [hc,hv,hB]
            simp only [rA,↓reduceIte,reduceCtorEq,N1,N2,N3,N4,N5,N6,N7,I1,I2,I3,I4,L1,e52,e77,e90,e71,e91,e92,e93,e94,e95,Tryz.f52,uf,ug,hwn,hol,hlh,LIM,h77,h90,h71,h94,h95,hlk,hl4,List.length_cons,hi1,hi2,hi3,hr,h90o,h91,hoh1,s2,s3,q2,q4,hwq,h93,hz2,n8,hl3]
end Go.Proofs.YtfpconipgllkkaaGreat

