/- A write of the document: the change that it makes. -/
import Derived.Test.YtfpconipgllkkaaGreatMC
namespace Go.Proofs.YtfpconipgllkkaaGreat
open Go.Sx
open Nat renaming reduceEqDiff → N1,reduceAdd → N2,reduceSub → N3,reduceMul → N4,reduceLeDiff → N5,reduceBEq → N6,reduceLT → N7
open Int renaming reduceLT → I1,reduceNeg → I2,reduceLE → I3,reduceEq → I4
open List renaming reduceReplicate → L1
set_option maxRecDepth 100000
set_option maxHeartbeats 16000000
set_option linter.unusedVariables false
set_option linter.unusedSimpArgs false
theorem cnt_le (h:ByteArray):∀ l:List ByteArray,cntT h l ≤ l.length
 | [] =>Nat.le_refl _
 | x :: r =>by
  have :=cnt_le h r
  simp only [cntT,List.length_cons]
  split <;> omega
theorem cnt_in (h:ByteArray):∀ (l:List ByteArray) (j:Nat),j < cntT h l → ∃ x,l[j]? = some x ∧ Op.bytesLess x.toList h.toList = true
 | [],j,hj =>by simp [cntT] at hj
 | x :: r,j,hj =>by
  simp only [cntT] at hj
  split at hj
  ·rename_i d
   cases j with
   | zero =>exact ⟨x,rfl,d⟩
   | succ j =>simpa using cnt_in h r j (by omega)
  ·omega
theorem cnt_at (h:ByteArray):∀ l:List ByteArray,cntT h l = l.length ∨ ∃ x,l[cntT h l]? = some x ∧ Op.bytesLess x.toList h.toList = false
 | [] =>.inl rfl
 | x :: r =>by
  simp only [cntT]
  by_cases d:Op.bytesLess x.toList h.toList = true
  ·rw [if_pos d]
   rcases cnt_at h r with e | ⟨y,e,f⟩
   ·left; simp [e]
   ·right; exact ⟨y,by simpa using e,f⟩
  ·rw [if_neg d]
   right; exact ⟨x,rfl,by simpa using d⟩
theorem delS_snoc {l:List ByteArray} {i:Nat} {x:ByteArray} (h:ByteArray) (hi:l[i]? = some x):delS (l.take (i + 1)) h = if x = h then delS (l.take i) h else delS (l.take i) h ++ [x] :=by
 rw [take_snoc hi]
 unfold delS
 rw [List.filter_append]
 by_cases e:x = h <;> simp [e]
theorem delS_len (l:List ByteArray) (h:ByteArray) (i:Nat):(delS (l.take i) h).length ≤ l.length :=by
 unfold delS
 have :=List.length_filter_le (fun x =>!decide (x = h)) (l.take i)
 rw [List.length_take] at this
 omega
def nilChg:VC :=⟨0,false,nilObj⟩
def chS (b:VBook) (w:VW) (o:VO) (t:Bool):VC :=if chC b w o t = 0 then chG insS delS w (b.now + 1) o else nilChg
theorem k88 (b:VBook) (w:VW) (hw:b.w + w.w ≤ 4194000) (hb0:0 ≤ b.now) (hb1:b.now ≤ 1000000) (hwr:wrB w = true) :
  EV Tryz.prog E 88 [.val 0 true (b.c .shr),.val 0 true (VW.c w)] =
   some ⟨[(true,(chS b w (bfind b.objects w.kind w.name).1 (bfind b.objects w.kind w.name).2).c .own),(false,[.p (.int .i64 (chC b w (bfind b.objects w.kind w.name).1 (bfind b.objects w.kind w.name).2))])],[]⟩ :=by
 refine EV_intro Tryz.func88 rfl ?_
 obtain ⟨now,floor,objects,history,tickets⟩ :=b
 obtain ⟨op,kind,name,seen,text,hold⟩ :=w
 have h63 :=k63 ⟨now,floor,objects,history,tickets⟩ kind name (by omega)
 have hbw :=bfind_w ⟨now,floor,objects,history,tickets⟩ kind name
 have hohl:(bfind objects kind name).1.holds.length ≤ 4194000 :=by
  simp only [VO.w,wSString] at hbw
  omega
 simp only [VBook.w,wSBookObject,wSBookChange,VW.w] at hw
 have hwn :=wrap64 (n :=now + 1) (by simp only at hb0; omega) (by simp only at hb1; omega)
 simp only at hb0 hb1
 have w1:1 ≤ op ∧ op ≤ 5 :=by
  simp only [wrB,inR,Bool.and_eq_true,decide_eq_true_eq] at hwr
  omega
 have w2:op = 1 → seen = 0 :=by
  simp only [wrB,Bool.and_eq_true,Bool.or_eq_true,Bool.not_eq_true',decide_eq_true_eq,decide_eq_false_iff_not] at hwr
  omega
 have hnn:bfind objects kind name = (nilObj,false) ∨ ∃ o,bfind objects kind name = (o,true) :=by
  unfold bfind
  cases objects.find? (isKey kind name) with
  | none =>exact .inl rfl
  | some o =>exact .inr ⟨o,rfl⟩
 simp only at h63 hohl ⊢
 rcases hnn with fb | ⟨o,fb⟩
 ·rw [fb] at h63 ⊢
  simp only [VBook.c,VO.c,nilObj,List.map_nil] at h63
  simp only
  by_cases o1:op = 1
  ·subst o1
   have s0 :=w2 rfl
   subst s0
   by_cases hh:hold = ⟨#[]⟩
   ·by_cases n1:100 ≤ objects.length
    ·have n2:(100:Int) ≤ (objects.length:Int) :=by omega
     have hc:chC ⟨now,floor,objects,history,tickets⟩ ⟨1,kind,name,0,text,hold⟩ nilObj false = 7 :=by simp [chC,hasF,nilObj,n1]
     have hB:chS ⟨now,floor,objects,history,tickets⟩ ⟨1,kind,name,0,text,hold⟩ nilObj false = nilChg :=by rw [chS,if_neg (by rw [hc]; decide)]
     rw [hc,hB]
     simp only [rA,↓reduceIte,reduceCtorEq,N1,N2,N3,N4,N5,N6,N7,I1,I2,I3,I4,L1,e88,e63,e111,Tryz.f88,uf,nilChg,c0n,hwn,LIM,List.length_replicate,h63,hh,n2]
    ·have n2:¬ (100:Int) ≤ (objects.length:Int) :=by omega
     by_cases n8:1000000 ≤ now
     ·skip
      have hc:chC ⟨now,floor,objects,history,tickets⟩ ⟨1,kind,name,0,text,hold⟩ nilObj false = 8 :=by simp [chC,hasF,nilObj,n1,hh,n8]
      have hB:chS ⟨now,floor,objects,history,tickets⟩ ⟨1,kind,name,0,text,hold⟩ nilObj false = nilChg :=by rw [chS,if_neg (by rw [hc]; decide)]
      rw [hc,hB]
      simp only [rA,↓reduceIte,reduceCtorEq,N1,N2,N3,N4,N5,N6,N7,I1,I2,I3,I4,L1,e88,e63,e111,Tryz.f88,uf,nilChg,c0n,hwn,LIM,List.length_replicate,h63,hh,n2,n8]
     ·skip
      have hc:chC ⟨now,floor,objects,history,tickets⟩ ⟨1,kind,name,0,text,hold⟩ nilObj false = 0 :=by simp [chC,hasF,nilObj,n1,hh,n8]
      have hB:chS ⟨now,floor,objects,history,tickets⟩ ⟨1,kind,name,0,text,hold⟩ nilObj false = (⟨now + 1,false,⟨kind,name,now + 1,now + 1,text,false,[]⟩⟩:VC) :=by rw [chS,if_pos hc]; simp [chG,chO,goneO,nilObj,n1,hh,n8]
      rw [hc,hB]
      simp only [rA,↓reduceIte,reduceCtorEq,N1,N2,N3,N4,N5,N6,N7,I1,I2,I3,I4,L1,e88,e63,e111,Tryz.f88,uf,nilChg,c0n,hwn,LIM,List.length_replicate,h63,hh,n2,n8]
   ·by_cases n1:100 ≤ objects.length
    ·have n2:(100:Int) ≤ (objects.length:Int) :=by omega
     have hc:chC ⟨now,floor,objects,history,tickets⟩ ⟨1,kind,name,0,text,hold⟩ nilObj false = 7 :=by simp [chC,hasF,nilObj,n1]
     have hB:chS ⟨now,floor,objects,history,tickets⟩ ⟨1,kind,name,0,text,hold⟩ nilObj false = nilChg :=by rw [chS,if_neg (by rw [hc]; decide)]
     rw [hc,hB]
     simp only [rA,↓reduceIte,reduceCtorEq,N1,N2,N3,N4,N5,N6,N7,I1,I2,I3,I4,L1,e88,e63,e111,Tryz.f88,uf,nilChg,c0n,hwn,LIM,List.length_replicate,h63,hh,n2]
    ·have n2:¬ (100:Int) ≤ (objects.length:Int) :=by omega
     by_cases n8:1000000 ≤ now
     ·skip
      have hc:chC ⟨now,floor,objects,history,tickets⟩ ⟨1,kind,name,0,text,hold⟩ nilObj false = 8 :=by simp [chC,hasF,nilObj,n1,hh,n8]
      have hB:chS ⟨now,floor,objects,history,tickets⟩ ⟨1,kind,name,0,text,hold⟩ nilObj false = nilChg :=by rw [chS,if_neg (by rw [hc]; decide)]
      rw [hc,hB]
      simp only [rA,↓reduceIte,reduceCtorEq,N1,N2,N3,N4,N5,N6,N7,I1,I2,I3,I4,L1,e88,e63,e111,Tryz.f88,uf,nilChg,c0n,hwn,LIM,List.length_replicate,h63,hh,n2,n8]
     ·skip
      have hc:chC ⟨now,floor,objects,history,tickets⟩ ⟨1,kind,name,0,text,hold⟩ nilObj false = 0 :=by simp [chC,hasF,nilObj,n1,hh,n8]
      have hB:chS ⟨now,floor,objects,history,tickets⟩ ⟨1,kind,name,0,text,hold⟩ nilObj false = (⟨now + 1,false,⟨kind,name,now + 1,now + 1,text,false,[hold]⟩⟩:VC) :=by rw [chS,if_pos hc]; simp [chG,chO,goneO,nilObj,n1,hh,n8]
      rw [hc,hB]
      simp only [rA,↓reduceIte,reduceCtorEq,N1,N2,N3,N4,N5,N6,N7,I1,I2,I3,I4,L1,e88,e63,e111,Tryz.f88,uf,nilChg,c0n,hwn,LIM,List.length_replicate,h63,hh,n2,n8]
  ·skip
   have hc:chC ⟨now,floor,objects,history,tickets⟩ ⟨op,kind,name,seen,text,hold⟩ nilObj false = 3 :=by simp [chC,hasF,o1]
   have hB:chS ⟨now,floor,objects,history,tickets⟩ ⟨op,kind,name,seen,text,hold⟩ nilObj false = nilChg :=by rw [chS,if_neg (by rw [hc]; decide)]
   rw [hc,hB]
   simp only [rA,↓reduceIte,reduceCtorEq,N1,N2,N3,N4,N5,N6,N7,I1,I2,I3,I4,L1,e88,e63,e111,Tryz.f88,uf,nilChg,c0n,hwn,LIM,List.length_replicate,h63,o1]
 ·obtain ⟨ok,on,ov,ob,ot,oe,oh⟩ :=o
  rw [fb] at h63 hohl ⊢
  have h111 :=k111 oh hold (by simp only at hohl; omega)
  have hoh1:oh.length + 1 < 4294967296 :=by simp only at hohl; omega
  simp only [VBook.c,VO.c] at h63
  simp only at hohl ⊢
  by_cases o1:op = 1
  ·have o2 :=o1
   subst o1
   have hc:chC ⟨now,floor,objects,history,tickets⟩ ⟨1,kind,name,seen,text,hold⟩ ⟨ok,on,ov,ob,ot,oe,oh⟩ true = 3 :=by simp [chC,hasF]
   have hB:chS ⟨now,floor,objects,history,tickets⟩ ⟨1,kind,name,seen,text,hold⟩ ⟨ok,on,ov,ob,ot,oe,oh⟩ true = nilChg :=by rw [chS,if_neg (by rw [hc]; decide)]
   rw [hc,hB]
   simp only [rA,↓reduceIte,reduceCtorEq,N1,N2,N3,N4,N5,N6,N7,I1,I2,I3,I4,L1,e88,e63,e111,Tryz.f88,uf,nilChg,c0n,hwn,LIM,List.length_replicate,h63,h111]
  ·by_cases s1:seen ≠ 0 ∧ seen ≠ ov
   ·obtain ⟨s1,s2⟩ :=s1
    have hc:chC ⟨now,floor,objects,history,tickets⟩ ⟨op,kind,name,seen,text,hold⟩ ⟨ok,on,ov,ob,ot,oe,oh⟩ true = 4 :=by simp [chC,hasF,o1,s1,s2]
    have hB:chS ⟨now,floor,objects,history,tickets⟩ ⟨op,kind,name,seen,text,hold⟩ ⟨ok,on,ov,ob,ot,oe,oh⟩ true = nilChg :=by rw [chS,if_neg (by rw [hc]; decide)]
    rw [hc,hB]
    simp only [rA,↓reduceIte,reduceCtorEq,N1,N2,N3,N4,N5,N6,N7,I1,I2,I3,I4,L1,e88,e63,e111,Tryz.f88,uf,nilChg,c0n,hwn,LIM,List.length_replicate,h63,h111,o1,s1,s2]
   ·rcases (show (seen = 0 ∧ ¬ (0:Int) = 1) ∨ (seen = ov ∧ ¬ ov = 0) by omega) with ⟨s2,s3⟩ | ⟨s2,s3⟩
    all_goals
     rcases (show op = 2 ∨ op = 3 ∨ op = 4 ∨ op = 5 by omega) with rfl | rfl | rfl | rfl
     ·cases oe
      ·skip
       by_cases n8:1000000 ≤ now
       ·skip
        have hc:chC ⟨now,floor,objects,history,tickets⟩ ⟨2,kind,name,seen,text,hold⟩ ⟨ok,on,ov,ob,ot,false,oh⟩ true = 8 :=by simp [chC,hasF,s2,s3,n8]
        have hB:chS ⟨now,floor,objects,history,tickets⟩ ⟨2,kind,name,seen,text,hold⟩ ⟨ok,on,ov,ob,ot,false,oh⟩ true = nilChg :=by rw [chS,if_neg (by rw [hc]; decide)]
        rw [hc,hB]
        simp only [rA,↓reduceIte,reduceCtorEq,N1,N2,N3,N4,N5,N6,N7,I1,I2,I3,I4,L1,e88,e63,e111,Tryz.f88,uf,nilChg,c0n,hwn,LIM,List.length_replicate,h63,h111,s2,s3,n8]
       ·skip
        have hc:chC ⟨now,floor,objects,history,tickets⟩ ⟨2,kind,name,seen,text,hold⟩ ⟨ok,on,ov,ob,ot,false,oh⟩ true = 0 :=by simp [chC,hasF,s2,s3,n8]
        have hB:chS ⟨now,floor,objects,history,tickets⟩ ⟨2,kind,name,seen,text,hold⟩ ⟨ok,on,ov,ob,ot,false,oh⟩ true = (⟨now + 1,false,⟨ok,on,now + 1,ob,text,false,oh⟩⟩:VC) :=by rw [chS,if_pos hc]; simp [chG,chO,goneO,s2,s3,n8]
        rw [hc,hB]
        simp only [rA,↓reduceIte,reduceCtorEq,N1,N2,N3,N4,N5,N6,N7,I1,I2,I3,I4,L1,e88,e63,e111,Tryz.f88,uf,nilChg,c0n,hwn,LIM,List.length_replicate,h63,h111,s2,s3,n8]
      ·skip
       have hc:chC ⟨now,floor,objects,history,tickets⟩ ⟨2,kind,name,seen,text,hold⟩ ⟨ok,on,ov,ob,ot,true,oh⟩ true = 5 :=by simp [chC,hasF,s2,s3]
       have hB:chS ⟨now,floor,objects,history,tickets⟩ ⟨2,kind,name,seen,text,hold⟩ ⟨ok,on,ov,ob,ot,true,oh⟩ true = nilChg :=by rw [chS,if_neg (by rw [hc]; decide)]
       rw [hc,hB]
       simp only [rA,↓reduceIte,reduceCtorEq,N1,N2,N3,N4,N5,N6,N7,I1,I2,I3,I4,L1,e88,e63,e111,Tryz.f88,uf,nilChg,c0n,hwn,LIM,List.length_replicate,h63,h111,s2,s3]
     ·cases oe
      ·skip
       by_cases hz3:oh.length = 0
       ·have hz2:(oh.length:Int) = 0 :=by omega
        by_cases n8:1000000 ≤ now
        ·skip
         have hc:chC ⟨now,floor,objects,history,tickets⟩ ⟨3,kind,name,seen,text,hold⟩ ⟨ok,on,ov,ob,ot,false,oh⟩ true = 8 :=by simp [chC,hasF,s2,s3,hz3,n8]
         have hB:chS ⟨now,floor,objects,history,tickets⟩ ⟨3,kind,name,seen,text,hold⟩ ⟨ok,on,ov,ob,ot,false,oh⟩ true = nilChg :=by rw [chS,if_neg (by rw [hc]; decide)]
         rw [hc,hB]
         simp only [rA,↓reduceIte,reduceCtorEq,N1,N2,N3,N4,N5,N6,N7,I1,I2,I3,I4,L1,e88,e63,e111,Tryz.f88,uf,nilChg,c0n,hwn,LIM,List.length_replicate,h63,h111,s2,s3,hz2,n8]
        ·skip
         have hc:chC ⟨now,floor,objects,history,tickets⟩ ⟨3,kind,name,seen,text,hold⟩ ⟨ok,on,ov,ob,ot,false,oh⟩ true = 0 :=by simp [chC,hasF,s2,s3,hz3,n8]
         have hB:chS ⟨now,floor,objects,history,tickets⟩ ⟨3,kind,name,seen,text,hold⟩ ⟨ok,on,ov,ob,ot,false,oh⟩ true = (⟨now + 1,true,⟨ok,on,now + 1,ob,ot,true,oh⟩⟩:VC) :=by rw [chS,if_pos hc]; simp [chG,chO,goneO,s2,s3,hz3,n8]
         rw [hc,hB]
         simp only [rA,↓reduceIte,reduceCtorEq,N1,N2,N3,N4,N5,N6,N7,I1,I2,I3,I4,L1,e88,e63,e111,Tryz.f88,uf,nilChg,c0n,hwn,LIM,List.length_replicate,h63,h111,s2,s3,hz2,n8]
       ·have hz2:¬ (oh.length:Int) = 0 :=by omega
        by_cases n8:1000000 ≤ now
        ·skip
         have hc:chC ⟨now,floor,objects,history,tickets⟩ ⟨3,kind,name,seen,text,hold⟩ ⟨ok,on,ov,ob,ot,false,oh⟩ true = 8 :=by simp [chC,hasF,s2,s3,hz3,n8]
         have hB:chS ⟨now,floor,objects,history,tickets⟩ ⟨3,kind,name,seen,text,hold⟩ ⟨ok,on,ov,ob,ot,false,oh⟩ true = nilChg :=by rw [chS,if_neg (by rw [hc]; decide)]
         rw [hc,hB]
         simp only [rA,↓reduceIte,reduceCtorEq,N1,N2,N3,N4,N5,N6,N7,I1,I2,I3,I4,L1,e88,e63,e111,Tryz.f88,uf,nilChg,c0n,hwn,LIM,List.length_replicate,h63,h111,s2,s3,hz2,n8]
        ·skip
         have hc:chC ⟨now,floor,objects,history,tickets⟩ ⟨3,kind,name,seen,text,hold⟩ ⟨ok,on,ov,ob,ot,false,oh⟩ true = 0 :=by simp [chC,hasF,s2,s3,hz3,n8]
         have hB:chS ⟨now,floor,objects,history,tickets⟩ ⟨3,kind,name,seen,text,hold⟩ ⟨ok,on,ov,ob,ot,false,oh⟩ true = (⟨now + 1,false,⟨ok,on,now + 1,ob,ot,true,oh⟩⟩:VC) :=by rw [chS,if_pos hc]; simp [chG,chO,goneO,s2,s3,hz3,n8]
         rw [hc,hB]
         simp only [rA,↓reduceIte,reduceCtorEq,N1,N2,N3,N4,N5,N6,N7,I1,I2,I3,I4,L1,e88,e63,e111,Tryz.f88,uf,nilChg,c0n,hwn,LIM,List.length_replicate,h63,h111,s2,s3,hz2,n8]
      ·skip
       have hc:chC ⟨now,floor,objects,history,tickets⟩ ⟨3,kind,name,seen,text,hold⟩ ⟨ok,on,ov,ob,ot,true,oh⟩ true = 5 :=by simp [chC,hasF,s2,s3]
       have hB:chS ⟨now,floor,objects,history,tickets⟩ ⟨3,kind,name,seen,text,hold⟩ ⟨ok,on,ov,ob,ot,true,oh⟩ true = nilChg :=by rw [chS,if_neg (by rw [hc]; decide)]
       rw [hc,hB]
       simp only [rA,↓reduceIte,reduceCtorEq,N1,N2,N3,N4,N5,N6,N7,I1,I2,I3,I4,L1,e88,e63,e111,Tryz.f88,uf,nilChg,c0n,hwn,LIM,List.length_replicate,h63,h111,s2,s3]
     ·cases oe
      ·skip
       cases q1:hasF hold oh
       ·rw [q1] at h111
        by_cases n5:5 ≤ oh.length
        ·have n6:(5:Int) ≤ (oh.length:Int) :=by omega
         have hc:chC ⟨now,floor,objects,history,tickets⟩ ⟨4,kind,name,seen,text,hold⟩ ⟨ok,on,ov,ob,ot,false,oh⟩ true = 7 :=by simp [chC,hasF,s2,s3,q1,n5]
         have hB:chS ⟨now,floor,objects,history,tickets⟩ ⟨4,kind,name,seen,text,hold⟩ ⟨ok,on,ov,ob,ot,false,oh⟩ true = nilChg :=by rw [chS,if_neg (by rw [hc]; decide)]
         rw [hc,hB]
         simp only [rA,↓reduceIte,reduceCtorEq,N1,N2,N3,N4,N5,N6,N7,I1,I2,I3,I4,L1,e88,e63,e111,Tryz.f88,uf,nilChg,c0n,hwn,LIM,List.length_replicate,h63,h111,s2,s3,n6]
        ·have n6:¬ (5:Int) ≤ (oh.length:Int) :=by omega
         have hcl :=cnt_le hold oh
         have k0:(0:Int) ≤ ((cntT hold oh:Nat):Int) :=by omega
         have kz:0 + (cntT hold oh) = cntT hold oh :=Nat.zero_add _
         have hlA:0 + min (cntT hold oh) oh.length < 4294967296 :=by omega
         have hlA2:min (cntT hold oh) oh.length < 4294967296 :=by omega
         have hlE:cntT hold oh ≤ oh.length :=hcl
         have hTD:List.take (oh.length - cntT hold oh) (List.drop (cntT hold oh) oh) = List.drop (cntT hold oh) oh :=List.take_of_length_le (by simp)
         have hlB:min (cntT hold oh) oh.length + 1 < 4294967296 :=by omega
         have hlC:min (cntT hold oh) oh.length + 1 + (oh.length - cntT hold oh) < 4294967296 :=by omega
         have hlD:cntT hold oh + (oh.length - cntT hold oh) ≤ oh.length :=by omega
         by_cases n8:1000000 ≤ now
         ·skip
          have hc:chC ⟨now,floor,objects,history,tickets⟩ ⟨4,kind,name,seen,text,hold⟩ ⟨ok,on,ov,ob,ot,false,oh⟩ true = 8 :=by simp [chC,hasF,s2,s3,q1,n5,n8]
          have hB:chS ⟨now,floor,objects,history,tickets⟩ ⟨4,kind,name,seen,text,hold⟩ ⟨ok,on,ov,ob,ot,false,oh⟩ true = nilChg :=by rw [chS,if_neg (by rw [hc]; decide)]
          rw [hc,hB]
          simp only [rA,↓reduceIte,reduceCtorEq,N1,N2,N3,N4,N5,N6,N7,I1,I2,I3,I4,L1,e88,e63,e111,Tryz.f88,uf,nilChg,c0n,hwn,LIM,List.length_replicate,h63,h111,s2,s3,n6,n8]
          rw [while_block (fun j:Nat =>⟨7,[(2,.box 0 0 (VBook.c .shr ⟨now,floor,objects,history,tickets⟩)),(3,.box 1 1 (VW.c ⟨4,kind,name,seen,text,hold⟩)),(4,.box 2 2 (nilChg.c .own)),(6,.box 3 3 (VO.c .own ⟨ok,on,ov,ob,ot,false,oh⟩)),(8,.val 4 false [.p (.int .i64 (now + 1))]),(9,.box 5 5 (VC.c .own ⟨now + 1,false,nilObj⟩)),(10,.val 6 false [.p (.int .i64 (j:Int))])]⟩) (fun j =>j ≤ cntT hold oh) (fun _ =>.norm ⟨7,[(2,.box 0 0 (VBook.c .shr ⟨now,floor,objects,history,tickets⟩)),(3,.box 1 1 (VW.c ⟨4,kind,name,seen,text,hold⟩)),(4,.box 2 2 (nilChg.c .own)),(6,.box 3 3 (VO.c .own ⟨ok,on,ov,ob,ot,false,oh⟩)),(8,.val 4 false [.p (.int .i64 (now + 1))]),(9,.box 5 5 (VC.c .own ⟨now + 1,false,nilObj⟩)),(10,.val 6 false [.p (.int .i64 (cntT hold oh:Nat))])]⟩) (fun j =>oh.length - j) ?_ (i :=0) (Nat.zero_le _) (by simp only [rA,↓reduceIte,reduceCtorEq,N1,N2,N3,N4,N5,N6,N7,I1,I2,I3,I4,L1,e88,e63,e111,Tryz.f88,uf,nilChg,c0n,hwn,LIM,List.length_replicate,s2,s3])]
          ·simp only [rA,↓reduceIte,reduceCtorEq,N1,N2,N3,N4,N5,N6,N7,I1,I2,I3,I4,L1,e88,e63,e111,Tryz.f88,uf,nilChg,c0n,hwn,LIM,List.length_replicate,s2,s3,List.map_append,hoh1,Nat.zero_le,Nat.sub_zero,List.drop_zero,Nat.le_refl,k0,kz,hcl,insS,← List.map_take,← List.map_drop,hlA2,hlE,hTD,Nat.zero_add,List.length_cons,Int.toNat_natCast,List.length_append,List.length_take,List.length_drop,hlA,hlB,hlC,hlD,n8]
          ·intro j hj
           have hcl :=cnt_le hold oh
           have hj0:(0:Int) ≤ (j:Int) :=by omega
           by_cases e:j = cntT hold oh
           ·right
            subst e
            rcases cnt_at hold oh with q | ⟨x,q,q2⟩
            ·have q3:¬ ((cntT hold oh:Nat):Int) < (oh.length:Int) :=by omega
             simp only [rA,↓reduceIte,reduceCtorEq,N1,N2,N3,N4,N5,N6,N7,I1,I2,I3,I4,L1,e88,e63,e111,Tryz.f88,uf,nilChg,c0n,hwn,LIM,List.length_replicate,s2,s3,q3]
            ·have q3:((cntT hold oh:Nat):Int) < (oh.length:Int) :=by have :=(List.getElem?_eq_some_iff.1 q).1; omega
             have q4:cntT hold oh < oh.length :=by omega
             have hr :=getElem?_map_some (f :=strC) q
             simp only [strC] at hr
             simp only [rA,↓reduceIte,reduceCtorEq,N1,N2,N3,N4,N5,N6,N7,I1,I2,I3,I4,L1,e88,e63,e111,Tryz.f88,uf,nilChg,c0n,hwn,LIM,List.length_replicate,s2,s3,q3,q4,hj0,hr,q2]
           ·left
            obtain ⟨x,q,q2⟩ :=cnt_in hold oh j (by omega)
            have q4 :=(List.getElem?_eq_some_iff.1 q).1
            have q3:(j:Int) < (oh.length:Int) :=by omega
            have hr :=getElem?_map_some (f :=strC) q
            simp only [strC] at hr
            have hwj :=wrap64 (n :=(j:Int) + 1) (by omega) (by omega)
            refine ⟨j + 1,?_,by omega,by omega,rfl⟩
            simp only [rA,↓reduceIte,reduceCtorEq,N1,N2,N3,N4,N5,N6,N7,I1,I2,I3,I4,L1,e88,e63,e111,Tryz.f88,uf,nilChg,c0n,hwn,LIM,List.length_replicate,s2,s3,q3,q4,hj0,hr,q2,hwj,i64c]
         ·skip
          have hc:chC ⟨now,floor,objects,history,tickets⟩ ⟨4,kind,name,seen,text,hold⟩ ⟨ok,on,ov,ob,ot,false,oh⟩ true = 0 :=by simp [chC,hasF,s2,s3,q1,n5,n8]
          have hB:chS ⟨now,floor,objects,history,tickets⟩ ⟨4,kind,name,seen,text,hold⟩ ⟨ok,on,ov,ob,ot,false,oh⟩ true = (⟨now + 1,false,⟨ok,on,now + 1,ob,ot,false,insS oh hold⟩⟩:VC) :=by rw [chS,if_pos hc]; simp [chG,chO,goneO,s2,s3,q1,n5,n8]
          rw [hc,hB]
          simp only [rA,↓reduceIte,reduceCtorEq,N1,N2,N3,N4,N5,N6,N7,I1,I2,I3,I4,L1,e88,e63,e111,Tryz.f88,uf,nilChg,c0n,hwn,LIM,List.length_replicate,h63,h111,s2,s3,n6,n8]
          rw [while_block (fun j:Nat =>⟨7,[(2,.box 0 0 (VBook.c .shr ⟨now,floor,objects,history,tickets⟩)),(3,.box 1 1 (VW.c ⟨4,kind,name,seen,text,hold⟩)),(4,.box 2 2 (nilChg.c .own)),(6,.box 3 3 (VO.c .own ⟨ok,on,ov,ob,ot,false,oh⟩)),(8,.val 4 false [.p (.int .i64 (now + 1))]),(9,.box 5 5 (VC.c .own ⟨now + 1,false,nilObj⟩)),(10,.val 6 false [.p (.int .i64 (j:Int))])]⟩) (fun j =>j ≤ cntT hold oh) (fun _ =>.norm ⟨7,[(2,.box 0 0 (VBook.c .shr ⟨now,floor,objects,history,tickets⟩)),(3,.box 1 1 (VW.c ⟨4,kind,name,seen,text,hold⟩)),(4,.box 2 2 (nilChg.c .own)),(6,.box 3 3 (VO.c .own ⟨ok,on,ov,ob,ot,false,oh⟩)),(8,.val 4 false [.p (.int .i64 (now + 1))]),(9,.box 5 5 (VC.c .own ⟨now + 1,false,nilObj⟩)),(10,.val 6 false [.p (.int .i64 (cntT hold oh:Nat))])]⟩) (fun j =>oh.length - j) ?_ (i :=0) (Nat.zero_le _) (by simp only [rA,↓reduceIte,reduceCtorEq,N1,N2,N3,N4,N5,N6,N7,I1,I2,I3,I4,L1,e88,e63,e111,Tryz.f88,uf,nilChg,c0n,hwn,LIM,List.length_replicate,s2,s3])]
          ·simp only [rA,↓reduceIte,reduceCtorEq,N1,N2,N3,N4,N5,N6,N7,I1,I2,I3,I4,L1,e88,e63,e111,Tryz.f88,uf,nilChg,c0n,hwn,LIM,List.length_replicate,s2,s3,List.map_append,hoh1,Nat.zero_le,Nat.sub_zero,List.drop_zero,Nat.le_refl,k0,kz,hcl,insS,← List.map_take,← List.map_drop,hlA2,hlE,hTD,Nat.zero_add,List.length_cons,Int.toNat_natCast,List.length_append,List.length_take,List.length_drop,hlA,hlB,hlC,hlD,n8]
          ·intro j hj
           have hcl :=cnt_le hold oh
           have hj0:(0:Int) ≤ (j:Int) :=by omega
           by_cases e:j = cntT hold oh
           ·right
            subst e
            rcases cnt_at hold oh with q | ⟨x,q,q2⟩
            ·have q3:¬ ((cntT hold oh:Nat):Int) < (oh.length:Int) :=by omega
             simp only [rA,↓reduceIte,reduceCtorEq,N1,N2,N3,N4,N5,N6,N7,I1,I2,I3,I4,L1,e88,e63,e111,Tryz.f88,uf,nilChg,c0n,hwn,LIM,List.length_replicate,s2,s3,q3]
            ·have q3:((cntT hold oh:Nat):Int) < (oh.length:Int) :=by have :=(List.getElem?_eq_some_iff.1 q).1; omega
             have q4:cntT hold oh < oh.length :=by omega
             have hr :=getElem?_map_some (f :=strC) q
             simp only [strC] at hr
             simp only [rA,↓reduceIte,reduceCtorEq,N1,N2,N3,N4,N5,N6,N7,I1,I2,I3,I4,L1,e88,e63,e111,Tryz.f88,uf,nilChg,c0n,hwn,LIM,List.length_replicate,s2,s3,q3,q4,hj0,hr,q2]
           ·left
            obtain ⟨x,q,q2⟩ :=cnt_in hold oh j (by omega)
            have q4 :=(List.getElem?_eq_some_iff.1 q).1
            have q3:(j:Int) < (oh.length:Int) :=by omega
            have hr :=getElem?_map_some (f :=strC) q
            simp only [strC] at hr
            have hwj :=wrap64 (n :=(j:Int) + 1) (by omega) (by omega)
            refine ⟨j + 1,?_,by omega,by omega,rfl⟩
            simp only [rA,↓reduceIte,reduceCtorEq,N1,N2,N3,N4,N5,N6,N7,I1,I2,I3,I4,L1,e88,e63,e111,Tryz.f88,uf,nilChg,c0n,hwn,LIM,List.length_replicate,s2,s3,q3,q4,hj0,hr,q2,hwj,i64c]
       ·rw [q1] at h111
        have hc:chC ⟨now,floor,objects,history,tickets⟩ ⟨4,kind,name,seen,text,hold⟩ ⟨ok,on,ov,ob,ot,false,oh⟩ true = 6 :=by simp [chC,hasF,s2,s3,q1]
        have hB:chS ⟨now,floor,objects,history,tickets⟩ ⟨4,kind,name,seen,text,hold⟩ ⟨ok,on,ov,ob,ot,false,oh⟩ true = nilChg :=by rw [chS,if_neg (by rw [hc]; decide)]
        rw [hc,hB]
        simp only [rA,↓reduceIte,reduceCtorEq,N1,N2,N3,N4,N5,N6,N7,I1,I2,I3,I4,L1,e88,e63,e111,Tryz.f88,uf,nilChg,c0n,hwn,LIM,List.length_replicate,h63,h111,s2,s3]
      ·skip
       have hc:chC ⟨now,floor,objects,history,tickets⟩ ⟨4,kind,name,seen,text,hold⟩ ⟨ok,on,ov,ob,ot,true,oh⟩ true = 5 :=by simp [chC,hasF,s2,s3]
       have hB:chS ⟨now,floor,objects,history,tickets⟩ ⟨4,kind,name,seen,text,hold⟩ ⟨ok,on,ov,ob,ot,true,oh⟩ true = nilChg :=by rw [chS,if_neg (by rw [hc]; decide)]
       rw [hc,hB]
       simp only [rA,↓reduceIte,reduceCtorEq,N1,N2,N3,N4,N5,N6,N7,I1,I2,I3,I4,L1,e88,e63,e111,Tryz.f88,uf,nilChg,c0n,hwn,LIM,List.length_replicate,h63,h111,s2,s3]
     ·cases oe
      ·skip
       cases q1:hasF hold oh
       ·rw [q1] at h111
        have hc:chC ⟨now,floor,objects,history,tickets⟩ ⟨5,kind,name,seen,text,hold⟩ ⟨ok,on,ov,ob,ot,false,oh⟩ true = 6 :=by simp [chC,hasF,s2,s3,q1]
        have hB:chS ⟨now,floor,objects,history,tickets⟩ ⟨5,kind,name,seen,text,hold⟩ ⟨ok,on,ov,ob,ot,false,oh⟩ true = nilChg :=by rw [chS,if_neg (by rw [hc]; decide)]
        rw [hc,hB]
        simp only [rA,↓reduceIte,reduceCtorEq,N1,N2,N3,N4,N5,N6,N7,I1,I2,I3,I4,L1,e88,e63,e111,Tryz.f88,uf,nilChg,c0n,hwn,LIM,List.length_replicate,h63,h111,s2,s3]
       ·rw [q1] at h111
        by_cases n8:1000000 ≤ now
        ·skip
         have hc:chC ⟨now,floor,objects,history,tickets⟩ ⟨5,kind,name,seen,text,hold⟩ ⟨ok,on,ov,ob,ot,false,oh⟩ true = 8 :=by simp [chC,hasF,s2,s3,q1,n8]
         have hB:chS ⟨now,floor,objects,history,tickets⟩ ⟨5,kind,name,seen,text,hold⟩ ⟨ok,on,ov,ob,ot,false,oh⟩ true = nilChg :=by rw [chS,if_neg (by rw [hc]; decide)]
         rw [hc,hB]
         simp only [rA,↓reduceIte,reduceCtorEq,N1,N2,N3,N4,N5,N6,N7,I1,I2,I3,I4,L1,e88,e63,e111,Tryz.f88,uf,nilChg,c0n,hwn,LIM,List.length_replicate,h63,h111,s2,s3,n8]
         rw [for_block oh (fun i (_:Unit) =>⟨8,[(2,.box 0 0 (VBook.c .shr ⟨now,floor,objects,history,tickets⟩)),(3,.box 1 1 (VW.c ⟨5,kind,name,seen,text,hold⟩)),(4,.box 2 2 (nilChg.c .own)),(6,.box 3 3 (VO.c .own ⟨ok,on,ov,ob,ot,false,oh⟩)),(8,.val 4 false [.p (.int .i64 (now + 1))]),(9,.box 5 5 (VC.c .own ⟨now + 1,false,nilObj⟩)),(11,.val 6 false [.sl .own 1 ((delS (oh.take i) hold).map strC)]),(12,.val 7 false [.p (.int .i64 i)])]⟩) (fun i _ =>True) (fun r i a =>.norm ⟨6,[(2,.box 0 0 (VBook.c .shr ⟨now,floor,objects,history,tickets⟩)),(4,.box 1 1 (nilChg.c .own)),(6,.box 2 2 (VO.c .own ⟨ok,on,ov,ob,ot,false,oh⟩)),(8,.val 3 false [.p (.int .i64 (now + 1))]),(9,.box 4 4 (VC.c .own ⟨now + 1,false,nilObj⟩)),(11,.val 5 false [.sl .own 1 ((delS oh hold).map strC)])]⟩) ?_ ?_ (a :=()) trivial (by simp only [rA,↓reduceIte,reduceCtorEq,N1,N2,N3,N4,N5,N6,N7,I1,I2,I3,I4,L1,e88,e63,e111,Tryz.f88,uf,nilChg,c0n,hwn,LIM,List.length_replicate,s2,s3,delS,List.take_zero,List.filter_nil])]
         ·simp only [rA,↓reduceIte,reduceCtorEq,N1,N2,N3,N4,N5,N6,N7,I1,I2,I3,I4,L1,e88,e63,e111,Tryz.f88,uf,nilChg,c0n,hwn,LIM,List.length_replicate,s2,s3,n8]
         ·intro i x r a hd hi _
          have hlen :=(List.getElem?_eq_some_iff.1 hi).1
          have hlt:((i:Int) < (oh.length:Int)) :=by omega
          have hr :=getElem?_map_some (f :=strC) hi
          simp only [strC] at hr
          have hi0:(0:Int) ≤ (i:Int) :=by omega
          have hwi :=wrap64 (n :=(i:Int) + 1) (by omega) (by omega)
          have hL :=delS_len oh hold i
          have hL1:(delS (oh.take i) hold).length + 1 < 4294967296 :=by omega
          have hs :=delS_snoc hold hi
          left
          refine ⟨(),?_,trivial,rfl⟩
          by_cases d:x = hold
          ·rw [if_pos d] at hs
           simp only [rA,↓reduceIte,reduceCtorEq,N1,N2,N3,N4,N5,N6,N7,I1,I2,I3,I4,L1,e88,e63,e111,Tryz.f88,uf,nilChg,c0n,hwn,LIM,List.length_replicate,s2,s3,hlen,hlt,hr,hi0,hwi,hs,hL1,i64c,d]
          ·rw [if_neg d] at hs
           simp only [rA,↓reduceIte,reduceCtorEq,N1,N2,N3,N4,N5,N6,N7,I1,I2,I3,I4,L1,e88,e63,e111,Tryz.f88,uf,nilChg,c0n,hwn,LIM,List.length_replicate,s2,s3,hlen,hlt,hr,hi0,hwi,hs,hL1,i64c,d,List.map_append]
         ·intro a _
          have hn:¬ ((oh.length:Int) < (oh.length:Int)) :=by omega
          simp only [rA,↓reduceIte,reduceCtorEq,N1,N2,N3,N4,N5,N6,N7,I1,I2,I3,I4,L1,e88,e63,e111,Tryz.f88,uf,nilChg,c0n,hwn,LIM,List.length_replicate,s2,s3,hn,List.take_length]
        ·skip
         have hc:chC ⟨now,floor,objects,history,tickets⟩ ⟨5,kind,name,seen,text,hold⟩ ⟨ok,on,ov,ob,ot,false,oh⟩ true = 0 :=by simp [chC,hasF,s2,s3,q1,n8]
         have hB:chS ⟨now,floor,objects,history,tickets⟩ ⟨5,kind,name,seen,text,hold⟩ ⟨ok,on,ov,ob,ot,false,oh⟩ true = (⟨now + 1,false,⟨ok,on,now + 1,ob,ot,false,delS oh hold⟩⟩:VC) :=by rw [chS,if_pos hc]; simp [chG,chO,goneO,s2,s3,q1,n8]
         rw [hc,hB]
         simp only [rA,↓reduceIte,reduceCtorEq,N1,N2,N3,N4,N5,N6,N7,I1,I2,I3,I4,L1,e88,e63,e111,Tryz.f88,uf,nilChg,c0n,hwn,LIM,List.length_replicate,h63,h111,s2,s3,n8]
         rw [for_block oh (fun i (_:Unit) =>⟨8,[(2,.box 0 0 (VBook.c .shr ⟨now,floor,objects,history,tickets⟩)),(3,.box 1 1 (VW.c ⟨5,kind,name,seen,text,hold⟩)),(4,.box 2 2 (nilChg.c .own)),(6,.box 3 3 (VO.c .own ⟨ok,on,ov,ob,ot,false,oh⟩)),(8,.val 4 false [.p (.int .i64 (now + 1))]),(9,.box 5 5 (VC.c .own ⟨now + 1,false,nilObj⟩)),(11,.val 6 false [.sl .own 1 ((delS (oh.take i) hold).map strC)]),(12,.val 7 false [.p (.int .i64 i)])]⟩) (fun i _ =>True) (fun r i a =>.norm ⟨6,[(2,.box 0 0 (VBook.c .shr ⟨now,floor,objects,history,tickets⟩)),(4,.box 1 1 (nilChg.c .own)),(6,.box 2 2 (VO.c .own ⟨ok,on,ov,ob,ot,false,oh⟩)),(8,.val 3 false [.p (.int .i64 (now + 1))]),(9,.box 4 4 (VC.c .own ⟨now + 1,false,nilObj⟩)),(11,.val 5 false [.sl .own 1 ((delS oh hold).map strC)])]⟩) ?_ ?_ (a :=()) trivial (by simp only [rA,↓reduceIte,reduceCtorEq,N1,N2,N3,N4,N5,N6,N7,I1,I2,I3,I4,L1,e88,e63,e111,Tryz.f88,uf,nilChg,c0n,hwn,LIM,List.length_replicate,s2,s3,delS,List.take_zero,List.filter_nil])]
         ·simp only [rA,↓reduceIte,reduceCtorEq,N1,N2,N3,N4,N5,N6,N7,I1,I2,I3,I4,L1,e88,e63,e111,Tryz.f88,uf,nilChg,c0n,hwn,LIM,List.length_replicate,s2,s3,n8]
         ·intro i x r a hd hi _
          have hlen :=(List.getElem?_eq_some_iff.1 hi).1
          have hlt:((i:Int) < (oh.length:Int)) :=by omega
          have hr :=getElem?_map_some (f :=strC) hi
          simp only [strC] at hr
          have hi0:(0:Int) ≤ (i:Int) :=by omega
          have hwi :=wrap64 (n :=(i:Int) + 1) (by omega) (by omega)
          have hL :=delS_len oh hold i
          have hL1:(delS (oh.take i) hold).length + 1 < 4294967296 :=by omega
          have hs :=delS_snoc hold hi
          left
          refine ⟨(),?_,trivial,rfl⟩
          by_cases d:x = hold
          ·rw [if_pos d] at hs
           simp only [rA,↓reduceIte,reduceCtorEq,N1,N2,N3,N4,N5,N6,N7,I1,I2,I3,I4,L1,e88,e63,e111,Tryz.f88,uf,nilChg,c0n,hwn,LIM,List.length_replicate,s2,s3,hlen,hlt,hr,hi0,hwi,hs,hL1,i64c,d]
          ·rw [if_neg d] at hs
           simp only [rA,↓reduceIte,reduceCtorEq,N1,N2,N3,N4,N5,N6,N7,I1,I2,I3,I4,L1,e88,e63,e111,Tryz.f88,uf,nilChg,c0n,hwn,LIM,List.length_replicate,s2,s3,hlen,hlt,hr,hi0,hwi,hs,hL1,i64c,d,List.map_append]
         ·intro a _
          have hn:¬ ((oh.length:Int) < (oh.length:Int)) :=by omega
          simp only [rA,↓reduceIte,reduceCtorEq,N1,N2,N3,N4,N5,N6,N7,I1,I2,I3,I4,L1,e88,e63,e111,Tryz.f88,uf,nilChg,c0n,hwn,LIM,List.length_replicate,s2,s3,hn,List.take_length]
      ·skip
       cases q1:hasF hold oh
       ·rw [q1] at h111
        have hc:chC ⟨now,floor,objects,history,tickets⟩ ⟨5,kind,name,seen,text,hold⟩ ⟨ok,on,ov,ob,ot,true,oh⟩ true = 6 :=by simp [chC,hasF,s2,s3,q1]
        have hB:chS ⟨now,floor,objects,history,tickets⟩ ⟨5,kind,name,seen,text,hold⟩ ⟨ok,on,ov,ob,ot,true,oh⟩ true = nilChg :=by rw [chS,if_neg (by rw [hc]; decide)]
        rw [hc,hB]
        simp only [rA,↓reduceIte,reduceCtorEq,N1,N2,N3,N4,N5,N6,N7,I1,I2,I3,I4,L1,e88,e63,e111,Tryz.f88,uf,nilChg,c0n,hwn,LIM,List.length_replicate,h63,h111,s2,s3]
       ·rw [q1] at h111
        by_cases hz:(delS oh hold).length = 0
        ·have hz2:((delS oh hold).length:Int) = 0 :=by omega
         by_cases n8:1000000 ≤ now
         ·skip
          have hc:chC ⟨now,floor,objects,history,tickets⟩ ⟨5,kind,name,seen,text,hold⟩ ⟨ok,on,ov,ob,ot,true,oh⟩ true = 8 :=by simp [chC,hasF,s2,s3,q1,hz,n8]
          have hB:chS ⟨now,floor,objects,history,tickets⟩ ⟨5,kind,name,seen,text,hold⟩ ⟨ok,on,ov,ob,ot,true,oh⟩ true = nilChg :=by rw [chS,if_neg (by rw [hc]; decide)]
          rw [hc,hB]
          simp only [rA,↓reduceIte,reduceCtorEq,N1,N2,N3,N4,N5,N6,N7,I1,I2,I3,I4,L1,e88,e63,e111,Tryz.f88,uf,nilChg,c0n,hwn,LIM,List.length_replicate,h63,h111,s2,s3,n8]
          rw [for_block oh (fun i (_:Unit) =>⟨8,[(2,.box 0 0 (VBook.c .shr ⟨now,floor,objects,history,tickets⟩)),(3,.box 1 1 (VW.c ⟨5,kind,name,seen,text,hold⟩)),(4,.box 2 2 (nilChg.c .own)),(6,.box 3 3 (VO.c .own ⟨ok,on,ov,ob,ot,true,oh⟩)),(8,.val 4 false [.p (.int .i64 (now + 1))]),(9,.box 5 5 (VC.c .own ⟨now + 1,false,nilObj⟩)),(11,.val 6 false [.sl .own 1 ((delS (oh.take i) hold).map strC)]),(12,.val 7 false [.p (.int .i64 i)])]⟩) (fun i _ =>True) (fun r i a =>.norm ⟨6,[(2,.box 0 0 (VBook.c .shr ⟨now,floor,objects,history,tickets⟩)),(4,.box 1 1 (nilChg.c .own)),(6,.box 2 2 (VO.c .own ⟨ok,on,ov,ob,ot,true,oh⟩)),(8,.val 3 false [.p (.int .i64 (now + 1))]),(9,.box 4 4 (VC.c .own ⟨now + 1,false,nilObj⟩)),(11,.val 5 false [.sl .own 1 ((delS oh hold).map strC)])]⟩) ?_ ?_ (a :=()) trivial (by simp only [rA,↓reduceIte,reduceCtorEq,N1,N2,N3,N4,N5,N6,N7,I1,I2,I3,I4,L1,e88,e63,e111,Tryz.f88,uf,nilChg,c0n,hwn,LIM,List.length_replicate,s2,s3,delS,List.take_zero,List.filter_nil])]
          ·simp only [rA,↓reduceIte,reduceCtorEq,N1,N2,N3,N4,N5,N6,N7,I1,I2,I3,I4,L1,e88,e63,e111,Tryz.f88,uf,nilChg,c0n,hwn,LIM,List.length_replicate,s2,s3,n8,hz2]
          ·intro i x r a hd hi _
           have hlen :=(List.getElem?_eq_some_iff.1 hi).1
           have hlt:((i:Int) < (oh.length:Int)) :=by omega
           have hr :=getElem?_map_some (f :=strC) hi
           simp only [strC] at hr
           have hi0:(0:Int) ≤ (i:Int) :=by omega
           have hwi :=wrap64 (n :=(i:Int) + 1) (by omega) (by omega)
           have hL :=delS_len oh hold i
           have hL1:(delS (oh.take i) hold).length + 1 < 4294967296 :=by omega
           have hs :=delS_snoc hold hi
           left
           refine ⟨(),?_,trivial,rfl⟩
           by_cases d:x = hold
           ·rw [if_pos d] at hs
            simp only [rA,↓reduceIte,reduceCtorEq,N1,N2,N3,N4,N5,N6,N7,I1,I2,I3,I4,L1,e88,e63,e111,Tryz.f88,uf,nilChg,c0n,hwn,LIM,List.length_replicate,s2,s3,hlen,hlt,hr,hi0,hwi,hs,hL1,i64c,d]
           ·rw [if_neg d] at hs
            simp only [rA,↓reduceIte,reduceCtorEq,N1,N2,N3,N4,N5,N6,N7,I1,I2,I3,I4,L1,e88,e63,e111,Tryz.f88,uf,nilChg,c0n,hwn,LIM,List.length_replicate,s2,s3,hlen,hlt,hr,hi0,hwi,hs,hL1,i64c,d,List.map_append]
          ·intro a _
           have hn:¬ ((oh.length:Int) < (oh.length:Int)) :=by omega
           simp only [rA,↓reduceIte,reduceCtorEq,N1,N2,N3,N4,N5,N6,N7,I1,I2,I3,I4,L1,e88,e63,e111,Tryz.f88,uf,nilChg,c0n,hwn,LIM,List.length_replicate,s2,s3,hn,List.take_length]
         ·skip
          have hc:chC ⟨now,floor,objects,history,tickets⟩ ⟨5,kind,name,seen,text,hold⟩ ⟨ok,on,ov,ob,ot,true,oh⟩ true = 0 :=by simp [chC,hasF,s2,s3,q1,hz,n8]
          have hB:chS ⟨now,floor,objects,history,tickets⟩ ⟨5,kind,name,seen,text,hold⟩ ⟨ok,on,ov,ob,ot,true,oh⟩ true = (⟨now + 1,true,⟨ok,on,now + 1,ob,ot,true,delS oh hold⟩⟩:VC) :=by rw [chS,if_pos hc]; simp [chG,chO,goneO,s2,s3,q1,hz,n8]
          rw [hc,hB]
          simp only [rA,↓reduceIte,reduceCtorEq,N1,N2,N3,N4,N5,N6,N7,I1,I2,I3,I4,L1,e88,e63,e111,Tryz.f88,uf,nilChg,c0n,hwn,LIM,List.length_replicate,h63,h111,s2,s3,n8]
          rw [for_block oh (fun i (_:Unit) =>⟨8,[(2,.box 0 0 (VBook.c .shr ⟨now,floor,objects,history,tickets⟩)),(3,.box 1 1 (VW.c ⟨5,kind,name,seen,text,hold⟩)),(4,.box 2 2 (nilChg.c .own)),(6,.box 3 3 (VO.c .own ⟨ok,on,ov,ob,ot,true,oh⟩)),(8,.val 4 false [.p (.int .i64 (now + 1))]),(9,.box 5 5 (VC.c .own ⟨now + 1,false,nilObj⟩)),(11,.val 6 false [.sl .own 1 ((delS (oh.take i) hold).map strC)]),(12,.val 7 false [.p (.int .i64 i)])]⟩) (fun i _ =>True) (fun r i a =>.norm ⟨6,[(2,.box 0 0 (VBook.c .shr ⟨now,floor,objects,history,tickets⟩)),(4,.box 1 1 (nilChg.c .own)),(6,.box 2 2 (VO.c .own ⟨ok,on,ov,ob,ot,true,oh⟩)),(8,.val 3 false [.p (.int .i64 (now + 1))]),(9,.box 4 4 (VC.c .own ⟨now + 1,false,nilObj⟩)),(11,.val 5 false [.sl .own 1 ((delS oh hold).map strC)])]⟩) ?_ ?_ (a :=()) trivial (by simp only [rA,↓reduceIte,reduceCtorEq,N1,N2,N3,N4,N5,N6,N7,I1,I2,I3,I4,L1,e88,e63,e111,Tryz.f88,uf,nilChg,c0n,hwn,LIM,List.length_replicate,s2,s3,delS,List.take_zero,List.filter_nil])]
          ·simp only [rA,↓reduceIte,reduceCtorEq,N1,N2,N3,N4,N5,N6,N7,I1,I2,I3,I4,L1,e88,e63,e111,Tryz.f88,uf,nilChg,c0n,hwn,LIM,List.length_replicate,s2,s3,n8,hz2]
          ·intro i x r a hd hi _
           have hlen :=(List.getElem?_eq_some_iff.1 hi).1
           have hlt:((i:Int) < (oh.length:Int)) :=by omega
           have hr :=getElem?_map_some (f :=strC) hi
           simp only [strC] at hr
           have hi0:(0:Int) ≤ (i:Int) :=by omega
           have hwi :=wrap64 (n :=(i:Int) + 1) (by omega) (by omega)
           have hL :=delS_len oh hold i
           have hL1:(delS (oh.take i) hold).length + 1 < 4294967296 :=by omega
           have hs :=delS_snoc hold hi
           left
           refine ⟨(),?_,trivial,rfl⟩
           by_cases d:x = hold
           ·rw [if_pos d] at hs
            simp only [rA,↓reduceIte,reduceCtorEq,N1,N2,N3,N4,N5,N6,N7,I1,I2,I3,I4,L1,e88,e63,e111,Tryz.f88,uf,nilChg,c0n,hwn,LIM,List.length_replicate,s2,s3,hlen,hlt,hr,hi0,hwi,hs,hL1,i64c,d]
           ·rw [if_neg d] at hs
            simp only [rA,↓reduceIte,reduceCtorEq,N1,N2,N3,N4,N5,N6,N7,I1,I2,I3,I4,L1,e88,e63,e111,Tryz.f88,uf,nilChg,c0n,hwn,LIM,List.length_replicate,s2,s3,hlen,hlt,hr,hi0,hwi,hs,hL1,i64c,d,List.map_append]
          ·intro a _
           have hn:¬ ((oh.length:Int) < (oh.length:Int)) :=by omega
           simp only [rA,↓reduceIte,reduceCtorEq,N1,N2,N3,N4,N5,N6,N7,I1,I2,I3,I4,L1,e88,e63,e111,Tryz.f88,uf,nilChg,c0n,hwn,LIM,List.length_replicate,s2,s3,hn,List.take_length]
        ·have hz2:¬ ((delS oh hold).length:Int) = 0 :=by omega
         by_cases n8:1000000 ≤ now
         ·skip
          have hc:chC ⟨now,floor,objects,history,tickets⟩ ⟨5,kind,name,seen,text,hold⟩ ⟨ok,on,ov,ob,ot,true,oh⟩ true = 8 :=by simp [chC,hasF,s2,s3,q1,hz,n8]
          have hB:chS ⟨now,floor,objects,history,tickets⟩ ⟨5,kind,name,seen,text,hold⟩ ⟨ok,on,ov,ob,ot,true,oh⟩ true = nilChg :=by rw [chS,if_neg (by rw [hc]; decide)]
          rw [hc,hB]
          simp only [rA,↓reduceIte,reduceCtorEq,N1,N2,N3,N4,N5,N6,N7,I1,I2,I3,I4,L1,e88,e63,e111,Tryz.f88,uf,nilChg,c0n,hwn,LIM,List.length_replicate,h63,h111,s2,s3,n8]
          rw [for_block oh (fun i (_:Unit) =>⟨8,[(2,.box 0 0 (VBook.c .shr ⟨now,floor,objects,history,tickets⟩)),(3,.box 1 1 (VW.c ⟨5,kind,name,seen,text,hold⟩)),(4,.box 2 2 (nilChg.c .own)),(6,.box 3 3 (VO.c .own ⟨ok,on,ov,ob,ot,true,oh⟩)),(8,.val 4 false [.p (.int .i64 (now + 1))]),(9,.box 5 5 (VC.c .own ⟨now + 1,false,nilObj⟩)),(11,.val 6 false [.sl .own 1 ((delS (oh.take i) hold).map strC)]),(12,.val 7 false [.p (.int .i64 i)])]⟩) (fun i _ =>True) (fun r i a =>.norm ⟨6,[(2,.box 0 0 (VBook.c .shr ⟨now,floor,objects,history,tickets⟩)),(4,.box 1 1 (nilChg.c .own)),(6,.box 2 2 (VO.c .own ⟨ok,on,ov,ob,ot,true,oh⟩)),(8,.val 3 false [.p (.int .i64 (now + 1))]),(9,.box 4 4 (VC.c .own ⟨now + 1,false,nilObj⟩)),(11,.val 5 false [.sl .own 1 ((delS oh hold).map strC)])]⟩) ?_ ?_ (a :=()) trivial (by simp only [rA,↓reduceIte,reduceCtorEq,N1,N2,N3,N4,N5,N6,N7,I1,I2,I3,I4,L1,e88,e63,e111,Tryz.f88,uf,nilChg,c0n,hwn,LIM,List.length_replicate,s2,s3,delS,List.take_zero,List.filter_nil])]
          ·simp only [rA,↓reduceIte,reduceCtorEq,N1,N2,N3,N4,N5,N6,N7,I1,I2,I3,I4,L1,e88,e63,e111,Tryz.f88,uf,nilChg,c0n,hwn,LIM,List.length_replicate,s2,s3,n8,hz2]
          ·intro i x r a hd hi _
           have hlen :=(List.getElem?_eq_some_iff.1 hi).1
           have hlt:((i:Int) < (oh.length:Int)) :=by omega
           have hr :=getElem?_map_some (f :=strC) hi
           simp only [strC] at hr
           have hi0:(0:Int) ≤ (i:Int) :=by omega
           have hwi :=wrap64 (n :=(i:Int) + 1) (by omega) (by omega)
           have hL :=delS_len oh hold i
           have hL1:(delS (oh.take i) hold).length + 1 < 4294967296 :=by omega
           have hs :=delS_snoc hold hi
           left
           refine ⟨(),?_,trivial,rfl⟩
           by_cases d:x = hold
           ·rw [if_pos d] at hs
            simp only [rA,↓reduceIte,reduceCtorEq,N1,N2,N3,N4,N5,N6,N7,I1,I2,I3,I4,L1,e88,e63,e111,Tryz.f88,uf,nilChg,c0n,hwn,LIM,List.length_replicate,s2,s3,hlen,hlt,hr,hi0,hwi,hs,hL1,i64c,d]
           ·rw [if_neg d] at hs
            simp only [rA,↓reduceIte,reduceCtorEq,N1,N2,N3,N4,N5,N6,N7,I1,I2,I3,I4,L1,e88,e63,e111,Tryz.f88,uf,nilChg,c0n,hwn,LIM,List.length_replicate,s2,s3,hlen,hlt,hr,hi0,hwi,hs,hL1,i64c,d,List.map_append]
          ·intro a _
           have hn:¬ ((oh.length:Int) < (oh.length:Int)) :=by omega
           simp only [rA,↓reduceIte,reduceCtorEq,N1,N2,N3,N4,N5,N6,N7,I1,I2,I3,I4,L1,e88,e63,e111,Tryz.f88,uf,nilChg,c0n,hwn,LIM,List.length_replicate,s2,s3,hn,List.take_length]
         ·skip
          have hc:chC ⟨now,floor,objects,history,tickets⟩ ⟨5,kind,name,seen,text,hold⟩ ⟨ok,on,ov,ob,ot,true,oh⟩ true = 0 :=by simp [chC,hasF,s2,s3,q1,hz,n8]
          have hB:chS ⟨now,floor,objects,history,tickets⟩ ⟨5,kind,name,seen,text,hold⟩ ⟨ok,on,ov,ob,ot,true,oh⟩ true = (⟨now + 1,false,⟨ok,on,now + 1,ob,ot,true,delS oh hold⟩⟩:VC) :=by rw [chS,if_pos hc]; simp [chG,chO,goneO,s2,s3,q1,hz,n8]
          rw [hc,hB]
          simp only [rA,↓reduceIte,reduceCtorEq,N1,N2,N3,N4,N5,N6,N7,I1,I2,I3,I4,L1,e88,e63,e111,Tryz.f88,uf,nilChg,c0n,hwn,LIM,List.length_replicate,h63,h111,s2,s3,n8]
          rw [for_block oh (fun i (_:Unit) =>⟨8,[(2,.box 0 0 (VBook.c .shr ⟨now,floor,objects,history,tickets⟩)),(3,.box 1 1 (VW.c ⟨5,kind,name,seen,text,hold⟩)),(4,.box 2 2 (nilChg.c .own)),(6,.box 3 3 (VO.c .own ⟨ok,on,ov,ob,ot,true,oh⟩)),(8,.val 4 false [.p (.int .i64 (now + 1))]),(9,.box 5 5 (VC.c .own ⟨now + 1,false,nilObj⟩)),(11,.val 6 false [.sl .own 1 ((delS (oh.take i) hold).map strC)]),(12,.val 7 false [.p (.int .i64 i)])]⟩) (fun i _ =>True) (fun r i a =>.norm ⟨6,[(2,.box 0 0 (VBook.c .shr ⟨now,floor,objects,history,tickets⟩)),(4,.box 1 1 (nilChg.c .own)),(6,.box 2 2 (VO.c .own ⟨ok,on,ov,ob,ot,true,oh⟩)),(8,.val 3 false [.p (.int .i64 (now + 1))]),(9,.box 4 4 (VC.c .own ⟨now + 1,false,nilObj⟩)),(11,.val 5 false [.sl .own 1 ((delS oh hold).map strC)])]⟩) ?_ ?_ (a :=()) trivial (by simp only [rA,↓reduceIte,reduceCtorEq,N1,N2,N3,N4,N5,N6,N7,I1,I2,I3,I4,L1,e88,e63,e111,Tryz.f88,uf,nilChg,c0n,hwn,LIM,List.length_replicate,s2,s3,delS,List.take_zero,List.filter_nil])]
          ·simp only [rA,↓reduceIte,reduceCtorEq,N1,N2,N3,N4,N5,N6,N7,I1,I2,I3,I4,L1,e88,e63,e111,Tryz.f88,uf,nilChg,c0n,hwn,LIM,List.length_replicate,s2,s3,n8,hz2]
          ·intro i x r a hd hi _
           have hlen :=(List.getElem?_eq_some_iff.1 hi).1
           have hlt:((i:Int) < (oh.length:Int)) :=by omega
           have hr :=getElem?_map_some (f :=strC) hi
           simp only [strC] at hr
           have hi0:(0:Int) ≤ (i:Int) :=by omega
           have hwi :=wrap64 (n :=(i:Int) + 1) (by omega) (by omega)
           have hL :=delS_len oh hold i
           have hL1:(delS (oh.take i) hold).length + 1 < 4294967296 :=by omega
           have hs :=delS_snoc hold hi
           left
           refine ⟨(),?_,trivial,rfl⟩
           by_cases d:x = hold
           ·rw [if_pos d] at hs
            simp only [rA,↓reduceIte,reduceCtorEq,N1,N2,N3,N4,N5,N6,N7,I1,I2,I3,I4,L1,e88,e63,e111,Tryz.f88,uf,nilChg,c0n,hwn,LIM,List.length_replicate,s2,s3,hlen,hlt,hr,hi0,hwi,hs,hL1,i64c,d]
           ·rw [if_neg d] at hs
            simp only [rA,↓reduceIte,reduceCtorEq,N1,N2,N3,N4,N5,N6,N7,I1,I2,I3,I4,L1,e88,e63,e111,Tryz.f88,uf,nilChg,c0n,hwn,LIM,List.length_replicate,s2,s3,hlen,hlt,hr,hi0,hwi,hs,hL1,i64c,d,List.map_append]
          ·intro a _
           have hn:¬ ((oh.length:Int) < (oh.length:Int)) :=by omega
           simp only [rA,↓reduceIte,reduceCtorEq,N1,N2,N3,N4,N5,N6,N7,I1,I2,I3,I4,L1,e88,e63,e111,Tryz.f88,uf,nilChg,c0n,hwn,LIM,List.length_replicate,s2,s3,hn,List.take_length]
end Go.Proofs.YtfpconipgllkkaaGreat

