/- A write: the two sides make the same change (plain). -/
import Derived.Test.YtfpconipgllkkaaGreatMC
import Derived.Test.YtfpconipgllkkaaGreatMB
import Derived.Test.YtfpconipgllkkaaGreatG6
import Derived.Test.YtfpconipgllkkaaGreatD6
namespace Go.Proofs.YtfpconipgllkkaaGreat
open Go.Sx
open Nat renaming reduceEqDiff → N1,reduceAdd → N2,reduceSub → N3,reduceMul → N4,reduceLeDiff → N5,reduceBEq → N6,reduceLT → N7
open Int renaming reduceLT → I1,reduceNeg → I2,reduceLE → I3,reduceEq → I4
open List renaming reduceReplicate → L1
set_option maxRecDepth 100000
set_option maxHeartbeats 16000000
set_option linter.unusedVariables false
set_option linter.unusedSimpArgs false
def bookS (b:VBook) (w:VW) (o:VO) (t:Bool):VBook :=if chC b w o t = 0 then bookC b (chG insS delS w (b.now + 1) o) else b
abbrev fO (b:VBook) (w:VW):VO :=(bfind b.objects w.kind w.name).1
abbrev fT (b:VBook) (w:VW):Bool :=(bfind b.objects w.kind w.name).2
def AscO (b:VBook):Prop :=∀ o ∈ b.objects,Asc o.holds
theorem objs_mem (b:VBook):∀ (l:List VO) (i:Nat),objsF b i l = true → ∀ o ∈ l,partsB o b.now = true
 | [],_,_,o,ho =>by cases ho
 | x :: r,i,h,o,ho =>by
  simp only [objsF,Bool.and_eq_true] at h
  rcases List.mem_cons.1 ho with rfl | ho
  ·have :=h.1
   simp only [objAt,Bool.and_eq_true] at this
   exact this.1
  ·exact objs_mem b r (i + 1) h.2 o ho
theorem valid_now {b:VBook} (h:implB b = true):0 ≤ b.now ∧ b.now ≤ 1000000 :=by
 simp only [implB,inR,Bool.and_eq_true,decide_eq_true_eq] at h
 exact h.1
theorem valid_parts {b:VBook} (h:implB b = true):∀ o ∈ b.objects,partsB o b.now = true :=by
 simp only [implB,Bool.and_eq_true] at h
 exact objs_mem b _ 0 h.2.2.2.2.2.2.1
theorem valid_asc {b:VBook} (h:implB b = true):AscO b :=by
 intro o ho
 have :=valid_parts h o ho
 simp only [partsB,Bool.and_eq_true] at this
 exact (ascF_asc _ _ this.2.2.2.2.2.2).1
theorem find_asc {b:VBook} (h:AscO b) (k n:ByteArray):Asc (bfind b.objects k n).1.holds :=by
 unfold bfind
 cases e:b.objects.find? (isKey k n) with
 | none =>exact List.Pairwise.nil
 | some o =>exact h o (List.mem_of_find?_eq_some e)
theorem chO_eq {b:VBook} {w:VW} {o:VO} {t:Bool} (ha:Asc o.holds) (h0:chC b w o t = 0) (h5:w.op ≤ 5) (h1:1 ≤ w.op) (v:Int):chO insI delI w v o = chO insS delS w v o :=by
 unfold chO
 by_cases o1:w.op = 1
 ·rw [if_pos o1,if_pos o1]
 by_cases o2:w.op = 2
 ·rw [if_neg o1,if_neg o1,if_pos o2,if_pos o2]
 by_cases o3:w.op = 3
 ·rw [if_neg o1,if_neg o1,if_neg o2,if_neg o2,if_pos o3,if_pos o3]
 by_cases o4:w.op = 4
 ·have hn:hasF w.hold o.holds = false :=by
   cases e:hasF w.hold o.holds with
   | false =>rfl
   | true =>
    exfalso
    unfold chC at h0
    split at h0
    ·omega
    split at h0
    ·omega
    split at h0
    ·omega
    split at h0
    ·omega
    split at h0
    ·omega
    ·rename_i hx
     exact hx ⟨o4,e⟩
  rw [if_neg o1,if_neg o1,if_neg o2,if_neg o2,if_neg o3,if_neg o3,if_pos o4,if_pos o4,ins_eq ha hn]
 ·have o5:w.op = 5 :=by omega
  have hn:hasF w.hold o.holds = true :=by
   cases e:hasF w.hold o.holds with
   | true =>rfl
   | false =>
    exfalso
    unfold chC at h0
    split at h0
    ·omega
    split at h0
    ·omega
    split at h0
    ·omega
    split at h0
    ·omega
    split at h0
    ·omega
    split at h0
    ·omega
    split at h0
    ·omega
    ·rename_i hx
     exact hx ⟨o5,e⟩
  rw [if_neg o1,if_neg o1,if_neg o2,if_neg o2,if_neg o3,if_neg o3,if_neg o4,if_neg o4,del_eq ha hn]
theorem wrB_op {w:VW} (h:wrB w = true):1 ≤ w.op ∧ w.op ≤ 5 :=by
 simp only [wrB,inR,Bool.and_eq_true,decide_eq_true_eq] at h
 omega
theorem book_eq {b:VBook} {w:VW} (ha:AscO b) (hw:wrB w = true):bookI b w (fO b w) (fT b w) = bookS b w (fO b w) (fT b w) :=by
 unfold bookI bookS
 split
 ·rename_i h0
  unfold chG
  rw [chO_eq (find_asc ha _ _) h0 (wrB_op hw).2 (wrB_op hw).1]
 ·rfl
theorem chO_w (w:VW) (v:Int) (o:VO):(chO insS delS w v o).w ≤ o.w + w.w + 1 :=by
 have hd:sumWString (delS o.holds w.hold) ≤ sumWString o.holds ∧ (delS o.holds w.hold).length ≤ o.holds.length :=by
  unfold delS
  generalize o.holds = l
  induction l with
  | nil =>exact ⟨Nat.le_refl _,Nat.le_refl _⟩
  | cons x r ih =>
   by_cases e:x = w.hold
   ·rw [List.filter_cons_of_neg (by simp [e])]
    simp only [sumWString,List.length_cons]
    omega
   ·rw [List.filter_cons_of_pos (by simp [e])]
    simp only [sumWString,List.length_cons]
    omega
 have hsum:∀ a c:List ByteArray,sumWString (a ++ c) = sumWString a + sumWString c :=by
  intro a c
  induction a with
  | nil =>simp [sumWString]
  | cons x r ih =>simp only [List.cons_append,sumWString,ih]; omega
 have hi:sumWString (insS o.holds w.hold) = sumWString o.holds + w.hold.size ∧ (insS o.holds w.hold).length = o.holds.length + 1 :=by
  unfold insS
  have h :=hsum (o.holds.take (cntT w.hold o.holds)) (o.holds.drop (cntT w.hold o.holds))
  rw [List.take_append_drop] at h
  have h2 :=congrArg List.length (List.take_append_drop (cntT w.hold o.holds) o.holds)
  rw [List.length_append] at h2
  refine ⟨?_,?_⟩
  ·rw [hsum,hsum,h]
   simp only [sumWString]
   omega
  ·simp only [List.length_append,List.length_cons,List.length_nil]
   omega
 unfold chO
 repeat' split
 all_goals simp only [VO.w,VW.w,wSString,List.length_nil,List.length_cons,sumWString,hi.1,hi.2] <;> omega
theorem sumC_append:∀ a b:List VC,sumWBookChange (a ++ b) = sumWBookChange a + sumWBookChange b
 | [],b =>by simp [sumWBookChange]
 | x :: a,b =>by simp only [List.cons_append,sumWBookChange,sumC_append a b]; omega
theorem bookC_w (b:VBook) (c:VC):(bookC b c).w ≤ b.w + 2 * (c.w + 1) :=by
 have h1 :=putR_w c.object c.gone b.objects
 have h2 :=sumC_append b.history [c]
 unfold bookC VBook.w VC.w wSBookChange
 simp only [sumWBookChange,VC.w] at h2
 split
 ·simp only [List.length_append,List.length_cons,List.length_nil,h2]
  omega
 ·cases b.history with
  | nil =>simp only [List.nil_append,List.drop_succ_cons,List.drop_zero,List.length_nil,sumWBookChange]; omega
  | cons x r =>
   have h3 :=sumC_append r [c]
   simp only [sumWBookChange,VC.w] at h3
   simp only [List.cons_append,List.drop_succ_cons,List.drop_zero,List.length_append,List.length_cons,List.length_nil,h3,sumWBookChange]
   omega
theorem rowsShrC (l:List VC):borRows (l.map (VC.c .shr)) = l.map (VC.c .shr) ∧ wholeRows (l.map (VC.c .shr)) = true ∧ allFreeRows (l.map (VC.c .shr)) = true :=by
 induction l with
 | nil =>exact ⟨rfl,rfl,rfl⟩
 | cons x l ih =>
  have h :=rowBookChange x
  refine ⟨?_,?_,?_⟩
  ·simp only [List.map_cons,borRows,ih.1]
   congr 1
  ·simp only [List.map_cons,wholeRows,ih.2.1,h.2.2.2.1,Bool.and_true]
  ·simp only [List.map_cons,allFreeRows,ih.2.2,h.2.2.2.2,Bool.and_true]
structure RowsH (hr:List (List C)) (l:List VC):Prop where
 bor:borRows hr = l.map (VC.c .shr)
 whole:wholeRows hr = true
 len:hr.length = l.length
theorem rowsH_shr (l:List VC):RowsH (l.map (VC.c .shr)) l :=⟨(rowsShrC l).1,(rowsShrC l).2.1,by simp⟩
theorem bor_app:∀ a b:List (List C),borRows (a ++ b) = borRows a ++ borRows b
 | [],b =>rfl
 | x :: a,b =>by simp only [List.cons_append,borRows,bor_app a b]
theorem whole_app:∀ a b:List (List C),wholeRows (a ++ b) = (wholeRows a && wholeRows b)
 | [],b =>by simp [wholeRows]
 | x :: a,b =>by simp only [List.cons_append,wholeRows,whole_app a b,Bool.and_assoc]
theorem rowsH_own (l:List VC) (c:VC):RowsH (l.map (VC.c .shr) ++ [c.c .own]) (l ++ [c]) :=by
 have h :=rowsShrC l
 have k :=rowBookChange c
 refine ⟨?_,?_,by simp⟩
 ·rw [bor_app,h.1,List.map_append]
  simp only [borRows,k.1,List.map_cons,List.map_nil]
 ·rw [whole_app,h.2.1]
  simp only [wholeRows,k.2.2.1,Bool.and_true]
def VBook.m (fl:Fl) (hr:List (List C)) (x:VBook):List C :=[.p (.int .i64 x.now),.p (.int .i64 x.floor),.sl fl 7 (x.objects.map (VO.c .shr)),.sl fl 9 hr,.sl .shr 5 (x.tickets.map VT.c)]
def codeD (b:VBook) (w:VW):Int :=if wrB w = true then chC b w (fO b w) (fT b w) else 2
def verD (b:VBook) (w:VW):Int :=if wrB w = true then verI b w (fO b w) (fT b w) else 0
def bkD (b:VBook) (w:VW):VBook :=if wrB w = true then bookS b w (fO b w) (fT b w) else b
def flD (c:Int):Fl :=if c = 0 then .own else .shr
theorem k50 (b:VBook) (w:VW) (hw:b.w + w.w ≤ 4194000) (hb0:0 ≤ b.now) (hb1:b.now ≤ 1000000) :
  ∃ hr,(RowsH hr (bkD b w).history ∧ (codeD b w ≠ 0 → hr = (bkD b w).history.map (VC.c .shr))) ∧ EV Tryz.prog E 50 [.val 0 true (b.c .shr),.val 0 true (VW.c w)] =
   some ⟨[(true,[.p (.int .i64 (codeD b w))] ++ (bkD b w).m (flD (codeD b w)) hr ++ [.p (.int .i64 (verD b w))])],[]⟩ :=by
 have h62 :=k62 w
 cases hwr:wrB w
 ·rw [hwr] at h62
  have e1:codeD b w = 2 :=by simp [codeD,hwr]
  have e2:bkD b w = b :=by simp [bkD,hwr]
  have e3:verD b w = 0 :=by simp [verD,hwr]
  rw [e1,e2,e3]
  refine ⟨_,⟨rowsH_shr _,fun _ =>rfl⟩,?_⟩
  refine EV_intro Tryz.func50 rfl ?_
  simp only [VW.c] at h62
  simp only [rA,↓reduceIte,reduceCtorEq,N1,N2,N3,N4,N5,N6,N7,I1,I2,I3,I4,L1,e50,e62,Tryz.f50,VBook.c,VBook.m,VW.c,flD,h62,List.cons_append,List.nil_append,List.map_nil]
 rw [hwr] at h62
 have h88 :=k88 b w hw hb0 hb1 hwr
 have h63 :=k63 b w.kind w.name (by omega)
 have e1:codeD b w = chC b w (fO b w) (fT b w) :=by simp [codeD,hwr]
 have e2:bkD b w = bookS b w (fO b w) (fT b w) :=by simp [bkD,hwr]
 have e3:verD b w = verI b w (fO b w) (fT b w) :=by simp [verD,hwr]
 rw [e1,e2,e3]
 have hol:b.objects.length ≤ 4194304 :=by simp only [VBook.w,wSBookObject] at hw; omega
 have hlh:b.history.length + 1 < 4294967296 :=by simp only [VBook.w,wSBookChange] at hw; omega
 have hlh0:b.history.length < 4294967296 :=by omega
 by_cases hc:chC b w (fO b w) (fT b w) = 0
 ·have eb:bookS b w (fO b w) (fT b w) = bookC b (chG insS delS w (b.now + 1) (fO b w)) :=by simp [bookS,hc]
  have ev:verI b w (fO b w) (fT b w) = (chG insS delS w (b.now + 1) (fO b w)).version :=by simp [verI,hc,chG]
  have es:chS b w (fO b w) (fT b w) = chG insS delS w (b.now + 1) (fO b w) :=by simp [chS,hc]
  rw [eb,ev]
  have h88:EV Tryz.prog E 88 [.val 0 true (b.c .shr),.val 0 true (VW.c w)] = some ⟨[(true,(chS b w (fO b w) (fT b w)).c .own),(false,[.p (.int .i64 (chC b w (fO b w) (fT b w)))])],[]⟩ :=h88
  rw [es,hc] at h88
  rw [hc]
  generalize chG insS delS w (b.now + 1) (fO b w) = c at *
  have h89 :=k89 b.objects c hol
  obtain ⟨now,floor,objects,history,tickets⟩ :=b
  simp only [VBook.c,VW.c,VC.c] at h88 h89 h62
  simp only at hlh hlh0
  cases hmr:mineRows ((putR c.object c.gone objects).map (VO.c .shr))
  ·by_cases hl2:history.length < 200
   ·have hl3:¬ (200:Int) < (history.length:Int) + 1 :=by omega
    refine ⟨(history ++ [c]).map (VC.c .shr),⟨by simpa only [bookC,if_pos hl2] using rowsH_shr (history ++ [c]),fun h =>absurd rfl h⟩,?_⟩
    refine EV_intro Tryz.func50 rfl ?_
    simp only [rA,↓reduceIte,reduceCtorEq,N1,N2,N3,N4,N5,N6,N7,I1,I2,I3,I4,L1,e50,e62,e88,e89,Tryz.f50,VBook.c,VBook.m,VW.c,VC.c,flD,bookC,hmr,h62,h88,h89,hl2,hl3,hlh,hlh0,List.cons_append,List.nil_append,List.map_append,List.map_cons,List.map_nil,rowsShr,rowsShrC,rowsString,len1,List.length_map,Nat.zero_add,LIM,nilObj]
   ·cases history with
    | nil =>exact absurd (show 0 < 200 by omega) hl2
    | cons c0 hr0 =>
     have hlk:hr0.length + 1 + 1 < 4294967296 :=by simpa using hlh
     have hlk0:hr0.length + 1 < 4294967296 :=by omega
     have hl4:(200:Int) < (hr0.length:Int) + 1 + 1 :=by simp only [List.length_cons] at hl2; omega
     have hl5:¬ (hr0.length + 1 < 200) :=by simpa using hl2
     have hrs :=rowsShrC (c0 :: hr0)
     simp only [List.map_cons,VC.c] at hrs h88
     refine ⟨(hr0 ++ [c]).map (VC.c .shr),⟨by simp only [bookC,if_neg hl2]; exact rowsH_shr (hr0 ++ [c]),fun h =>absurd rfl h⟩,?_⟩
     refine EV_intro Tryz.func50 rfl ?_
     simp only [rA,↓reduceIte,reduceCtorEq,N1,N2,N3,N4,N5,N6,N7,I1,I2,I3,I4,L1,e50,e62,e88,e89,Tryz.f50,VBook.c,VBook.m,VW.c,VC.c,flD,bookC,hmr,h62,h88,h89,hrs,hl4,hl5,hlk,hlk0,List.cons_append,List.nil_append,List.map_append,List.map_cons,List.map_nil,rowsShr,rowsShrC,rowsString,len1,len2,List.length_map,List.length_cons,Nat.zero_add,LIM,nilObj,pos1,pos2,pos3,z2,z3,Nat.le_refl,Nat.add_sub_cancel,List.take_length,List.getElem?_cons_zero,List.drop_succ_cons,List.drop_zero,List.head?_cons,Option.map_some,Option.getD_some]
  ·by_cases hl2:history.length < 200
   ·have hl3:¬ (200:Int) < (history.length:Int) + 1 :=by omega
    refine ⟨history.map (VC.c .shr) ++ [c.c .own],⟨by simpa only [bookC,if_pos hl2] using rowsH_own history c,fun h =>absurd rfl h⟩,?_⟩
    refine EV_intro Tryz.func50 rfl ?_
    simp only [rA,↓reduceIte,reduceCtorEq,N1,N2,N3,N4,N5,N6,N7,I1,I2,I3,I4,L1,e50,e62,e88,e89,Tryz.f50,VBook.c,VBook.m,VW.c,VC.c,flD,bookC,hmr,h62,h88,h89,hl2,hl3,hlh,hlh0,List.cons_append,List.nil_append,List.map_append,List.map_cons,List.map_nil,rowsShr,rowsShrC,rowsString,len1,List.length_map,Nat.zero_add,LIM,nilObj]
   ·cases history with
    | nil =>exact absurd (show 0 < 200 by omega) hl2
    | cons c0 hr0 =>
     have hlk:hr0.length + 1 + 1 < 4294967296 :=by simpa using hlh
     have hlk0:hr0.length + 1 < 4294967296 :=by omega
     have hl4:(200:Int) < (hr0.length:Int) + 1 + 1 :=by simp only [List.length_cons] at hl2; omega
     have hl5:¬ (hr0.length + 1 < 200) :=by simpa using hl2
     have hrs :=rowsShrC (c0 :: hr0)
     simp only [List.map_cons,VC.c] at hrs h88
     refine ⟨hr0.map (VC.c .shr) ++ [c.c .own],⟨by simp only [bookC,if_neg hl2]; exact rowsH_own hr0 c,fun h =>absurd rfl h⟩,?_⟩
     refine EV_intro Tryz.func50 rfl ?_
     simp only [rA,↓reduceIte,reduceCtorEq,N1,N2,N3,N4,N5,N6,N7,I1,I2,I3,I4,L1,e50,e62,e88,e89,Tryz.f50,VBook.c,VBook.m,VW.c,VC.c,flD,bookC,hmr,h62,h88,h89,hrs,hl4,hl5,hlk,hlk0,List.cons_append,List.nil_append,List.map_append,List.map_cons,List.map_nil,rowsShr,rowsShrC,rowsString,len1,len2,List.length_map,List.length_cons,Nat.zero_add,LIM,nilObj,pos1,pos2,pos3,z2,z3,Nat.le_refl,Nat.add_sub_cancel,List.take_length,List.getElem?_cons_zero,List.drop_succ_cons,List.drop_zero,List.head?_cons,Option.map_some,Option.getD_some]
 ·have eb:bookS b w (fO b w) (fT b w) = b :=by simp [bookS,hc]
  have es:chS b w (fO b w) (fT b w) = nilChg :=by simp [chS,hc]
  have h88:EV Tryz.prog E 88 [.val 0 true (b.c .shr),.val 0 true (VW.c w)] = some ⟨[(true,(chS b w (fO b w) (fT b w)).c .own),(false,[.p (.int .i64 (chC b w (fO b w) (fT b w)))])],[]⟩ :=h88
  rw [es] at h88
  rw [eb]
  refine ⟨_,⟨rowsH_shr _,fun _ =>rfl⟩,?_⟩
  refine EV_intro Tryz.func50 rfl ?_
  by_cases h4:chC b w (fO b w) (fT b w) = 4
  ·have ev:verI b w (fO b w) (fT b w) = (fO b w).version :=by simp [verI,h4]
   rw [ev]
   rw [h4] at h88 ⊢
   have h63:EV Tryz.prog E 63 [.val 0 true (b.c .shr),.val 0 false [.p (.string w.kind)],.val 0 false [.p (.string w.name)]] = some ⟨[(true,(fO b w).c .own),(false,[.p (.bool (fT b w))])],[]⟩ :=h63
   generalize fO b w = o at *
   generalize fT b w = t at *
   simp only [VBook.c,VW.c,VC.c,VO.c,nilChg,nilObj,List.map_nil] at h88 h62 h63
   simp only [rA,↓reduceIte,reduceCtorEq,N1,N2,N3,N4,N5,N6,N7,I1,I2,I3,I4,L1,e50,e62,e88,e63,Tryz.f50,VBook.c,VBook.m,VW.c,VC.c,VO.c,nilObj,flD,h62,h88,h63,List.cons_append,List.nil_append,List.map_nil,rowsString]
  ·have ev:verI b w (fO b w) (fT b w) = 0 :=by simp [verI,h4,hc]
   rw [ev]
   generalize chC b w (fO b w) (fT b w) = n at *
   simp only [VBook.c,VW.c,VC.c,VO.c,nilChg,nilObj,List.map_nil] at h88 h62
   simp only [rA,↓reduceIte,reduceCtorEq,N1,N2,N3,N4,N5,N6,N7,I1,I2,I3,I4,L1,e50,e62,e88,e63,Tryz.f50,VBook.c,VBook.m,VW.c,VC.c,VO.c,nilObj,flD,h62,h88,hc,h4,List.cons_append,List.nil_append,List.map_nil,rowsString]
def zB:VBook :=⟨0,0,[],[],[]⟩
def didC (b:VBook) (w:VW):VBookDid :=if implB b = true then (if wrB w = true then ⟨chC b w (fO b w) (fT b w),bookS b w (fO b w) (fT b w),verI b w (fO b w) (fT b w)⟩ else ⟨2,zB,0⟩) else ⟨1,zB,0⟩
theorem addF_same (t:Nat) (x:St) (F:List (Nat × St)):addF t x F (some x) = some F :=by simp [addF]
structure VN where
 kind:ByteArray
 name:ByteArray
 version:Int
def VN.c (x:VN):List C :=[.p (.string x.kind),.p (.string x.name),.p (.int .i64 x.version)]
def VN.w (x:VN):Nat :=x.kind.size + x.name.size
def VN.ok (x:VN):Prop :=x.kind.size ≤ maxLen ∧ x.name.size ≤ maxLen ∧ i64ok x.version
theorem rowsBookWant (l:List VN):borRows (l.map VN.c) = l.map VN.c ∧ mineRows (l.map VN.c) = true ∧ wholeRows (l.map VN.c) = true ∧ allFreeRows (l.map VN.c) = true :=flat_rows VN.c (fun _ =>rfl) l
def sumWBookWant:List VN → Nat
 | [] =>0
 | x :: r =>x.w + sumWBookWant r
def wSBookWant (l:List VN):Nat :=l.length + sumWBookWant l
theorem wSBookWant_mem {l:List VN} {x:VN} (h:x ∈ l):x.w ≤ sumWBookWant l :=by
 induction l with
 | nil =>cases h
 | cons y r ih =>
  simp only [sumWBookWant]
  rcases List.mem_cons.1 h with rfl | h
  ·omega
  ·have :=ih h
   omega
def sumWBookWrite:List VW → Nat
 | [] =>0
 | x :: r =>x.w + sumWBookWrite r
def wSBookWrite (l:List VW):Nat :=l.length + sumWBookWrite l
theorem wSBookWrite_mem {l:List VW} {x:VW} (h:x ∈ l):x.w ≤ sumWBookWrite l :=by
 induction l with
 | nil =>cases h
 | cons y r ih =>
  simp only [sumWBookWrite]
  rcases List.mem_cons.1 h with rfl | h
  ·omega
  ·have :=ih h
   omega
structure VU where
 wants:List VN
 writes:List VW
def VU.c (f:Fl) (x:VU):List C :=[.sl f 3 (x.wants.map VN.c),.sl f 6 (x.writes.map VW.c)]
def VU.w (x:VU):Nat :=wSBookWant x.wants + wSBookWrite x.writes
def VU.ok (x:VU):Prop :=(x.wants.length ≤ maxLen ∧ ∀ e ∈ x.wants,e.ok) ∧ (x.writes.length ≤ maxLen ∧ ∀ e ∈ x.writes,e.ok)
theorem k_szBookWant (x:VN) (left:Int) (hx:x.ok) (h0:0 ≤ left) (h1:left ≤ 1048576):EV Tryz.prog E 56 [.val 0 true (VN.c x),.val 0 false [.p (.int .i64 left)]] = some ⟨[(false,[.p (.int .i64 (subW left x.w))])],[]⟩ :=by
 refine EV_intro Tryz.func56 rfl ?_
 have hx0 :=hx
 simp only [VN.ok] at hx
 obtain ⟨o_kind,o_name,o_version⟩ :=hx
 have w0 :=wrap64 (n :=left - x.kind.size) (by unfold maxLen at *; omega) (by omega)
 by_cases c0:left < (x.kind.size:Nat)
 ·have e:subW left x.w = -1 :=subW_lt (by unfold VN.w; omega)
  have d0:left - (x.kind.size:Int) < 0 :=by omega
  simp only [rA,↓reduceIte,reduceCtorEq,N1,N2,N3,N4,N5,N6,N7,I1,I2,I3,I4,L1,e56,Tryz.f56,VN.c,w0,d0,e]
 have d0:¬ (left - (x.kind.size:Nat) < 0) :=by omega
 have w1 :=wrap64 (n :=left - (x.kind.size:Nat) - x.name.size) (by unfold maxLen at *; omega) (by omega)
 by_cases c1:left - (x.kind.size:Nat) < (x.name.size:Nat)
 ·have e:subW left x.w = -1 :=subW_lt (by unfold VN.w; omega)
  have d1:left - (x.kind.size:Nat) - (x.name.size:Int) < 0 :=by omega
  simp only [rA,↓reduceIte,reduceCtorEq,N1,N2,N3,N4,N5,N6,N7,I1,I2,I3,I4,L1,e56,Tryz.f56,VN.c,w0,d0,w1,d1,e]
 have d1:¬ (left - (x.kind.size:Nat) - (x.name.size:Nat) < 0) :=by omega
 have e:subW left x.w = left - (x.kind.size:Nat) - (x.name.size:Nat) :=by rw [subW_ge (by unfold VN.w; omega)]; unfold VN.w; omega
 simp only [rA,↓reduceIte,reduceCtorEq,N1,N2,N3,N4,N5,N6,N7,I1,I2,I3,I4,L1,e56,Tryz.f56,VN.c,w0,d0,w1,d1,e]
theorem k_szBookWantS (l:List VN) (left:Int) (hx:l.length ≤ maxLen ∧ ∀ e ∈ l,e.ok) (h0:0 ≤ left) (h1:left ≤ 1048576):EV Tryz.prog E 25 [.val 0 false [.sl .shr 3 (l.map VN.c)],.val 0 false [.p (.int .i64 left)]] = some ⟨[(false,[.p (.int .i64 (subW left (wSBookWant l)))])],[]⟩ :=by
 refine EV_intro Tryz.func25 rfl ?_
 obtain ⟨hn,hl⟩ :=hx
 have hw :=wrap64 (n :=left - l.length) (by unfold maxLen at hn; omega) (by omega)
 by_cases hc:left - l.length < 0
 ·have e:subW left (wSBookWant l) = -1 :=subW_lt (by unfold wSBookWant; omega)
  simp only [rA,↓reduceIte,reduceCtorEq,N1,N2,N3,N4,N5,N6,N7,I1,I2,I3,I4,L1,e25,Tryz.f25,hw,hc,e]
 ·simp only [rA,↓reduceIte,reduceCtorEq,N1,N2,N3,N4,N5,N6,N7,I1,I2,I3,I4,L1,e25,Tryz.f25,hw,hc]
  rw [for_block l (fun i a =>⟨3,[(0,.val 0 false [.sl .shr 3 (l.map VN.c)]),(1,.val 1 false [.p (.int .i64 a)]),(5,.val 2 false [.p (.int .i64 i)])]⟩) (fun i a =>0 ≤ a ∧ a ≤ 1048576)
   (fun r i a =>if a < (sumWBookWant r:Nat) then .ret ⟨[(false,[.p (.int .i64 (-1))])],[]⟩ else .norm ⟨1,[(1,.val 0 false [.p (.int .i64 (a - (sumWBookWant r:Nat)))])]⟩) ?_ ?_ (a :=left - l.length) ⟨by omega,by omega⟩ (by simp only [rA,↓reduceIte,reduceCtorEq,N1,N2,N3,N4,N5,N6,N7,I1,I2,I3,I4,L1,e25]; rfl)]
  ·by_cases hz:left - l.length < (sumWBookWant l:Nat)
   ·have e:subW left (wSBookWant l) = -1 :=subW_lt (by unfold wSBookWant; omega)
    simp only [rA,↓reduceIte,reduceCtorEq,N1,N2,N3,N4,N5,N6,N7,I1,I2,I3,I4,L1,e25,hz,e]
   ·have e:subW left (wSBookWant l) = left - l.length - (sumWBookWant l:Nat) :=by rw [subW_ge (by unfold wSBookWant; omega)]; unfold wSBookWant; omega
    simp only [rA,↓reduceIte,reduceCtorEq,N1,N2,N3,N4,N5,N6,N7,I1,I2,I3,I4,L1,e25,hz,e]
  ·intro i s r a hd hi ⟨ha,hb⟩
   have hlen :=(List.getElem?_eq_some_iff.1 hi).1
   have hlt:((i:Int) < (l.length:Int)) :=by omega
   have hr :=getElem?_map_some (f :=VN.c) hi
   have hsz :=hl s (List.mem_of_getElem? hi)
   unfold maxLen at hn
   have hwi :=wrap64 (n :=(i:Int) + 1) (by omega) (by omega)
   have hi0:(0:Int) ≤ (i:Int) :=by omega
   simp only [VN.c] at hr
   have hk :=k_szBookWant s a hsz ha hb
   simp only [VN.c] at hk
   by_cases hcs:a < (s.w:Nat)
   ·right
    rw [subW_lt hcs] at hk
    have e:a < (sumWBookWant (s :: r):Nat) :=by simp only [sumWBookWant]; omega
    simp only [rA,↓reduceIte,reduceCtorEq,N1,N2,N3,N4,N5,N6,N7,I1,I2,I3,I4,L1,e25,e56,hlt,hr,hk,hwi,hi0,e]
   ·left
    rw [subW_ge hcs] at hk
    have hnn:¬ (a - (s.w:Nat) < 0) :=by omega
    refine ⟨a - (s.w:Nat),?_,⟨by omega,by omega⟩,?_⟩
    ·simp only [rA,↓reduceIte,reduceCtorEq,N1,N2,N3,N4,N5,N6,N7,I1,I2,I3,I4,L1,e25,e56,hlt,hr,hk,hnn,hwi,hi0,i64c]
    ·have e1:(a < (sumWBookWant (s :: r):Nat)) ↔ (a - (s.w:Nat) < (sumWBookWant r:Nat)) :=by simp only [sumWBookWant]; omega
     have e2:a - (sumWBookWant (s :: r):Nat) = a - (s.w:Nat) - (sumWBookWant r:Nat) :=by simp only [sumWBookWant]; omega
     simp only [e1,e2]
  ·intro a ⟨ha,hb⟩
   have e:¬ (a < (sumWBookWant []:Nat)) :=by simp only [sumWBookWant]; omega
   have e2:a - (sumWBookWant []:Nat) = a :=by simp only [sumWBookWant]; omega
   simp only [rA,↓reduceIte,reduceCtorEq,N1,N2,N3,N4,N5,N6,N7,I1,I2,I3,I4,L1,e25,e,e2]
theorem k_szBookWriteS (l:List VW) (left:Int) (hx:l.length ≤ maxLen ∧ ∀ e ∈ l,e.ok) (h0:0 ≤ left) (h1:left ≤ 1048576):EV Tryz.prog E 26 [.val 0 false [.sl .shr 6 (l.map VW.c)],.val 0 false [.p (.int .i64 left)]] = some ⟨[(false,[.p (.int .i64 (subW left (wSBookWrite l)))])],[]⟩ :=by
 refine EV_intro Tryz.func26 rfl ?_
 obtain ⟨hn,hl⟩ :=hx
 have hw :=wrap64 (n :=left - l.length) (by unfold maxLen at hn; omega) (by omega)
 by_cases hc:left - l.length < 0
 ·have e:subW left (wSBookWrite l) = -1 :=subW_lt (by unfold wSBookWrite; omega)
  simp only [rA,↓reduceIte,reduceCtorEq,N1,N2,N3,N4,N5,N6,N7,I1,I2,I3,I4,L1,e26,Tryz.f26,hw,hc,e]
 ·simp only [rA,↓reduceIte,reduceCtorEq,N1,N2,N3,N4,N5,N6,N7,I1,I2,I3,I4,L1,e26,Tryz.f26,hw,hc]
  rw [for_block l (fun i a =>⟨3,[(0,.val 0 false [.sl .shr 6 (l.map VW.c)]),(1,.val 1 false [.p (.int .i64 a)]),(5,.val 2 false [.p (.int .i64 i)])]⟩) (fun i a =>0 ≤ a ∧ a ≤ 1048576)
   (fun r i a =>if a < (sumWBookWrite r:Nat) then .ret ⟨[(false,[.p (.int .i64 (-1))])],[]⟩ else .norm ⟨1,[(1,.val 0 false [.p (.int .i64 (a - (sumWBookWrite r:Nat)))])]⟩) ?_ ?_ (a :=left - l.length) ⟨by omega,by omega⟩ (by simp only [rA,↓reduceIte,reduceCtorEq,N1,N2,N3,N4,N5,N6,N7,I1,I2,I3,I4,L1,e26]; rfl)]
  ·by_cases hz:left - l.length < (sumWBookWrite l:Nat)
   ·have e:subW left (wSBookWrite l) = -1 :=subW_lt (by unfold wSBookWrite; omega)
    simp only [rA,↓reduceIte,reduceCtorEq,N1,N2,N3,N4,N5,N6,N7,I1,I2,I3,I4,L1,e26,hz,e]
   ·have e:subW left (wSBookWrite l) = left - l.length - (sumWBookWrite l:Nat) :=by rw [subW_ge (by unfold wSBookWrite; omega)]; unfold wSBookWrite; omega
    simp only [rA,↓reduceIte,reduceCtorEq,N1,N2,N3,N4,N5,N6,N7,I1,I2,I3,I4,L1,e26,hz,e]
  ·intro i s r a hd hi ⟨ha,hb⟩
   have hlen :=(List.getElem?_eq_some_iff.1 hi).1
   have hlt:((i:Int) < (l.length:Int)) :=by omega
   have hr :=getElem?_map_some (f :=VW.c) hi
   have hsz :=hl s (List.mem_of_getElem? hi)
   unfold maxLen at hn
   have hwi :=wrap64 (n :=(i:Int) + 1) (by omega) (by omega)
   have hi0:(0:Int) ≤ (i:Int) :=by omega
   simp only [VW.c] at hr
   have hk :=k_szBookWrite s a hsz ha hb
   simp only [VW.c] at hk
   by_cases hcs:a < (s.w:Nat)
   ·right
    rw [subW_lt hcs] at hk
    have e:a < (sumWBookWrite (s :: r):Nat) :=by simp only [sumWBookWrite]; omega
    simp only [rA,↓reduceIte,reduceCtorEq,N1,N2,N3,N4,N5,N6,N7,I1,I2,I3,I4,L1,e26,e18,hlt,hr,hk,hwi,hi0,e]
   ·left
    rw [subW_ge hcs] at hk
    have hnn:¬ (a - (s.w:Nat) < 0) :=by omega
    refine ⟨a - (s.w:Nat),?_,⟨by omega,by omega⟩,?_⟩
    ·simp only [rA,↓reduceIte,reduceCtorEq,N1,N2,N3,N4,N5,N6,N7,I1,I2,I3,I4,L1,e26,e18,hlt,hr,hk,hnn,hwi,hi0,i64c]
    ·have e1:(a < (sumWBookWrite (s :: r):Nat)) ↔ (a - (s.w:Nat) < (sumWBookWrite r:Nat)) :=by simp only [sumWBookWrite]; omega
     have e2:a - (sumWBookWrite (s :: r):Nat) = a - (s.w:Nat) - (sumWBookWrite r:Nat) :=by simp only [sumWBookWrite]; omega
     simp only [e1,e2]
  ·intro a ⟨ha,hb⟩
   have e:¬ (a < (sumWBookWrite []:Nat)) :=by simp only [sumWBookWrite]; omega
   have e2:a - (sumWBookWrite []:Nat) = a :=by simp only [sumWBookWrite]; omega
   simp only [rA,↓reduceIte,reduceCtorEq,N1,N2,N3,N4,N5,N6,N7,I1,I2,I3,I4,L1,e26,e,e2]
theorem k_szBookBundle (x:VU) (left:Int) (hx:x.ok) (h0:0 ≤ left) (h1:left ≤ 1048576):EV Tryz.prog E 6 [.val 0 true (VU.c .shr x),.val 0 false [.p (.int .i64 left)]] = some ⟨[(false,[.p (.int .i64 (subW left x.w))])],[]⟩ :=by
 refine EV_intro Tryz.func6 rfl ?_
 have hx0 :=hx
 simp only [VU.ok] at hx
 obtain ⟨o_wants,o_writes⟩ :=hx
 have w0 :=k_szBookWantS x.wants (left) o_wants (by omega) (by omega)
 by_cases c0:left < (wSBookWant x.wants:Nat)
 ·have e:subW left x.w = -1 :=subW_lt (by unfold VU.w; omega)
  rw [subW_lt c0] at w0
  simp only [rA,↓reduceIte,reduceCtorEq,N1,N2,N3,N4,N5,N6,N7,I1,I2,I3,I4,L1,e6,e25,Tryz.f6,VU.c,w0,e]
 rw [subW_ge c0] at w0
 have d0:¬ (left - (wSBookWant x.wants:Nat) < 0) :=by omega
 have w1 :=k_szBookWriteS x.writes (left - (wSBookWant x.wants:Nat)) o_writes (by omega) (by omega)
 by_cases c1:left - (wSBookWant x.wants:Nat) < (wSBookWrite x.writes:Nat)
 ·have e:subW left x.w = -1 :=subW_lt (by unfold VU.w; omega)
  rw [subW_lt c1] at w1
  simp only [rA,↓reduceIte,reduceCtorEq,N1,N2,N3,N4,N5,N6,N7,I1,I2,I3,I4,L1,e6,e25,e26,Tryz.f6,VU.c,w0,d0,w1,e]
 rw [subW_ge c1] at w1
 have d1:¬ (left - (wSBookWant x.wants:Nat) - (wSBookWrite x.writes:Nat) < 0) :=by omega
 have e:subW left x.w = left - (wSBookWant x.wants:Nat) - (wSBookWrite x.writes:Nat) :=by rw [subW_ge (by unfold VU.w; omega)]; unfold VU.w; omega
 simp only [rA,↓reduceIte,reduceCtorEq,N1,N2,N3,N4,N5,N6,N7,I1,I2,I3,I4,L1,e6,e25,e26,Tryz.f6,VU.c,w0,d0,w1,d1,e]
theorem k_toBookWant (x:VN) (hw:x.w ≤ 4194304):EV Tryz.prog E 69 [.val 0 true (VN.c x)] = some ⟨[(true,VN.c x)],[]⟩ :=by
 refine EV_intro Tryz.func69 rfl ?_
 unfold VN.w at hw
 simp only [rA,↓reduceIte,reduceCtorEq,N1,N2,N3,N4,N5,N6,N7,I1,I2,I3,I4,L1,e69,Tryz.f69,VN.c]
theorem k_toBookWantS (l:List VN) (hw:wSBookWant l ≤ 4194304):EV Tryz.prog E 33 [.val 0 false [.sl .shr 3 (l.map VN.c)]] = some ⟨[(false,[.sl .own 3 (l.map VN.c)])],[]⟩ :=by
 refine EV_intro Tryz.func33 rfl ?_
 have hn:l.length ≤ 4194304 :=by unfold wSBookWant at hw; omega
 have h1:l.length < 4294967296 :=by omega
 have h0:(0:Int) ≤ (l.length:Int) :=by omega
 have hz :=repl_whole (z :=[.p (.string ⟨#[]⟩),.p (.string ⟨#[]⟩),.p (.int .i64 0)]) (by simp only [rA,↓reduceIte,reduceCtorEq,N1,N2,N3,N4,N5,N6,N7,I1,I2,I3,I4,L1,Fl.isShr,Fl.isOwn]) l.length
 simp only [rA,↓reduceIte,reduceCtorEq,N1,N2,N3,N4,N5,N6,N7,I1,I2,I3,I4,L1,e33,Tryz.f33,LIM,h1,h0,hz]
 rw [for_block l (fun i (_:Unit) =>⟨3,[(0,.val 0 false [.sl .shr 3 (l.map VN.c)]),(3,.val 1 false [.sl .own 3 (fillR VN.c l [.p (.string ⟨#[]⟩),.p (.string ⟨#[]⟩),.p (.int .i64 0)] i)]),(4,.val 2 false [.p (.int .i64 i)])]⟩) (fun i _ =>True)
   (fun r i a =>.norm ⟨1,[(3,.val 0 false [.sl .own 3 (l.map VN.c)])]⟩) ?_ ?_ (a :=()) trivial (by simp only [rA,↓reduceIte,reduceCtorEq,N1,N2,N3,N4,N5,N6,N7,I1,I2,I3,I4,L1,e33,fill_zero]; rfl)]
 ·simp only [rA,↓reduceIte,reduceCtorEq,N1,N2,N3,N4,N5,N6,N7,I1,I2,I3,I4,L1,e33,rowsBookWant]
 ·intro i s r a hd hi _
  have hlen :=(List.getElem?_eq_some_iff.1 hi).1
  have hlt:((i:Int) < (l.length:Int)) :=by omega
  have hr :=getElem?_map_some (f :=VN.c) hi
  have hwi :=wrap64 (n :=(i:Int) + 1) (by omega) (by omega)
  have hi0:(0:Int) ≤ (i:Int) :=by omega
  have hg :=fill_get VN.c [.p (.string ⟨#[]⟩),.p (.string ⟨#[]⟩),.p (.int .i64 0)] hlen
  have hs :=fill_set VN.c [.p (.string ⟨#[]⟩),.p (.string ⟨#[]⟩),.p (.int .i64 0)] hi
  have hfl :=fill_length VN.c l [.p (.string ⟨#[]⟩),.p (.string ⟨#[]⟩),.p (.int .i64 0)] (Nat.le_of_lt hlen)
  simp only [VN.c] at hr hs
  have hm :=k_toBookWant s (by have :=wSBookWant_mem (List.mem_of_getElem? hi); unfold wSBookWant at hw; omega)
  simp only [VN.c] at hm
  left
  refine ⟨(),?_,trivial,rfl⟩
  simp only [rA,↓reduceIte,reduceCtorEq,N1,N2,N3,N4,N5,N6,N7,I1,I2,I3,I4,L1,e33,e69,hlt,hr,hm,hwi,hi0,hg,hs,hfl,hlen,i64c]
 ·intro a _
  simp only [rA,↓reduceIte,reduceCtorEq,N1,N2,N3,N4,N5,N6,N7,I1,I2,I3,I4,L1,e33,fill_end]
theorem k_toBookWriteS (l:List VW) (hw:wSBookWrite l ≤ 4194304):EV Tryz.prog E 34 [.val 0 false [.sl .shr 6 (l.map VW.c)]] = some ⟨[(false,[.sl .own 6 (l.map VW.c)])],[]⟩ :=by
 refine EV_intro Tryz.func34 rfl ?_
 have hn:l.length ≤ 4194304 :=by unfold wSBookWrite at hw; omega
 have h1:l.length < 4294967296 :=by omega
 have h0:(0:Int) ≤ (l.length:Int) :=by omega
 have hz :=repl_whole (z :=[.p (.int .i64 0),.p (.string ⟨#[]⟩),.p (.string ⟨#[]⟩),.p (.int .i64 0),.p (.string ⟨#[]⟩),.p (.string ⟨#[]⟩)]) (by simp only [rA,↓reduceIte,reduceCtorEq,N1,N2,N3,N4,N5,N6,N7,I1,I2,I3,I4,L1,Fl.isShr,Fl.isOwn]) l.length
 simp only [rA,↓reduceIte,reduceCtorEq,N1,N2,N3,N4,N5,N6,N7,I1,I2,I3,I4,L1,e34,Tryz.f34,LIM,h1,h0,hz]
 rw [for_block l (fun i (_:Unit) =>⟨3,[(0,.val 0 false [.sl .shr 6 (l.map VW.c)]),(3,.val 1 false [.sl .own 6 (fillR VW.c l [.p (.int .i64 0),.p (.string ⟨#[]⟩),.p (.string ⟨#[]⟩),.p (.int .i64 0),.p (.string ⟨#[]⟩),.p (.string ⟨#[]⟩)] i)]),(4,.val 2 false [.p (.int .i64 i)])]⟩) (fun i _ =>True)
   (fun r i a =>.norm ⟨1,[(3,.val 0 false [.sl .own 6 (l.map VW.c)])]⟩) ?_ ?_ (a :=()) trivial (by simp only [rA,↓reduceIte,reduceCtorEq,N1,N2,N3,N4,N5,N6,N7,I1,I2,I3,I4,L1,e34,fill_zero]; rfl)]
 ·simp only [rA,↓reduceIte,reduceCtorEq,N1,N2,N3,N4,N5,N6,N7,I1,I2,I3,I4,L1,e34,rowsBookWrite]
 ·intro i s r a hd hi _
  have hlen :=(List.getElem?_eq_some_iff.1 hi).1
  have hlt:((i:Int) < (l.length:Int)) :=by omega
  have hr :=getElem?_map_some (f :=VW.c) hi
  have hwi :=wrap64 (n :=(i:Int) + 1) (by omega) (by omega)
  have hi0:(0:Int) ≤ (i:Int) :=by omega
  have hg :=fill_get VW.c [.p (.int .i64 0),.p (.string ⟨#[]⟩),.p (.string ⟨#[]⟩),.p (.int .i64 0),.p (.string ⟨#[]⟩),.p (.string ⟨#[]⟩)] hlen
  have hs :=fill_set VW.c [.p (.int .i64 0),.p (.string ⟨#[]⟩),.p (.string ⟨#[]⟩),.p (.int .i64 0),.p (.string ⟨#[]⟩),.p (.string ⟨#[]⟩)] hi
  have hfl :=fill_length VW.c l [.p (.int .i64 0),.p (.string ⟨#[]⟩),.p (.string ⟨#[]⟩),.p (.int .i64 0),.p (.string ⟨#[]⟩),.p (.string ⟨#[]⟩)] (Nat.le_of_lt hlen)
  simp only [VW.c] at hr hs
  have hm :=k_toBookWrite s (by have :=wSBookWrite_mem (List.mem_of_getElem? hi); unfold wSBookWrite at hw; omega)
  simp only [VW.c] at hm
  left
  refine ⟨(),?_,trivial,rfl⟩
  simp only [rA,↓reduceIte,reduceCtorEq,N1,N2,N3,N4,N5,N6,N7,I1,I2,I3,I4,L1,e34,e20,hlt,hr,hm,hwi,hi0,hg,hs,hfl,hlen,i64c]
 ·intro a _
  simp only [rA,↓reduceIte,reduceCtorEq,N1,N2,N3,N4,N5,N6,N7,I1,I2,I3,I4,L1,e34,fill_end]
theorem k_toBookBundle (x:VU) (hw:x.w ≤ 4194304):EV Tryz.prog E 9 [.val 0 true (VU.c .shr x)] = some ⟨[(true,VU.c .own x)],[]⟩ :=by
 refine EV_intro Tryz.func9 rfl ?_
 unfold VU.w at hw
 have h0 :=k_toBookWantS x.wants (by omega)
 have h1 :=k_toBookWriteS x.writes (by omega)
 simp only [rA,↓reduceIte,reduceCtorEq,N1,N2,N3,N4,N5,N6,N7,I1,I2,I3,I4,L1,e9,e33,e34,Tryz.f9,VU.c,h0,h1,rowsBookWant,rowsBookWrite]
theorem k_eqBookWant (x:VN) (hw:x.w ≤ 4194304):EV Tryz.prog E 81 [.val 0 true (VN.c x),.val 0 true (VN.c x)] = some ⟨[(false,[.p (.bool true)])],[]⟩ :=by
 refine EV_intro Tryz.func81 rfl ?_
 unfold VN.w at hw
 simp only [rA,↓reduceIte,reduceCtorEq,N1,N2,N3,N4,N5,N6,N7,I1,I2,I3,I4,L1,e81,Tryz.f81,VN.c,beq_self_eq_true]
theorem k_eqBookWantS (l:List VN) (hw:wSBookWant l ≤ 4194304):EV Tryz.prog E 42 [.val 0 false [.sl .shr 3 (l.map VN.c)],.val 0 false [.sl .shr 3 (l.map VN.c)]] = some ⟨[(false,[.p (.bool true)])],[]⟩ :=by
 refine EV_intro Tryz.func42 rfl ?_
 have hn:l.length ≤ 4194304 :=by unfold wSBookWant at hw; omega
 simp only [rA,↓reduceIte,reduceCtorEq,N1,N2,N3,N4,N5,N6,N7,I1,I2,I3,I4,L1,e42,Tryz.f42]
 rw [for_block l (fun i (_:Unit) =>⟨3,[(0,.val 0 false [.sl .shr 3 (l.map VN.c)]),(1,.val 1 false [.sl .shr 3 (l.map VN.c)]),(5,.val 2 false [.p (.int .i64 i)])]⟩) (fun i _ =>True)
   (fun r i a =>.norm ⟨0,[]⟩) ?_ ?_ (a :=()) trivial (by simp only [rA,↓reduceIte,reduceCtorEq,N1,N2,N3,N4,N5,N6,N7,I1,I2,I3,I4,L1,e42]; rfl)]
 ·simp only [rA,↓reduceIte,reduceCtorEq,N1,N2,N3,N4,N5,N6,N7,I1,I2,I3,I4,L1,e42]
 ·intro i s r a hd hi _
  have hlen :=(List.getElem?_eq_some_iff.1 hi).1
  have hlt:((i:Int) < (l.length:Int)) :=by omega
  have hr :=getElem?_map_some (f :=VN.c) hi
  have hwi :=wrap64 (n :=(i:Int) + 1) (by omega) (by omega)
  have hi0:(0:Int) ≤ (i:Int) :=by omega
  simp only [VN.c] at hr
  have hm :=k_eqBookWant s (by have :=wSBookWant_mem (List.mem_of_getElem? hi); unfold wSBookWant at hw; omega)
  simp only [VN.c] at hm
  left
  refine ⟨(),?_,trivial,rfl⟩
  simp only [rA,↓reduceIte,reduceCtorEq,N1,N2,N3,N4,N5,N6,N7,I1,I2,I3,I4,L1,e42,e81,hlt,hr,hm,hwi,hi0,i64c,beq_self_eq_true]
 ·intro a _
  simp only [rA,↓reduceIte,reduceCtorEq,N1,N2,N3,N4,N5,N6,N7,I1,I2,I3,I4,L1,e42]
theorem k_eqBookWrite (x:VW) (hw:x.w ≤ 4194304):EV Tryz.prog E 82 [.val 0 true (VW.c x),.val 0 true (VW.c x)] = some ⟨[(false,[.p (.bool true)])],[]⟩ :=by
 refine EV_intro Tryz.func82 rfl ?_
 unfold VW.w at hw
 simp only [rA,↓reduceIte,reduceCtorEq,N1,N2,N3,N4,N5,N6,N7,I1,I2,I3,I4,L1,e82,Tryz.f82,VW.c,beq_self_eq_true]
theorem k_eqBookWriteS (l:List VW) (hw:wSBookWrite l ≤ 4194304):EV Tryz.prog E 43 [.val 0 false [.sl .shr 6 (l.map VW.c)],.val 0 false [.sl .shr 6 (l.map VW.c)]] = some ⟨[(false,[.p (.bool true)])],[]⟩ :=by
 refine EV_intro Tryz.func43 rfl ?_
 have hn:l.length ≤ 4194304 :=by unfold wSBookWrite at hw; omega
 simp only [rA,↓reduceIte,reduceCtorEq,N1,N2,N3,N4,N5,N6,N7,I1,I2,I3,I4,L1,e43,Tryz.f43]
 rw [for_block l (fun i (_:Unit) =>⟨3,[(0,.val 0 false [.sl .shr 6 (l.map VW.c)]),(1,.val 1 false [.sl .shr 6 (l.map VW.c)]),(5,.val 2 false [.p (.int .i64 i)])]⟩) (fun i _ =>True)
   (fun r i a =>.norm ⟨0,[]⟩) ?_ ?_ (a :=()) trivial (by simp only [rA,↓reduceIte,reduceCtorEq,N1,N2,N3,N4,N5,N6,N7,I1,I2,I3,I4,L1,e43]; rfl)]
 ·simp only [rA,↓reduceIte,reduceCtorEq,N1,N2,N3,N4,N5,N6,N7,I1,I2,I3,I4,L1,e43]
 ·intro i s r a hd hi _
  have hlen :=(List.getElem?_eq_some_iff.1 hi).1
  have hlt:((i:Int) < (l.length:Int)) :=by omega
  have hr :=getElem?_map_some (f :=VW.c) hi
  have hwi :=wrap64 (n :=(i:Int) + 1) (by omega) (by omega)
  have hi0:(0:Int) ≤ (i:Int) :=by omega
  simp only [VW.c] at hr
  have hm :=k_eqBookWrite s (by have :=wSBookWrite_mem (List.mem_of_getElem? hi); unfold wSBookWrite at hw; omega)
  simp only [VW.c] at hm
  left
  refine ⟨(),?_,trivial,rfl⟩
  simp only [rA,↓reduceIte,reduceCtorEq,N1,N2,N3,N4,N5,N6,N7,I1,I2,I3,I4,L1,e43,e82,hlt,hr,hm,hwi,hi0,i64c,beq_self_eq_true]
 ·intro a _
  simp only [rA,↓reduceIte,reduceCtorEq,N1,N2,N3,N4,N5,N6,N7,I1,I2,I3,I4,L1,e43]
theorem k_eqBookBundle (x:VU) (hw:x.w ≤ 4194304):EV Tryz.prog E 13 [.val 0 true (VU.c .shr x),.val 0 true (VU.c .shr x)] = some ⟨[(false,[.p (.bool true)])],[]⟩ :=by
 refine EV_intro Tryz.func13 rfl ?_
 unfold VU.w at hw
 have h0 :=k_eqBookWantS x.wants (by omega)
 have h1 :=k_eqBookWriteS x.writes (by omega)
 simp only [rA,↓reduceIte,reduceCtorEq,N1,N2,N3,N4,N5,N6,N7,I1,I2,I3,I4,L1,e13,e42,e43,Tryz.f13,VU.c,h0,h1,beq_self_eq_true]
def mkBookWant (x:VN) (k:Int):VN :=⟨mtx (k),mtx (k + 1),k + 1 + 1⟩
def mcBookWant (x:VN):Nat :=1 + 1 + 1
def mkBookWrite (x:VW) (k:Int):VW :=⟨k,mtx (k + 1),mtx (k + 1 + 1),k + 1 + 1 + 1,mtx (k + 1 + 1 + 1 + 1),mtx (k + 1 + 1 + 1 + 1 + 1)⟩
def mcBookWrite (x:VW):Nat :=1 + 1 + 1 + 1 + 1 + 1
def moBookBundle (x:VU) (k:Int):VU :=⟨mkL mkBookWant mcBookWant x.wants (k),mkL mkBookWrite mcBookWrite x.writes (k + (mcL mcBookWant x.wants:Nat))⟩
def ocBookBundle (x:VU):Nat :=mcL mcBookWant x.wants + mcL mcBookWrite x.writes
theorem k_markBookWantS (l:List VN) (k:Int) (h0:0 ≤ k) (hb:k + (mcL mcBookWant l:Nat) ≤ 4611686018427387904):EV Tryz.prog E 47 [.val 0 false [.sl .own 3 (l.map VN.c)],.val 0 false [.p (.int .i64 k)]] = some ⟨[(false,[.p (.int .i64 (k + (mcL mcBookWant l:Nat)))])],[[.sl .own 3 ((mkL mkBookWant mcBookWant l k).map VN.c)]]⟩ :=by
 have hlc :=len_mcL mcBookWant (fun x =>by unfold mcBookWant; omega) l
 refine EV_intro Tryz.func47 rfl ?_
 simp only [rA,↓reduceIte,reduceCtorEq,N1,N2,N3,N4,N5,N6,N7,I1,I2,I3,I4,L1,e47,Tryz.f47]
 rw [for_block l (fun i (a:Int) =>⟨3,[(0,.val 0 false [.sl .own 3 ((mkTo mkBookWant mcBookWant i l k).map VN.c)]),(1,.val 1 false [.p (.int .i64 a)]),(5,.val 2 false [.p (.int .i64 i)])]⟩) (fun i a =>a = kAt mcBookWant l k i)
   (fun r i a =>.norm ⟨2,[(0,.val 0 false [.sl .own 3 ((mkL mkBookWant mcBookWant l k).map VN.c)]),(1,.val 1 false [.p (.int .i64 (k + (mcL mcBookWant l:Nat)))])]⟩) ?_ ?_ (a :=k) (kAt_zero mcBookWant l k).symm (by simp only [rA,↓reduceIte,reduceCtorEq,N1,N2,N3,N4,N5,N6,N7,I1,I2,I3,I4,L1,e47,mkTo_zero]; rfl)]
 ·simp only [rA,↓reduceIte,reduceCtorEq,N1,N2,N3,N4,N5,N6,N7,I1,I2,I3,I4,L1,e47]
 ·rintro i s r a hd hi rfl
  have hlen :=(List.getElem?_eq_some_iff.1 hi).1
  have hlt:((i:Int) < (l.length:Int)) :=by omega
  have hsu :=kAt_succ mcBookWant hi k
  have hge :=kAt_ge mcBookWant l k i
  have hle :=kAt_le mcBookWant hi k
  have hwi :=wrap64 (n :=(i:Int) + 1) (by omega) (by omega)
  have hi0:(0:Int) ≤ (i:Int) :=by omega
  have hr :=getElem?_map_some (f :=VN.c) (mkTo_get mkBookWant mcBookWant hi k)
  have hst :=mkTo_set mkBookWant mcBookWant hi k
  have hlm :=mkTo_length mkBookWant mcBookWant i l k
  have hgs:∀ z:List C,(((mkTo mkBookWant mcBookWant i l k).map VN.c).set i z)[i]? = some z :=fun z =>List.getElem?_set_self (by rw [List.length_map,hlm]; exact hlen)
  generalize kAt mcBookWant l k i = a at *
  simp only [mcBookWant] at hsu hle
  simp only [VN.c,mkBookWant] at hr
  have hm0 :=k_markText (a) (by omega) (by omega)
  have hw0 :=wrap64 (n :=a + 1) (by omega) (by omega)
  have hm1 :=k_markText (a + 1) (by omega) (by omega)
  have hw1 :=wrap64 (n :=a + 1 + 1) (by omega) (by omega)
  have hw2 :=wrap64 (n :=a + 1 + 1 + 1) (by omega) (by omega)
  left
  refine ⟨a + 1 + 1 + 1,?_,by rw [hsu]; omega,rfl⟩
  rw [← hst]
  simp only [rA,↓reduceIte,reduceCtorEq,N1,N2,N3,N4,N5,N6,N7,I1,I2,I3,I4,L1,e47,e83,hlt,hr,hwi,hi0,hlm,hlen,i64c,List.map_set,List.set_set,List.length_set,hgs,VN.c,mkBookWant,hm0,hw0,hm1,hw1,hw2]
 ·rintro a rfl
  simp only [rA,↓reduceIte,reduceCtorEq,N1,N2,N3,N4,N5,N6,N7,I1,I2,I3,I4,L1,e47,kAt_all,mkTo_all,mkL_length]
theorem k_markBookWriteS (l:List VW) (k:Int) (h0:0 ≤ k) (hb:k + (mcL mcBookWrite l:Nat) ≤ 4611686018427387904):EV Tryz.prog E 48 [.val 0 false [.sl .own 6 (l.map VW.c)],.val 0 false [.p (.int .i64 k)]] = some ⟨[(false,[.p (.int .i64 (k + (mcL mcBookWrite l:Nat)))])],[[.sl .own 6 ((mkL mkBookWrite mcBookWrite l k).map VW.c)]]⟩ :=by
 have hlc :=len_mcL mcBookWrite (fun x =>by unfold mcBookWrite; omega) l
 refine EV_intro Tryz.func48 rfl ?_
 simp only [rA,↓reduceIte,reduceCtorEq,N1,N2,N3,N4,N5,N6,N7,I1,I2,I3,I4,L1,e48,Tryz.f48]
 rw [for_block l (fun i (a:Int) =>⟨3,[(0,.val 0 false [.sl .own 6 ((mkTo mkBookWrite mcBookWrite i l k).map VW.c)]),(1,.val 1 false [.p (.int .i64 a)]),(5,.val 2 false [.p (.int .i64 i)])]⟩) (fun i a =>a = kAt mcBookWrite l k i)
   (fun r i a =>.norm ⟨2,[(0,.val 0 false [.sl .own 6 ((mkL mkBookWrite mcBookWrite l k).map VW.c)]),(1,.val 1 false [.p (.int .i64 (k + (mcL mcBookWrite l:Nat)))])]⟩) ?_ ?_ (a :=k) (kAt_zero mcBookWrite l k).symm (by simp only [rA,↓reduceIte,reduceCtorEq,N1,N2,N3,N4,N5,N6,N7,I1,I2,I3,I4,L1,e48,mkTo_zero]; rfl)]
 ·simp only [rA,↓reduceIte,reduceCtorEq,N1,N2,N3,N4,N5,N6,N7,I1,I2,I3,I4,L1,e48]
 ·rintro i s r a hd hi rfl
  have hlen :=(List.getElem?_eq_some_iff.1 hi).1
  have hlt:((i:Int) < (l.length:Int)) :=by omega
  have hsu :=kAt_succ mcBookWrite hi k
  have hge :=kAt_ge mcBookWrite l k i
  have hle :=kAt_le mcBookWrite hi k
  have hwi :=wrap64 (n :=(i:Int) + 1) (by omega) (by omega)
  have hi0:(0:Int) ≤ (i:Int) :=by omega
  have hr :=getElem?_map_some (f :=VW.c) (mkTo_get mkBookWrite mcBookWrite hi k)
  have hst :=mkTo_set mkBookWrite mcBookWrite hi k
  have hlm :=mkTo_length mkBookWrite mcBookWrite i l k
  have hgs:∀ z:List C,(((mkTo mkBookWrite mcBookWrite i l k).map VW.c).set i z)[i]? = some z :=fun z =>List.getElem?_set_self (by rw [List.length_map,hlm]; exact hlen)
  generalize kAt mcBookWrite l k i = a at *
  simp only [mcBookWrite] at hsu hle
  simp only [VW.c,mkBookWrite] at hr
  have hw0 :=wrap64 (n :=a + 1) (by omega) (by omega)
  have hm1 :=k_markText (a + 1) (by omega) (by omega)
  have hw1 :=wrap64 (n :=a + 1 + 1) (by omega) (by omega)
  have hm2 :=k_markText (a + 1 + 1) (by omega) (by omega)
  have hw2 :=wrap64 (n :=a + 1 + 1 + 1) (by omega) (by omega)
  have hw3 :=wrap64 (n :=a + 1 + 1 + 1 + 1) (by omega) (by omega)
  have hm4 :=k_markText (a + 1 + 1 + 1 + 1) (by omega) (by omega)
  have hw4 :=wrap64 (n :=a + 1 + 1 + 1 + 1 + 1) (by omega) (by omega)
  have hm5 :=k_markText (a + 1 + 1 + 1 + 1 + 1) (by omega) (by omega)
  have hw5 :=wrap64 (n :=a + 1 + 1 + 1 + 1 + 1 + 1) (by omega) (by omega)
  left
  refine ⟨a + 1 + 1 + 1 + 1 + 1 + 1,?_,by rw [hsu]; omega,rfl⟩
  rw [← hst]
  simp only [rA,↓reduceIte,reduceCtorEq,N1,N2,N3,N4,N5,N6,N7,I1,I2,I3,I4,L1,e48,e83,hlt,hr,hwi,hi0,hlm,hlen,i64c,List.map_set,List.set_set,List.length_set,hgs,VW.c,mkBookWrite,hw0,hm1,hw1,hm2,hw2,hw3,hm4,hw4,hm5,hw5]
 ·rintro a rfl
  simp only [rA,↓reduceIte,reduceCtorEq,N1,N2,N3,N4,N5,N6,N7,I1,I2,I3,I4,L1,e48,kAt_all,mkTo_all,mkL_length]
theorem k_markBookBundle (x:VU) (k:Int) (h0:0 ≤ k) (hb:k + (ocBookBundle x:Nat) ≤ 4611686018427387904):EV Tryz.prog E 15 [.val 0 true (VU.c .own x),.val 0 false [.p (.int .i64 k)]] = some ⟨[(false,[.p (.int .i64 (k + (ocBookBundle x:Nat)))])],[VU.c .own (moBookBundle x k)]⟩ :=by
 refine EV_intro Tryz.func15 rfl ?_
 unfold ocBookBundle at hb ⊢
 have hm0 :=k_markBookWantS x.wants (k) (by omega) (by omega)
 have hm1 :=k_markBookWriteS x.writes (k + (mcL mcBookWant x.wants:Nat)) (by omega) (by omega)
 have he:k + ((mcL mcBookWant x.wants + mcL mcBookWrite x.writes:Nat):Int) = k + (mcL mcBookWant x.wants:Nat) + (mcL mcBookWrite x.writes:Nat) :=by omega
 rw [he]
 simp only [rA,↓reduceIte,reduceCtorEq,N1,N2,N3,N4,N5,N6,N7,I1,I2,I3,I4,L1,e15,e47,e48,Tryz.f15,VU.c,moBookBundle,hm0,hm1,rowsBookWant,rowsBookWrite]
theorem mc_leBookWant (x:VN):mcBookWant x ≤ 3 + 3 * x.w :=by
 unfold mcBookWant VN.w
 omega
theorem mcL_leBookWant (l:List VN):mcL mcBookWant l ≤ 3 * wSBookWant l :=by
 unfold wSBookWant
 induction l with
 | nil =>simp [mcL]
 | cons x r ih =>
  have :=mc_leBookWant x
  simp only [mcL,sumWBookWant,List.length_cons]
  omega
theorem mc_leBookWrite (x:VW):mcBookWrite x ≤ 6 + 6 * x.w :=by
 unfold mcBookWrite VW.w
 omega
theorem mcL_leBookWrite (l:List VW):mcL mcBookWrite l ≤ 6 * wSBookWrite l :=by
 unfold wSBookWrite
 induction l with
 | nil =>simp [mcL]
 | cons x r ih =>
  have :=mc_leBookWrite x
  simp only [mcL,sumWBookWrite,List.length_cons]
  omega
theorem oc_leBookBundle (x:VU):ocBookBundle x ≤ 6 * x.w :=by
 have h0 :=mcL_leBookWant x.wants
 have h1 :=mcL_leBookWrite x.writes
 unfold ocBookBundle VU.w
 omega
def wantB (x:VN):Bool :=nameB x.kind && (nameB x.name && decide (0 ≤ x.version))
def bunB (x:VU):Bool :=decide ((x.wants.length:Int) ≤ 10) && (decide ((x.writes.length:Int) ≤ 10) && (x.wants.all wantB && x.writes.all wrB))
def wantF (b:VBook):List VN → Nat → Option Nat
 | [],_ =>none
 | x :: r,i =>if (bfind b.objects x.kind x.name).1.version = x.version then wantF b r (i + 1) else some i
abbrev stepB (b:VBook) (w:VW):VBook :=bookS b w (fO b w) (fT b w)
abbrev stepC (b:VBook) (w:VW):Int :=chC b w (fO b w) (fT b w)
def runW:List VW → Nat → VBook → Int × Nat × VBook
 | [],_,b =>(0,0,b)
 | w :: r,i,b =>if stepC b w = 0 then runW r (i + 1) (stepB b w) else (stepC b w,i,b)
structure GoodB (n:Nat) (b:VBook):Prop where
 asc:AscO b
 small:∀ o ∈ b.objects,o.w ≤ 1000 * (n + 1)
 w:b.w ≤ 1048576 + 24000 * n
 lo:0 ≤ b.now
 hi:b.now ≤ 1000000
theorem name_sz {s:ByteArray} (h:nameB s = true):s.size ≤ 20 :=by
 simp only [nameB,Bool.and_eq_true,decide_eq_true_eq] at h
 omega
theorem ascF_sz:∀ (l:List ByteArray) (p:Option ByteArray),ascF p l = true → sumWString l ≤ 20 * l.length
 | [],_,_ =>by simp [sumWString]
 | x :: r,none,h =>by
  simp only [ascF,Bool.and_eq_true] at h
  have h1 :=name_sz h.1
  have h2 :=ascF_sz r (some x) h.2
  simp only [sumWString,List.length_cons]
  omega
 | x :: r,some p,h =>by
  simp only [ascF,Bool.and_eq_true] at h
  have h1 :=name_sz h.1
  have h2 :=ascF_sz r (some x) h.2.2
  simp only [sumWString,List.length_cons]
  omega
theorem parts_sz {o:VO} {n:Int} (h:partsB o n = true):o.w ≤ 1000 :=by
 simp only [partsB,Bool.and_eq_true,decide_eq_true_eq] at h
 obtain ⟨h1,h2,_,_,h3,h4,h5⟩ :=h
 have a :=name_sz h1
 have c :=name_sz h2
 have d :=ascF_sz _ _ h5
 unfold VO.w wSString
 omega
theorem good_valid {b:VBook} (h:implB b = true) (hw:b.w ≤ 1048576):GoodB 0 b :=
 ⟨valid_asc h,fun o ho =>parts_sz (valid_parts h o ho),by omega,(valid_now h).1,(valid_now h).2⟩
theorem wr_sz {w:VW} (h:wrB w = true):w.w ≤ 998 :=by
 simp only [wrB,Bool.and_eq_true,Bool.or_eq_true,decide_eq_true_eq] at h
 obtain ⟨_,h1,h2,_,h3,h4,_⟩ :=h
 have a :=name_sz h1
 have c :=name_sz h2
 have d:w.hold.size ≤ 20 :=by
  rcases h4 with h4 | h4
  ·rw [h4]; decide
  ·exact name_sz h4
 unfold VW.w
 omega
theorem putR_mem (o:VO):∀ (g:Bool) (l:List VO) {y:VO},y ∈ putR o g l → y = o ∨ y ∈ l
 | g,[],y,h =>by
  unfold putR at h
  split at h
  ·cases h
  ·left; simpa using h
 | g,x :: r,y,h =>by
  simp only [putR,List.mem_append] at h
  rcases h with h | h | h
  ·split at h
   ·left; simpa using h
   ·cases h
  ·split at h
   ·right; simp at h; simp [h]
   ·cases h
  ·rcases putR_mem o _ r h with h | h
   ·exact .inl h
   ·exact .inr (List.mem_cons_of_mem _ h)
theorem find_small {b:VBook} {n:Nat} (h:∀ o ∈ b.objects,o.w ≤ n) (k m:ByteArray):(bfind b.objects k m).1.w ≤ n :=by
 unfold bfind
 cases e:b.objects.find? (isKey k m) with
 | none =>
  have z:(⟨#[]⟩:ByteArray).size = 0 :=rfl
  simp [nilObj,VO.w,wSString,sumWString,z]
 | some o =>exact h o (List.mem_of_find?_eq_some e)
theorem chO_asc {b:VBook} {w:VW} {o:VO} {t:Bool} (ha:Asc o.holds) (h0:chC b w o t = 0) (h5:w.op ≤ 5) (h1:1 ≤ w.op) (v:Int):Asc (chO insS delS w v o).holds :=by
 by_cases o4:w.op = 4
 ·have hn:hasF w.hold o.holds = false :=by
   cases e:hasF w.hold o.holds with
   | false =>rfl
   | true =>
    exfalso
    unfold chC at h0
    split at h0
    ·omega
    split at h0
    ·omega
    split at h0
    ·omega
    split at h0
    ·omega
    split at h0
    ·omega
    ·rename_i hx
     exact hx ⟨o4,e⟩
  simpa [chO,o4] using insS_asc ha hn
 ·by_cases o5:w.op = 5
  ·have:Asc (delS o.holds w.hold) :=List.Pairwise.filter _ ha
   simpa [chO,o5] using this
  ·unfold chO
   by_cases o1:w.op = 1
   ·rw [if_pos o1]
    simp only
    split
    ·exact List.Pairwise.nil
    ·exact List.pairwise_singleton _ _
   by_cases o2:w.op = 2
   ·rw [if_neg o1,if_pos o2]; exact ha
   by_cases o3:w.op = 3
   ·rw [if_neg o1,if_neg o2,if_pos o3]; exact ha
   ·omega
theorem chC_now {b:VBook} {w:VW} {o:VO} {t:Bool} (h0:chC b w o t = 0):b.now < 1000000 :=by
 unfold chC at h0
 repeat (split at h0; · omega)
 omega
theorem good_step {n:Nat} {b:VBook} {w:VW} (hb:GoodB n b) (hn:n ≤ 10) (hw:wrB w = true) (h0:stepC b w = 0):GoodB (n + 1) (stepB b w) :=by
 have e:stepB b w = bookC b (chG insS delS w (b.now + 1) (fO b w)) :=by unfold stepB bookS; rw [if_pos h0]
 have f1 :=find_small hb.small w.kind w.name
 have f2 :=chO_w w (b.now + 1) (fO b w)
 have f3 :=wr_sz hw
 have f4 :=bookC_w b (chG insS delS w (b.now + 1) (fO b w))
 have f5 :=chC_now h0
 have f6 :=chO_asc (find_asc hb.asc w.kind w.name) h0 (wrB_op hw).2 (wrB_op hw).1 (b.now + 1)
 have f7:(chO insS delS w (b.now + 1) (fO b w)).w ≤ 1000 * (n + 1) + 999 :=by
  have:(fO b w).w ≤ 1000 * (n + 1) :=f1
  omega
 have hlo :=hb.lo
 have hbw :=hb.w
 rw [e]
 refine ⟨?_,?_,?_,?_,?_⟩
 ·intro o ho
  rcases putR_mem _ _ _ (show o ∈ putR _ _ b.objects from ho) with rfl | ho
  ·exact f6
  ·exact hb.asc o ho
 ·intro o ho
  rcases putR_mem _ _ _ (show o ∈ putR _ _ b.objects from ho) with rfl | ho
  ·show (chO insS delS w (b.now + 1) (fO b w)).w ≤ _
   omega
  ·have :=hb.small o ho
   omega
 ·simp only [chG,VC.w] at f4 ⊢
  omega
 ·show 0 ≤ b.now + 1
  omega
 ·show b.now + 1 ≤ 1000000
  omega
theorem k36 (x:VU) (hl1:x.wants.length ≤ 4194304) (hl2:x.writes.length ≤ 4194304):EV Tryz.prog E 36 [.val 0 true (VU.c .shr x)] = some ⟨[(false,[.p (.bool (bunB x))])],[]⟩ :=by
 refine EV_intro Tryz.func36 rfl ?_
 unfold bunB
 by_cases c1:(x.wants.length:Int) ≤ 10
 case neg =>
  have d1:(10:Int) < (x.wants.length:Int) :=by omega
  simp only [rA,↓reduceIte,reduceCtorEq,N1,N2,N3,N4,N5,N6,N7,I1,I2,I3,I4,L1,e36,Tryz.f36,VU.c,c1,d1]
 have d1:¬ (10:Int) < (x.wants.length:Int) :=by omega
 by_cases c2:(x.writes.length:Int) ≤ 10
 case neg =>
  have d2:(10:Int) < (x.writes.length:Int) :=by omega
  simp only [rA,↓reduceIte,reduceCtorEq,N1,N2,N3,N4,N5,N6,N7,I1,I2,I3,I4,L1,e36,Tryz.f36,VU.c,c1,d1,c2,d2]
 have d2:¬ (10:Int) < (x.writes.length:Int) :=by omega
 simp only [rA,↓reduceIte,reduceCtorEq,N1,N2,N3,N4,N5,N6,N7,I1,I2,I3,I4,L1,e36,Tryz.f36,VU.c,c1,d1,c2,d2]
 rw [for_block x.wants (fun i (_:Unit) =>⟨4,[(1,.box 0 0 (x.c .shr)),(18,.val 1 false [.sl .shr 3 (x.wants.map VN.c)]),(19,.val 2 false [.p (.int .i64 x.wants.length)]),(20,.val 3 false [.p (.int .i64 i)])]⟩) (fun i _ =>True)
  (fun r i a =>if r.all wantB = true then .norm ⟨1,[(1,.box 0 0 (x.c .shr))]⟩ else .ret ⟨[(false,[.p (.bool false)])],[]⟩) ?_ ?_ (a :=()) trivial (by simp only [rA,↓reduceIte,reduceCtorEq,N1,N2,N3,N4,N5,N6,N7,I1,I2,I3,I4,L1,e36,VU.c]; rfl)]
 ·cases hA:x.wants.all wantB
  ·simp only [rA,↓reduceIte,reduceCtorEq,N1,N2,N3,N4,N5,N6,N7,I1,I2,I3,I4,L1,e36,VU.c]
  simp only [rA,↓reduceIte,reduceCtorEq,N1,N2,N3,N4,N5,N6,N7,I1,I2,I3,I4,L1,e36,VU.c]
  rw [for_block x.writes (fun i (_:Unit) =>⟨4,[(1,.box 0 0 (x.c .shr)),(41,.val 1 false [.sl .shr 6 (x.writes.map VW.c)]),(42,.val 2 false [.p (.int .i64 x.writes.length)]),(43,.val 3 false [.p (.int .i64 i)])]⟩) (fun i _ =>True)
   (fun r i a =>if r.all wrB = true then .norm ⟨0,[]⟩ else .ret ⟨[(false,[.p (.bool false)])],[]⟩) ?_ ?_ (a :=()) trivial (by simp only [rA,↓reduceIte,reduceCtorEq,N1,N2,N3,N4,N5,N6,N7,I1,I2,I3,I4,L1,e36,VU.c]; rfl)]
  ·cases hB:x.writes.all wrB <;> simp only [rA,↓reduceIte,reduceCtorEq,N1,N2,N3,N4,N5,N6,N7,I1,I2,I3,I4,L1,e36,VU.c]
  ·intro i y r a hd hi _
   have hlen :=(List.getElem?_eq_some_iff.1 hi).1
   have hlt:((i:Int) < (x.writes.length:Int)) :=by omega
   have hr :=getElem?_map_some (f :=VW.c) hi
   have hwi :=wrap64 (n :=(i:Int) + 1) (by omega) (by omega)
   have hi0:(0:Int) ≤ (i:Int) :=by omega
   have hk :=k51 y
   simp only [VW.c] at hr hk
   cases d:wrB y
   ·right
    simp only [rA,↓reduceIte,reduceCtorEq,N1,N2,N3,N4,N5,N6,N7,I1,I2,I3,I4,L1,e36,e51,VU.c,hlt,hr,hwi,hi0,hk,d,List.all_cons,Bool.false_and]
   ·left
    refine ⟨(),?_,trivial,by simp [d]⟩
    simp only [rA,↓reduceIte,reduceCtorEq,N1,N2,N3,N4,N5,N6,N7,I1,I2,I3,I4,L1,e36,e51,VU.c,hlt,hr,hwi,hi0,hk,d,i64c]
  ·intro a _
   have hn:¬ ((x.writes.length:Int) < (x.writes.length:Int)) :=by omega
   simp only [rA,↓reduceIte,reduceCtorEq,N1,N2,N3,N4,N5,N6,N7,I1,I2,I3,I4,L1,e36,VU.c,hn,List.all_nil]
 ·intro i y r a hd hi _
  have hlen :=(List.getElem?_eq_some_iff.1 hi).1
  have hlt:((i:Int) < (x.wants.length:Int)) :=by omega
  have hr :=getElem?_map_some (f :=VN.c) hi
  have hwi :=wrap64 (n :=(i:Int) + 1) (by omega) (by omega)
  have hi0:(0:Int) ≤ (i:Int) :=by omega
  have h1 :=k74 y.kind
  have h2 :=k74 y.name
  simp only [VN.c] at hr
  have e:(y :: r).all wantB = (nameB y.kind && (nameB y.name && decide (0 ≤ y.version)) && r.all wantB) :=by simp [wantB]
  cases c3:nameB y.kind
  ·right
   simp only [rA,↓reduceIte,reduceCtorEq,N1,N2,N3,N4,N5,N6,N7,I1,I2,I3,I4,L1,e36,e74,VU.c,hlt,hr,hwi,hi0,h1,h2,c3,e,Bool.false_and]
  cases c4:nameB y.name
  ·right
   simp only [rA,↓reduceIte,reduceCtorEq,N1,N2,N3,N4,N5,N6,N7,I1,I2,I3,I4,L1,e36,e74,VU.c,hlt,hr,hwi,hi0,h1,h2,c3,c4,e,Bool.false_and,Bool.and_false]
  by_cases c5:0 ≤ y.version
  ·left
   have d5:¬ (y.version < 0) :=by omega
   refine ⟨(),?_,trivial,by rw [e,c3,c4]; simp [c5]⟩
   simp only [rA,↓reduceIte,reduceCtorEq,N1,N2,N3,N4,N5,N6,N7,I1,I2,I3,I4,L1,e36,e74,VU.c,hlt,hr,hwi,hi0,h1,h2,c3,c4,d5,i64c]
  ·right
   have d5:y.version < 0 :=by omega
   simp only [rA,↓reduceIte,reduceCtorEq,N1,N2,N3,N4,N5,N6,N7,I1,I2,I3,I4,L1,e36,e74,VU.c,hlt,hr,hwi,hi0,h1,h2,c3,c4,c5,d5,e,Bool.false_and,Bool.and_false]
 ·intro a _
  have hn:¬ ((x.wants.length:Int) < (x.wants.length:Int)) :=by omega
  simp only [rA,↓reduceIte,reduceCtorEq,N1,N2,N3,N4,N5,N6,N7,I1,I2,I3,I4,L1,e36,VU.c,hn,List.all_nil]
def allR (b:VBook) (x:VU):Int × Nat × VBook :=match wantF b x.wants 0 with
 | some i =>(9,i,b)
 | none =>if (runW x.writes 0 b).1 = 0 then (0,0,(runW x.writes 0 b).2.2) else ((runW x.writes 0 b).1,(runW x.writes 0 b).2.1,b)
theorem bfind_ver (l:List VO) (k n:ByteArray):(idxF (isKey k n) l 0 = -1 ∧ (bfind l k n).1.version = 0) ∨ ∃ (i:Nat) (o:VO),idxF (isKey k n) l 0 = (i:Int) ∧ l[i]? = some o ∧ (bfind l k n).1 = o :=by
 rcases idxF_find (isKey k n) l 0 with ⟨f1,f2⟩ | ⟨i,o,f1,f2,f3,f4⟩
 ·left
  exact ⟨f2,by unfold bfind; rw [f1]; rfl⟩
 ·right
  exact ⟨i,o,by rw [f4]; simp,f2,by unfold bfind; rw [f1]⟩
theorem k38 (b:VBook) (x:VU) (hb:GoodB 0 b) (hl1:x.wants.length ≤ 10) (hl2:x.writes.length ≤ 10) (hwr:x.writes.all wrB = true) :
  EV Tryz.prog E 38 [.val 0 true (b.c .shr),.val 0 true (VU.c .shr x)] = some ⟨[(false,[.p (.int .i64 (allR b x).1)]),(false,[.p (.int .i64 ((allR b x).2.1:Nat))]),(true,(allR b x).2.2.c (flD (allR b x).1))],[]⟩ :=by
 refine EV_intro Tryz.func38 rfl ?_
 have hbw :=hb.w
 have hol:b.objects.length ≤ 4194304 :=by unfold VBook.w wSBookObject at hbw; omega
 have h37 :=k37 b (by omega)
 simp only [VBook.c] at h37
 simp only [rA,↓reduceIte,reduceCtorEq,N1,N2,N3,N4,N5,N6,N7,I1,I2,I3,I4,L1,e38,e37,Tryz.f38,VBook.c,VU.c,h37]
 rw [for_block x.wants (fun i (_:Unit) =>⟨6,[(2,.box 0 0 (b.c .shr)),(3,.box 1 1 (x.c .shr)),(6,.box 2 2 (zB.c .own)),(17,.val 3 false [.sl .shr 3 (x.wants.map VN.c)]),(18,.val 4 false [.p (.int .i64 x.wants.length)]),(19,.val 5 false [.p (.int .i64 i)])]⟩) (fun i _ =>True)
  (fun r i a =>match wantF b r i with
   | none =>.norm ⟨3,[(2,.box 0 0 (b.c .shr)),(3,.box 1 1 (x.c .shr)),(6,.box 2 2 (zB.c .own))]⟩
   | some j =>.ret ⟨[(false,[.p (.int .i64 9)]),(false,[.p (.int .i64 (j:Nat))]),(true,b.c .shr)],[]⟩) ?_ ?_ (a :=()) trivial (by simp only [rA,↓reduceIte,reduceCtorEq,N1,N2,N3,N4,N5,N6,N7,I1,I2,I3,I4,L1,e38,VU.c,VBook.c,zB]; rfl)]
 ·unfold allR
  cases hW:wantF b x.wants 0 with
  | some j =>simp only [rA,↓reduceIte,reduceCtorEq,N1,N2,N3,N4,N5,N6,N7,I1,I2,I3,I4,L1,e38,VBook.c,flD]
  | none =>
   simp only [rA,↓reduceIte,reduceCtorEq,N1,N2,N3,N4,N5,N6,N7,I1,I2,I3,I4,L1,e38,e37,VBook.c,VU.c,h37,rowsBookObject,rowsBookChange,rowsBookTicket,rowsString]
   rw [for_block x.writes (fun i (y:VBook) =>⟨7,[(2,.box 0 0 (b.c .shr)),(3,.box 1 1 (x.c .shr)),(6,.box 2 2 (zB.c .own)),(11,.box 3 3 (y.c .own)),(50,.val 4 false [.sl .shr 6 (x.writes.map VW.c)]),(51,.val 5 false [.p (.int .i64 x.writes.length)]),(52,.val 6 false [.p (.int .i64 i)])]⟩) (fun i y =>GoodB i y)
    (fun r i y =>if (runW r i y).1 = 0 then .norm ⟨2,[(6,.box 0 0 (zB.c .own)),(11,.box 1 1 ((runW r i y).2.2.c .own))]⟩ else .ret ⟨[(false,[.p (.int .i64 (runW r i y).1)]),(false,[.p (.int .i64 ((runW r i y).2.1:Nat))]),(true,b.c .shr)],[]⟩) ?_ ?_ (a :=b) hb (by simp only [rA,↓reduceIte,reduceCtorEq,N1,N2,N3,N4,N5,N6,N7,I1,I2,I3,I4,L1,e38,VU.c,VBook.c,zB]; rfl)]
   ·by_cases h0:(runW x.writes 0 b).1 = 0
    ·simp only [rA,↓reduceIte,reduceCtorEq,N1,N2,N3,N4,N5,N6,N7,I1,I2,I3,I4,L1,e38,h0,c0n,VBook.c,flD,zB,rowsBookObject,rowsBookChange,rowsBookTicket,rowsString]
    ·simp only [rA,↓reduceIte,reduceCtorEq,N1,N2,N3,N4,N5,N6,N7,I1,I2,I3,I4,L1,e38,h0,c0n,VBook.c,flD,zB,rowsBookObject,rowsBookChange,rowsBookTicket,rowsString]
   ·intro i w r y hd hi hg
    have hlen :=(List.getElem?_eq_some_iff.1 hi).1
    have hlt:((i:Int) < (x.writes.length:Int)) :=by omega
    have hr :=getElem?_map_some (f :=VW.c) hi
    have hwi :=wrap64 (n :=(i:Int) + 1) (by omega) (by omega)
    have hi0:(0:Int) ≤ (i:Int) :=by omega
    have hww:wrB w = true :=List.all_eq_true.1 hwr w (List.mem_of_getElem? hi)
    have hyw :=hg.w
    have hws :=wr_sz hww
    have h52:EV Tryz.prog E 52 [.box 0 0 (y.c .own),.val 0 true (VW.c w)] = some ⟨[(false,[.p (.int .i64 (stepC y w))]),(false,[.p (.int .i64 (verI y w (fO y w) (fT y w)))])],[(bookI y w (fO y w) (fT y w)).c .own]⟩ :=k52 y w (by omega) hg.lo hg.hi hww
    rw [book_eq hg.asc hww] at h52
    have hs :=good_step hg (by omega) hww
    have h52:EV Tryz.prog E 52 [.box 0 0 (y.c .own),.val 0 true (VW.c w)] = some ⟨[(false,[.p (.int .i64 (stepC y w))]),(false,[.p (.int .i64 (verI y w (fO y w) (fT y w)))])],[(stepB y w).c .own]⟩ :=h52
    have eR:runW (w :: r) i y = if stepC y w = 0 then runW r (i + 1) (stepB y w) else (stepC y w,i,y) :=rfl
    rw [eR]
    generalize stepC y w = n at *
    generalize stepB y w = z at *
    generalize verI y w (fO y w) (fT y w) = v at *
    simp only [VBook.c,VW.c] at h52 hr
    by_cases h0:n = 0
    ·left
     subst h0
     refine ⟨z,?_,hs rfl,by rw [if_pos rfl]⟩
     simp only [rA,↓reduceIte,reduceCtorEq,N1,N2,N3,N4,N5,N6,N7,I1,I2,I3,I4,L1,e38,e52,VBook.c,VU.c,zB,hlt,hr,hwi,hi0,h52,i64c]
    ·right
     rw [if_neg h0]
     simp only [rA,↓reduceIte,reduceCtorEq,N1,N2,N3,N4,N5,N6,N7,I1,I2,I3,I4,L1,e38,e52,VBook.c,VU.c,zB,hlt,hr,hwi,hi0,h52,h0,i64c]
   ·intro y _
    have hn:¬ ((x.writes.length:Int) < (x.writes.length:Int)) :=by omega
    have eR:runW [] x.writes.length y = (0,0,y) :=rfl
    rw [eR]
    simp only [rA,↓reduceIte,reduceCtorEq,N1,N2,N3,N4,N5,N6,N7,I1,I2,I3,I4,L1,e38,VBook.c,VU.c,zB,hn]
 ·intro i y r a hd hi _
  have hlen :=(List.getElem?_eq_some_iff.1 hi).1
  have hlt:((i:Int) < (x.wants.length:Int)) :=by omega
  have hr :=getElem?_map_some (f :=VN.c) hi
  have hwi :=wrap64 (n :=(i:Int) + 1) (by omega) (by omega)
  have hi0:(0:Int) ≤ (i:Int) :=by omega
  have h77 :=k77 b.objects y.kind y.name hol
  simp only [VN.c,keyC] at hr h77
  have eW:wantF b (y :: r) i = if (bfind b.objects y.kind y.name).1.version = y.version then wantF b r (i + 1) else some i :=rfl
  rw [eW]
  rcases bfind_ver b.objects y.kind y.name with ⟨f1,f2⟩ | ⟨j,o,f1,f2,f3⟩
  ·rw [f1] at h77
   rw [f2]
   by_cases hv:0 = y.version
   ·left
    refine ⟨(),?_,trivial,by rw [if_pos hv]⟩
    rw [← hv] at hr
    simp only [rA,↓reduceIte,reduceCtorEq,N1,N2,N3,N4,N5,N6,N7,I1,I2,I3,I4,L1,e38,e77,VBook.c,VU.c,zB,hlt,hr,hwi,hi0,h77,i64c]
   ·right
    rw [if_neg hv]
    simp only [rA,↓reduceIte,reduceCtorEq,N1,N2,N3,N4,N5,N6,N7,I1,I2,I3,I4,L1,e38,e77,VBook.c,VU.c,zB,hlt,hr,hwi,hi0,h77,hv,i64c]
  ·rw [f1] at h77
   rw [f3]
   have hj :=getElem?_map_some (f :=VO.c .shr) f2
   have hj0:(0:Int) ≤ (j:Int) :=by omega
   simp only [VO.c] at hj
   by_cases hv:o.version = y.version
   ·left
    refine ⟨(),?_,trivial,by rw [if_pos hv]⟩
    rw [← hv] at hr
    simp only [rA,↓reduceIte,reduceCtorEq,N1,N2,N3,N4,N5,N6,N7,I1,I2,I3,I4,L1,e38,e77,VBook.c,VU.c,zB,hlt,hr,hwi,hi0,h77,hj,hj0,i64c]
   ·right
    rw [if_neg hv]
    simp only [rA,↓reduceIte,reduceCtorEq,N1,N2,N3,N4,N5,N6,N7,I1,I2,I3,I4,L1,e38,e77,VBook.c,VU.c,zB,hlt,hr,hwi,hi0,h77,hj,hj0,hv,i64c]
 ·intro a _
  have hn:¬ ((x.wants.length:Int) < (x.wants.length:Int)) :=by omega
  have eW:wantF b [] x.wants.length = none :=rfl
  rw [eW]
  simp only [rA,↓reduceIte,reduceCtorEq,N1,N2,N3,N4,N5,N6,N7,I1,I2,I3,I4,L1,e38,VBook.c,VU.c,zB,hn]
end Go.Proofs.YtfpconipgllkkaaGreat
