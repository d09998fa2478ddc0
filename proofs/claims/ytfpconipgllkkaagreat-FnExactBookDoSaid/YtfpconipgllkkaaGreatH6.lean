/- A write done to a book: what the two sides compute. -/
import Derived.Test.YtfpconipgllkkaaGreatG6
import Derived.Test.YtfpconipgllkkaaGreatQ6
import Derived.Test.YtfpconipgllkkaaGreatD6
namespace Go.Proofs.YtfpconipgllkkaaGreat
open Go.Sx
open Nat renaming reduceEqDiff → N1,reduceAdd → N2,reduceSub → N3,reduceMul → N4,reduceLeDiff → N5,reduceBEq → N6,reduceLT → N7
open Int renaming reduceLT → I1,reduceNeg → I2,reduceLE → I3,reduceEq → I4
open List renaming reduceReplicate → L1
set_option maxRecDepth 100000
set_option maxHeartbeats 16000000
set_option linter.unusedVariables false
set_option linter.unusedSimpArgs false
theorem rowsShrC (l : List VC) : borRows (l.map (VC.c .shr)) = l.map (VC.c .shr) ∧ wholeRows (l.map (VC.c .shr)) = true ∧ allFreeRows (l.map (VC.c .shr)) = true :=by
  induction l with
  | nil =>exact ⟨rfl,rfl,rfl⟩
  | cons x l ih =>
    have h :=rowBookChange x
    refine ⟨?_,?_,?_⟩
    · simp only [List.map_cons,borRows,ih.1]
      congr 1
    · simp only [List.map_cons,wholeRows,ih.2.1,h.2.2.2.1,Bool.and_true]
    · simp only [List.map_cons,allFreeRows,ih.2.2,h.2.2.2.2,Bool.and_true]
structure RowsH (hr : List (List C)) (l : List VC) : Prop where
  bor : borRows hr = l.map (VC.c .shr)
  whole : wholeRows hr = true
  len : hr.length = l.length
theorem rowsH_shr (l : List VC) : RowsH (l.map (VC.c .shr)) l :=⟨(rowsShrC l).1,(rowsShrC l).2.1,by simp⟩
theorem bor_app : ∀ a b : List (List C),borRows (a ++ b) = borRows a ++ borRows b
  | [],b =>rfl
  | x :: a,b =>by simp only [List.cons_append,borRows,bor_app a b]
theorem whole_app : ∀ a b : List (List C),wholeRows (a ++ b) = (wholeRows a && wholeRows b)
  | [],b =>by simp [wholeRows]
  | x :: a,b =>by simp only [List.cons_append,wholeRows,whole_app a b,Bool.and_assoc]
theorem rowsH_own (l : List VC) (c : VC) : RowsH (l.map (VC.c .shr) ++ [c.c .own]) (l ++ [c]) :=by
  have h :=rowsShrC l
  have k :=rowBookChange c
  refine ⟨?_,?_,by simp⟩
  · rw [bor_app,h.1,List.map_append]
    simp only [borRows,k.1,List.map_cons,List.map_nil]
  · rw [whole_app,h.2.1]
    simp only [wholeRows,k.2.2.1,Bool.and_true]
def VBook.m (fl : Fl) (hr : List (List C)) (x : VBook) : List C :=[.p (.int .i64 x.now),.p (.int .i64 x.floor),.sl fl 7 (x.objects.map (VO.c .shr)),.sl fl 9 hr,.sl .shr 5 (x.tickets.map VT.c)]
def codeD (b : VBook) (w : VW) : Int :=if wrB w = true then chC b w (fO b w) (fT b w) else 2
def verD (b : VBook) (w : VW) : Int :=if wrB w = true then verI b w (fO b w) (fT b w) else 0
def bkD (b : VBook) (w : VW) : VBook :=if wrB w = true then bookS b w (fO b w) (fT b w) else b
def flD (c : Int) : Fl :=if c = 0 then .own else .shr
theorem chC_ne (b : VBook) (w : VW) (o : VO) (t : Bool) : chC b w o t ≠ 2 :=by
  unfold chC
  repeat (split; decide)
  decide
theorem k50 (b : VBook) (w : VW) (hw : b.w + w.w ≤ 4194000) (hb0 : 0 ≤ b.now) (hb1 : b.now ≤ 1000000) :
    ∃ hr,(RowsH hr (bkD b w).history ∧ (codeD b w ≠ 0 → hr = (bkD b w).history.map (VC.c .shr))) ∧ EV Tryz.prog E 50 [.val 0 true (b.c .shr),.val 0 true (VW.c w)] =
      some ⟨[(true,[.p (.int .i64 (codeD b w))] ++ (bkD b w).m (flD (codeD b w)) hr ++ [.p (.int .i64 (verD b w))])],[]⟩ :=by
  have h62 :=k62 w
  cases hwr : wrB w
  · rw [hwr] at h62
    have e1 : codeD b w = 2 :=by simp [codeD,hwr]
    have e2 : bkD b w = b :=by simp [bkD,hwr]
    have e3 : verD b w = 0 :=by simp [verD,hwr]
    rw [e1,e2,e3]
    refine ⟨_,⟨rowsH_shr _,fun _ =>rfl⟩,?_⟩
    refine EV_intro Tryz.func50 rfl ?_
    simp only [VW.c] at h62
    simp only [rA,↓reduceIte,reduceCtorEq,N1,N2,N3,N4,N5,N6,N7,I1,I2,I3,I4,L1,e50,e62,Tryz.f50,VBook.c,VBook.m,VW.c,flD,h62,List.cons_append,List.nil_append,List.map_nil]
  rw [hwr] at h62
  have h88 :=k88 b w hw hb0 hb1 hwr
  have h63 :=k63 b w.kind w.name (by omega)
  have e1 : codeD b w = chC b w (fO b w) (fT b w) :=by simp [codeD,hwr]
  have e2 : bkD b w = bookS b w (fO b w) (fT b w) :=by simp [bkD,hwr]
  have e3 : verD b w = verI b w (fO b w) (fT b w) :=by simp [verD,hwr]
  rw [e1,e2,e3]
  have hol : b.objects.length ≤ 4194304 :=by simp only [VBook.w,wSBookObject] at hw; omega
  have hlh : b.history.length + 1 < 4294967296 :=by simp only [VBook.w,wSBookChange] at hw; omega
  have hlh0 : b.history.length < 4294967296 :=by omega
  by_cases hc : chC b w (fO b w) (fT b w) = 0
  · have eb : bookS b w (fO b w) (fT b w) = bookC b (chG insS delS w (b.now + 1) (fO b w)) :=by simp [bookS,hc]
    have ev : verI b w (fO b w) (fT b w) = (chG insS delS w (b.now + 1) (fO b w)).version :=by simp [verI,hc,chG]
    have es : chS b w (fO b w) (fT b w) = chG insS delS w (b.now + 1) (fO b w) :=by simp [chS,hc]
    rw [eb,ev]
    have h88 : EV Tryz.prog E 88 [.val 0 true (b.c .shr),.val 0 true (VW.c w)] = some ⟨[(true,(chS b w (fO b w) (fT b w)).c .own),(false,[.p (.int .i64 (chC b w (fO b w) (fT b w)))])],[]⟩ :=h88
    rw [es,hc] at h88
    rw [hc]
    generalize chG insS delS w (b.now + 1) (fO b w) = c at *
    have h89 :=k89 b.objects c hol
    obtain ⟨now,floor,objects,history,tickets⟩ :=b
    simp only [VBook.c,VW.c,VC.c] at h88 h89 h62
    simp only at hlh hlh0
    cases hmr : mineRows ((putR c.object c.gone objects).map (VO.c .shr))
    · by_cases hl2 : history.length < 200
      · have hl3 : ¬ (200 : Int) < (history.length : Int) + 1 :=by omega
        refine ⟨(history ++ [c]).map (VC.c .shr),⟨by simpa only [bookC,if_pos hl2] using rowsH_shr (history ++ [c]),fun h =>absurd rfl h⟩,?_⟩
        refine EV_intro Tryz.func50 rfl ?_
        simp only [rA,↓reduceIte,reduceCtorEq,N1,N2,N3,N4,N5,N6,N7,I1,I2,I3,I4,L1,e50,e62,e88,e89,Tryz.f50,VBook.c,VBook.m,VW.c,VC.c,flD,bookC,hmr,h62,h88,h89,hl2,hl3,hlh,hlh0,List.cons_append,List.nil_append,List.map_append,List.map_cons,List.map_nil,rowsShr,rowsShrC,rowsString,len1,List.length_map,Nat.zero_add,LIM,nilObj]
      · cases history with
        | nil =>exact absurd (show 0 < 200 by omega) hl2
        | cons c0 hr0 =>
          have hlk : hr0.length + 1 + 1 < 4294967296 :=by simpa using hlh
          have hlk0 : hr0.length + 1 < 4294967296 :=by omega
          have hl4 : (200 : Int) < (hr0.length : Int) + 1 + 1 :=by simp only [List.length_cons] at hl2; omega
          have hl5 : ¬ (hr0.length + 1 < 200) :=by simpa using hl2
          have hrs :=rowsShrC (c0 :: hr0)
          simp only [List.map_cons,VC.c] at hrs h88
          refine ⟨(hr0 ++ [c]).map (VC.c .shr),⟨by simp only [bookC,if_neg hl2]; exact rowsH_shr (hr0 ++ [c]),fun h =>absurd rfl h⟩,?_⟩
          refine EV_intro Tryz.func50 rfl ?_
          simp only [rA,↓reduceIte,reduceCtorEq,N1,N2,N3,N4,N5,N6,N7,I1,I2,I3,I4,L1,e50,e62,e88,e89,Tryz.f50,VBook.c,VBook.m,VW.c,VC.c,flD,bookC,hmr,h62,h88,h89,hrs,hl4,hl5,hlk,hlk0,List.cons_append,List.nil_append,List.map_append,List.map_cons,List.map_nil,rowsShr,rowsShrC,rowsString,len1,len2,List.length_map,List.length_cons,Nat.zero_add,LIM,nilObj,pos1,pos2,pos3,z2,z3,Nat.le_refl,Nat.add_sub_cancel,List.take_length,List.getElem?_cons_zero,List.drop_succ_cons,List.drop_zero,List.head?_cons,Option.map_some,Option.getD_some]
    · by_cases hl2 : history.length < 200
      · have hl3 : ¬ (200 : Int) < (history.length : Int) + 1 :=by omega
        refine ⟨history.map (VC.c .shr) ++ [c.c .own],⟨by simpa only [bookC,if_pos hl2] using rowsH_own history c,fun h =>absurd rfl h⟩,?_⟩
        refine EV_intro Tryz.func50 rfl ?_
        simp only [rA,↓reduceIte,reduceCtorEq,N1,N2,N3,N4,N5,N6,N7,I1,I2,I3,I4,L1,e50,e62,e88,e89,Tryz.f50,VBook.c,VBook.m,VW.c,VC.c,flD,bookC,hmr,h62,h88,h89,hl2,hl3,hlh,hlh0,List.cons_append,List.nil_append,List.map_append,List.map_cons,List.map_nil,rowsShr,rowsShrC,rowsString,len1,List.length_map,Nat.zero_add,LIM,nilObj]
      · cases history with
        | nil =>exact absurd (show 0 < 200 by omega) hl2
        | cons c0 hr0 =>
          have hlk : hr0.length + 1 + 1 < 4294967296 :=by simpa using hlh
          have hlk0 : hr0.length + 1 < 4294967296 :=by omega
          have hl4 : (200 : Int) < (hr0.length : Int) + 1 + 1 :=by simp only [List.length_cons] at hl2; omega
          have hl5 : ¬ (hr0.length + 1 < 200) :=by simpa using hl2
          have hrs :=rowsShrC (c0 :: hr0)
          simp only [List.map_cons,VC.c] at hrs h88
          refine ⟨hr0.map (VC.c .shr) ++ [c.c .own],⟨by simp only [bookC,if_neg hl2]; exact rowsH_own hr0 c,fun h =>absurd rfl h⟩,?_⟩
          refine EV_intro Tryz.func50 rfl ?_
          simp only [rA,↓reduceIte,reduceCtorEq,N1,N2,N3,N4,N5,N6,N7,I1,I2,I3,I4,L1,e50,e62,e88,e89,Tryz.f50,VBook.c,VBook.m,VW.c,VC.c,flD,bookC,hmr,h62,h88,h89,hrs,hl4,hl5,hlk,hlk0,List.cons_append,List.nil_append,List.map_append,List.map_cons,List.map_nil,rowsShr,rowsShrC,rowsString,len1,len2,List.length_map,List.length_cons,Nat.zero_add,LIM,nilObj,pos1,pos2,pos3,z2,z3,Nat.le_refl,Nat.add_sub_cancel,List.take_length,List.getElem?_cons_zero,List.drop_succ_cons,List.drop_zero,List.head?_cons,Option.map_some,Option.getD_some]
  · have eb : bookS b w (fO b w) (fT b w) = b :=by simp [bookS,hc]
    have es : chS b w (fO b w) (fT b w) = nilChg :=by simp [chS,hc]
    have h88 : EV Tryz.prog E 88 [.val 0 true (b.c .shr),.val 0 true (VW.c w)] = some ⟨[(true,(chS b w (fO b w) (fT b w)).c .own),(false,[.p (.int .i64 (chC b w (fO b w) (fT b w)))])],[]⟩ :=h88
    rw [es] at h88
    rw [eb]
    refine ⟨_,⟨rowsH_shr _,fun _ =>rfl⟩,?_⟩
    refine EV_intro Tryz.func50 rfl ?_
    by_cases h4 : chC b w (fO b w) (fT b w) = 4
    · have ev : verI b w (fO b w) (fT b w) = (fO b w).version :=by simp [verI,h4]
      rw [ev]
      rw [h4] at h88 ⊢
      have h63 : EV Tryz.prog E 63 [.val 0 true (b.c .shr),.val 0 false [.p (.string w.kind)],.val 0 false [.p (.string w.name)]] = some ⟨[(true,(fO b w).c .own),(false,[.p (.bool (fT b w))])],[]⟩ :=h63
      generalize fO b w = o at *
      generalize fT b w = t at *
      simp only [VBook.c,VW.c,VC.c,VO.c,nilChg,nilObj,List.map_nil] at h88 h62 h63
      simp only [rA,↓reduceIte,reduceCtorEq,N1,N2,N3,N4,N5,N6,N7,I1,I2,I3,I4,L1,e50,e62,e88,e63,Tryz.f50,VBook.c,VBook.m,VW.c,VC.c,VO.c,nilObj,flD,h62,h88,h63,List.cons_append,List.nil_append,List.map_nil,rowsString]
    · have ev : verI b w (fO b w) (fT b w) = 0 :=by simp [verI,h4,hc]
      rw [ev]
      generalize chC b w (fO b w) (fT b w) = n at *
      simp only [VBook.c,VW.c,VC.c,VO.c,nilChg,nilObj,List.map_nil] at h88 h62
      simp only [rA,↓reduceIte,reduceCtorEq,N1,N2,N3,N4,N5,N6,N7,I1,I2,I3,I4,L1,e50,e62,e88,e63,Tryz.f50,VBook.c,VBook.m,VW.c,VC.c,VO.c,nilObj,flD,h62,h88,hc,h4,List.cons_append,List.nil_append,List.map_nil,rowsString]
end Go.Proofs.YtfpconipgllkkaaGreat

