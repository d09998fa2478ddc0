/- Draws: a book spoilt (written by a program). -/
import Derived.Test.YtgekblcbdhjmfaaQ4
import Derived.Test.YtgekblcbdhjmfaaQ2
namespace Go.Proofs.Ytgekblcbdhjmfaa
open Go.Sx
set_option maxRecDepth 100000
set_option maxHeartbeats 64000000
set_option linter.unusedVariables false
set_option linter.unusedSimpArgs false
theorem k61_6 {bs:List Int} {p:Nat} {y:VBook} {o h:Nat} (H:In61 bs p y o h 6):Out61 bs p y :=by
 have F :=H.f
 have B :=H.b
 have h1 :=H.h1
 have h2 :=H.h2
 have h3 :=H.h3
 have h38 :=H.k38
 have d :=H.g.so (by omega)
 obtain ⟨x,hro,sm,xv⟩ :=H.obj
 have sx :=sm.so
 obtain ⟨k0,q0,hk0⟩ :=H.pick (p + 1 + 1 + 1) (by omega) 2 2 rfl (by decide)
 obtain ⟨v0,hv0,hw0⟩ :=pickL [⟨#[]⟩,⟨#[122,122]⟩] q0.1 (by simpa using q0.2.1)
 simp only [List.map_cons,List.map_nil,strC] at hw0
 have sz0:v0.size≤20 :=by
  simp only [List.mem_cons,List.not_mem_nil,or_false] at hv0
  rcases hv0 with rfl | rfl <;> decide
 have hs :=(List.map_set (f :=VO.c .own) (l :=y.objects) (i :=o) (a :=⟨x.kind,x.name,x.version,x.born,x.text,x.ending,x.holds ++ [v0]⟩)).symm
 have xh :=sm.holds
 have hL:x.holds.length + 1 < 4294967296 :=by omega
 simp only [VO.c,List.map_append,List.map_cons,List.map_nil,strC] at hs
 have hgs:∀ r,((y.objects.map (VO.c .own)).set o r)[o]? = some r :=fun r =>by rw [List.getElem?_set_self (by rw [List.length_map]; exact H.ho)]
 have hss:∀ r r',((y.objects.map (VO.c .own)).set o r).set o r' = (y.objects.map (VO.c .own)).set o r' :=fun r r' =>List.set_set ..
 refine ⟨⟨y.now,y.floor,y.objects.set o ⟨x.kind,x.name,x.version,x.born,x.text,x.ending,x.holds ++ [v0]⟩,y.history,y.tickets⟩,p + 1 + 1 + 1 + 1,_,d.setO ⟨sx.kind,sx.name,sx.text,by simp; omega,fun q hq =>by
  rcases List.mem_append.1 hq with hq | hq
  ·exact sx.hold q hq
  ·rw [List.mem_singleton.1 hq]; exact sz0,sx.v0,sx.v1⟩,by omega,by omega,(rowBook _).1,eVi Try.func61 rfl ?_⟩
 simp only [rdC,VBook.c,VO.c,VC.c] at h1 h2 h3 h38 hro hk0
 simp (maxSteps :=1000000000) only [rA,seval,e61,e30,e38,Try.f61,VBook.c,VO.c,VC.c,rdC,h1,h2,h3,h38,F,hro,hk0,q0,hw0,hs,hL,LIM,hgs,hss,List.length_set,List.length_map,rwO,rwC,rwT,rwS,List.map_append,List.map_cons,List.map_nil,n61_40,uF,addF_same]
end Go.Proofs.Ytgekblcbdhjmfaa

