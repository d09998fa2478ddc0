/- Draws: books that writes have led to (written by a program). -/
import Derived.Test.YtgekblcbdhjmfaaQ2
import Derived.Test.YtgekblcbdhjmfaaQ3
import Derived.Test.YtgekblcbdhjmfaaQ1
namespace Go.Proofs.Ytgekblcbdhjmfaa
open Go.Sx
set_option maxRecDepth 100000
set_option maxHeartbeats 64000000
set_option linter.unusedVariables false
set_option linter.unusedSimpArgs false
def CL:List ByteArray :=[⟨#[97,110,110]⟩,⟨#[98,111,98]⟩,⟨#[99,121]⟩]
theorem DrB.nil:DrB 0 zB :=⟨by decide,by decide,by decide,by decide,fun _ h =>(by cases h),Nat.le_refl _,fun _ h =>(by cases h),by decide,fun _ h =>(by cases h),by decide⟩
theorem DrB.cut {n:Nat} {b:VBook} (h:DrB n b) (fl:Int):DrB n (bcut b fl) :=by
 unfold bcut
 cases hv:implB b
 ·exact DrB.nil.mono (Nat.zero_le _)
 ·obtain ⟨v1,v2,v3,v4,v5,v6⟩ :=valid_facts hv
  have hn:b.floor + (cutN b fl:Int)≤b.now :=by unfold cutN; omega
  exact ⟨h.lo,h.hi,by show 0≤b.floor + (cutN b fl:Int); omega,by show b.floor + (cutN b fl:Int)≤1000000; omega,h.objs,h.ol,fun c hc =>h.hist c (List.mem_of_mem_drop hc),by
   show (b.history.drop (cutN b fl)).length≤200
   rw [List.length_drop]
   have :=h.hl
   omega,h.tick,h.tl⟩
def repB (n:Nat) (y:VBook) (cs:List C):Prop :=DrB n y∧(cs = y.c .own∨cs = y.c .shr)
theorem chC_len {y:VBook} {w:VW} (hc:codeD y w = 0) (hl:y.history.length < 200):(bkD y w).history.length = y.history.length + 1 :=by
 unfold codeD at hc
 split at hc
 ·rename_i hwr
  unfold bkD
  rw [if_pos hwr]
  unfold bookS
  rw [if_pos hc]
  show (bookC _ _).history.length = _
  unfold bookC
  simp [hl]
 ·exact absurd hc (by decide)
theorem do_ok3 {n:Nat} {y:VBook} {w:VW} (h:DrB n y) (hn:n≤1990) (hw:w.w≤20000):∃ (c v:Int) (z:VBook) (hr:List (List C)),
  (RowsH hr z.history∧DrB (n + 1) z∧(0≤c∧c≤100)∧(c = 0→y.history.length < 200→z.history.length = y.history.length + 1)∧(c ≠ 0→hr = z.history.map (VC.c .shr)))∧EV Try.prog E 75 [.val 0 true (y.c .shr),.val 0 true (VW.c w)] = some ⟨[(true,[.p (.int .i64 c)] ++ z.m (flD c) hr ++ [.p (.int .i64 v)])],[]⟩ :=by
 have hyw :=h.w (by omega)
 obtain ⟨hr,⟨h1,h2⟩,h3⟩ :=k75 y w (by omega) h.lo h.hi
 refine ⟨codeD y w,verD y w,bkD y w,hr,⟨h1,?_,?_,fun a b =>chC_len a b,h2⟩,h3⟩
 ·unfold bkD
  split
  ·rename_i hwr
   by_cases h0:stepC y w = 0
   ·exact h.step hwr h0
   ·have e:bookS y w (fO y w) (fT y w) = y :=by unfold bookS; rw [if_neg h0]
    rw [e]
    exact h.mono (by omega)
  ·exact h.mono (by omega)
 ·unfold codeD
  split
  ·exact chC_b _ _ _ _
  ·decide
theorem k60 {bs:List Int} (hb:Bytes bs) (p0:Nat) (hp:p0≤500000):∃ (y:VBook) (p':Nat),DrB 1000 y∧p0≤p'∧p'≤p0 + 20000∧EV Try.prog E 60 [.box 0 0 (rdC bs p0)] = some ⟨[(true,y.c .own)],[rdC bs p']⟩ :=by
 have key:∃ r,EV Try.prog E 60 [.box 0 0 (rdC bs p0)] = some r∧∃ (y:VBook) (p':Nat),DrB 1000 y∧p0≤p'∧p'≤p0 + 20000∧r = ⟨[(true,y.c .own)],[rdC bs p']⟩ :=by
  refine EV_introX Try.func60 rfl ?_
  obtain ⟨k0,⟨k0a,k0b⟩,h0⟩ :=k30 hb p0 (by omega) 24
  have ek0:k0 = (k0.toNat:Int) :=by omega
  rw [ek0] at h0
  have k0c:k0.toNat≤24 :=by omega
  generalize k0.toNat = m0 at *
  simp only [rdC] at h0
  simp only [rA,seval,e60,e30,Try.f60,rdC,h0]
  generalize hX:blockO _ _ (itω _ _ _) = X
  have hw:∃ o,X = some o∧∃ (y:VBook) (p:Nat) (cs:List C),(repB 500 y cs∧p0≤p∧p≤p0 + 9000)∧o = .norm ⟨3,[(0,.box 0 0 (rdC bs p)),(2,.box 1 1 (zB.c .own)),(3,.box 2 2 cs)]⟩ :=by
   refine while_ex hX (fun (q:Nat × Nat × VBook × List C) =>⟨4,[(0,.box 0 0 (rdC bs q.2.1)),(2,.box 1 1 (zB.c .own)),(3,.box 2 2 q.2.2.2),(4,.val 3 false [.p (.int .i64 q.1)])]⟩)
    (fun q =>q.1≤24∧p0≤q.2.1∧q.2.1 + 300 * q.1≤p0 + 8000∧repB (400 - 11 * q.1) q.2.2.1 q.2.2.2)
    (fun o =>∃ (y:VBook) (p:Nat) (cs:List C),(repB 500 y cs∧p0≤p∧p≤p0 + 9000)∧o = .norm ⟨3,[(0,.box 0 0 (rdC bs p)),(2,.box 1 1 (zB.c .own)),(3,.box 2 2 cs)]⟩)
    (fun q =>q.1) ?_ (i :=(m0,p0 + 1,zB,zB.c .own)) ⟨k0c,by simp only; omega,by simp only; omega,DrB.nil.mono (Nat.zero_le _),.inl rfl⟩ (by simp only [rA,seval,e60,VBook.c,zB,rdC] <;> rfl)
   rintro ⟨m,p,y,cs⟩ ⟨g1,g2,g3,g5,gc⟩
   simp only at g1 g2 g3 g5 gc
   by_cases hm:0 < (m:Int)
   case neg =>
    right
    refine ⟨.norm ⟨3,[(0,.box 0 0 (rdC bs p)),(2,.box 1 1 (zB.c .own)),(3,.box 2 2 cs)]⟩,?_,y,p,cs,⟨⟨g5.mono (by omega),gc⟩,by omega,by omega⟩,rfl⟩
    simp only [rA,seval,e60,VBook.c,zB,rdC,hm]
   left
   have hyw :=g5.w (by omega)
   have wm :=wrap64 (n :=(m:Int) - 1) (by omega) (by omega)
   have em:((m - 1:Nat):Int) = (m:Int) - 1 :=by omega
   obtain ⟨k1,⟨k1a,k1b⟩,h1⟩ :=k30 hb p (by omega) 10
   simp only [rdC] at h1
   rcases (show k1 = 0∨k1 = 1∨(¬ k1 = 0∧¬ k1 = 1) by omega) with z1 | z1 | ⟨z1,z2⟩
   ·obtain ⟨k2,⟨k2a,k2b⟩,h2⟩ :=k30 hb (p + 1) (by omega) 4
    simp only [rdC] at h2
    have f0 :=g5.f0
    have f1 :=g5.f1
    have w2 :=wrap64 (n :=y.floor + k2) (by omega) (by omega)
    have h15 :=k15 y (y.floor + k2) (by omega)
    have dz :=(g5.cut (y.floor + k2)).mono (m :=400 - 11 * (m - 1)) (by omega)
    generalize bcut y (y.floor + k2) = z at *
    refine ⟨(m - 1,p + 1 + 1,z,z.c .shr),?_,⟨by simp only; omega,by simp only; omega,by simp only; omega,dz,.inr rfl⟩,by simp only; omega⟩
    simp only [VBook.c] at h15
    rcases gc with rfl | rfl
    ·skip
     simp only [rA,seval,e60,e30,e15,VBook.c,VBook.m,bkR,VW.c,VU.c,VCa.c,VSa.c,rdC,zB,List.cons_append,List.nil_append,List.map_nil,List.length_map,rowsShr,rowsShrC,rwO,rwC,rwT,rowsBookWant,rowsBookWrite,rwS,hm,wm,em,h1,z1,h2,w2,h15]
    ·skip
     simp only [rA,seval,e60,e30,e15,VBook.c,VBook.m,bkR,VW.c,VU.c,VCa.c,VSa.c,rdC,zB,List.cons_append,List.nil_append,List.map_nil,List.length_map,rowsShr,rowsShrC,rwO,rwC,rwT,rowsBookWant,rowsBookWrite,rwS,hm,wm,em,h1,z1,h2,w2,h15]
   ·obtain ⟨k2,⟨k2a,k2b⟩,h2⟩ :=k30 hb (p + 1) (by omega) 3
    obtain ⟨k3,⟨k3a,k3b⟩,h3⟩ :=k30 hb (p + 1 + 1) (by omega) 6
    simp only [rdC] at h2 h3
    have k2c:k2 < 3 :=by omega
    have k2n:k2.toNat < 3 :=by omega
    obtain ⟨cl,hcl,hr2⟩ :=pickL CL k2a (by simpa [CL] using k2c)
    simp only [CL,List.map_cons,List.map_nil,strC] at hr2
    have w3 :=wrap64 (n :=1 + k3) (by omega) (by omega)
    obtain ⟨x,p2,⟨x1,x2,x3,x4⟩,hp1,hp2,h84⟩ :=k84 hb (p + 1 + 1 + 1) (by omega) y g5 (by omega)
    obtain ⟨r,h83,z,fl2,ft2,hz,sd,⟨⟨d1,d2,d3⟩,d4⟩,rfl⟩ :=k83 y ⟨cl,1 + k3,x⟩ g5 (by omega) (by simp only; omega) (by simp only; omega) x3 x4
    simp only at d1 d2 d3
    have e1 :=d2.bor
    refine ⟨(m - 1,p2,z,z.c .shr),?_,⟨by simp only; omega,by simp only; omega,by simp only; omega,d1.mono (by omega),.inr rfl⟩,by simp only; omega⟩
    simp only [VBook.c,bkR,VCa.c,VSa.c,VU.c,rdC] at h83 h84
    rcases gc with rfl | rfl
    ·skip
     rcases d3 with ⟨rfl,rfl⟩ | rfl
     ·rcases d4 with rfl | rfl
      ·skip
       simp only [rA,seval,e60,e30,e83,e84,VBook.c,VBook.m,bkR,VW.c,VU.c,VCa.c,VSa.c,rdC,zB,List.cons_append,List.nil_append,List.map_nil,List.length_map,rowsShr,rowsShrC,rwO,rwC,rwT,rowsBookWant,rowsBookWrite,rwS,hm,wm,em,h1,z1,k2a,k2c,k2n,h2,hr2,h3,w3,h84,h83,e1]
      ·skip
       simp only [rA,seval,e60,e30,e83,e84,VBook.c,VBook.m,bkR,VW.c,VU.c,VCa.c,VSa.c,rdC,zB,List.cons_append,List.nil_append,List.map_nil,List.length_map,rowsShr,rowsShrC,rwO,rwC,rwT,rowsBookWant,rowsBookWrite,rwS,hm,wm,em,h1,z1,k2a,k2c,k2n,h2,hr2,h3,w3,h84,h83,e1]
     ·rcases d4 with rfl | rfl
      ·skip
       simp only [rA,seval,e60,e30,e83,e84,VBook.c,VBook.m,bkR,VW.c,VU.c,VCa.c,VSa.c,rdC,zB,List.cons_append,List.nil_append,List.map_nil,List.length_map,rowsShr,rowsShrC,rwO,rwC,rwT,rowsBookWant,rowsBookWrite,rwS,hm,wm,em,h1,z1,k2a,k2c,k2n,h2,hr2,h3,w3,h84,h83,e1]
      ·cases hb1:mineRows (List.map (VO.c Fl.shr) z.objects)
       ·skip
        simp only [rA,seval,e60,e30,e83,e84,VBook.c,VBook.m,bkR,VW.c,VU.c,VCa.c,VSa.c,rdC,zB,List.cons_append,List.nil_append,List.map_nil,List.length_map,rowsShr,rowsShrC,rwO,rwC,rwT,rowsBookWant,rowsBookWrite,rwS,hm,wm,em,h1,z1,k2a,k2c,k2n,h2,hr2,h3,w3,h84,h83,e1,hb1]
       ·cases hb2:mineRows hz
        ·skip
         simp only [rA,seval,e60,e30,e83,e84,VBook.c,VBook.m,bkR,VW.c,VU.c,VCa.c,VSa.c,rdC,zB,List.cons_append,List.nil_append,List.map_nil,List.length_map,rowsShr,rowsShrC,rwO,rwC,rwT,rowsBookWant,rowsBookWrite,rwS,hm,wm,em,h1,z1,k2a,k2c,k2n,h2,hr2,h3,w3,h84,h83,e1,hb1,hb2]
        ·skip
         simp only [rA,seval,e60,e30,e83,e84,VBook.c,VBook.m,bkR,VW.c,VU.c,VCa.c,VSa.c,rdC,zB,List.cons_append,List.nil_append,List.map_nil,List.length_map,rowsShr,rowsShrC,rwO,rwC,rwT,rowsBookWant,rowsBookWrite,rwS,hm,wm,em,h1,z1,k2a,k2c,k2n,h2,hr2,h3,w3,h84,h83,e1,hb1,hb2]
    ·skip
     rcases d3 with ⟨rfl,rfl⟩ | rfl
     ·rcases d4 with rfl | rfl
      ·skip
       simp only [rA,seval,e60,e30,e83,e84,VBook.c,VBook.m,bkR,VW.c,VU.c,VCa.c,VSa.c,rdC,zB,List.cons_append,List.nil_append,List.map_nil,List.length_map,rowsShr,rowsShrC,rwO,rwC,rwT,rowsBookWant,rowsBookWrite,rwS,hm,wm,em,h1,z1,k2a,k2c,k2n,h2,hr2,h3,w3,h84,h83,e1]
      ·skip
       simp only [rA,seval,e60,e30,e83,e84,VBook.c,VBook.m,bkR,VW.c,VU.c,VCa.c,VSa.c,rdC,zB,List.cons_append,List.nil_append,List.map_nil,List.length_map,rowsShr,rowsShrC,rwO,rwC,rwT,rowsBookWant,rowsBookWrite,rwS,hm,wm,em,h1,z1,k2a,k2c,k2n,h2,hr2,h3,w3,h84,h83,e1]
     ·rcases d4 with rfl | rfl
      ·skip
       simp only [rA,seval,e60,e30,e83,e84,VBook.c,VBook.m,bkR,VW.c,VU.c,VCa.c,VSa.c,rdC,zB,List.cons_append,List.nil_append,List.map_nil,List.length_map,rowsShr,rowsShrC,rwO,rwC,rwT,rowsBookWant,rowsBookWrite,rwS,hm,wm,em,h1,z1,k2a,k2c,k2n,h2,hr2,h3,w3,h84,h83,e1]
      ·cases hb1:mineRows (List.map (VO.c Fl.shr) z.objects)
       ·skip
        simp only [rA,seval,e60,e30,e83,e84,VBook.c,VBook.m,bkR,VW.c,VU.c,VCa.c,VSa.c,rdC,zB,List.cons_append,List.nil_append,List.map_nil,List.length_map,rowsShr,rowsShrC,rwO,rwC,rwT,rowsBookWant,rowsBookWrite,rwS,hm,wm,em,h1,z1,k2a,k2c,k2n,h2,hr2,h3,w3,h84,h83,e1,hb1]
       ·cases hb2:mineRows hz
        ·skip
         simp only [rA,seval,e60,e30,e83,e84,VBook.c,VBook.m,bkR,VW.c,VU.c,VCa.c,VSa.c,rdC,zB,List.cons_append,List.nil_append,List.map_nil,List.length_map,rowsShr,rowsShrC,rwO,rwC,rwT,rowsBookWant,rowsBookWrite,rwS,hm,wm,em,h1,z1,k2a,k2c,k2n,h2,hr2,h3,w3,h84,h83,e1,hb1,hb2]
        ·skip
         simp only [rA,seval,e60,e30,e83,e84,VBook.c,VBook.m,bkR,VW.c,VU.c,VCa.c,VSa.c,rdC,zB,List.cons_append,List.nil_append,List.map_nil,List.length_map,rowsShr,rowsShrC,rwO,rwC,rwT,rowsBookWant,rowsBookWrite,rwS,hm,wm,em,h1,z1,k2a,k2c,k2n,h2,hr2,h3,w3,h84,h83,e1,hb1,hb2]
   ·obtain ⟨w,p2,hww,⟨⟨wo0,wo1⟩,ws0,ws1⟩,hp1,hp2,h76⟩ :=k76 hb (p + 1) (by omega) y (by have :=g5.ol; omega) (M :=1000) (fun o ho =>⟨(g5.objs o ho).w,by have :=(g5.objs o ho).holds; omega,(g5.objs o ho).v0,by have :=(g5.objs o ho).v1; omega⟩)
    obtain ⟨c,v,z,hz,⟨e1,e3,_,_,e6⟩,h75⟩ :=do_ok3 g5 (w :=w) (by omega) (by omega)
    refine ⟨(m - 1,p2,z,z.c .shr),?_,⟨by simp only; omega,by simp only; omega,by simp only; omega,e3.mono (by omega),.inr rfl⟩,by simp only; omega⟩
    have hc1 :=e1.bor
    simp only [VBook.c,VBook.m,VW.c,rdC] at h75 h76
    rcases gc with rfl | rfl
    ·skip
     by_cases hc0:c = 0
     ·have hfl:flD c = .own :=by unfold flD; rw [if_pos hc0]
      simp only [rA,seval,e60,e30,e75,e76,VBook.c,VBook.m,bkR,VW.c,VU.c,VCa.c,VSa.c,rdC,zB,List.cons_append,List.nil_append,List.map_nil,List.length_map,rowsShr,rowsShrC,rwO,rwC,rwT,rowsBookWant,rowsBookWrite,rwS,hm,wm,em,h1,z1,z2,h76,h75,hc1,hfl]
     ·have hfl:flD c = .shr :=by unfold flD; rw [if_neg hc0]
      have hhz :=e6 hc0
      subst hhz
      simp only [rA,seval,e60,e30,e75,e76,VBook.c,VBook.m,bkR,VW.c,VU.c,VCa.c,VSa.c,rdC,zB,List.cons_append,List.nil_append,List.map_nil,List.length_map,rowsShr,rowsShrC,rwO,rwC,rwT,rowsBookWant,rowsBookWrite,rwS,hm,wm,em,h1,z1,z2,h76,h75,hc1,hfl]
    ·skip
     by_cases hc0:c = 0
     ·have hfl:flD c = .own :=by unfold flD; rw [if_pos hc0]
      simp only [rA,seval,e60,e30,e75,e76,VBook.c,VBook.m,bkR,VW.c,VU.c,VCa.c,VSa.c,rdC,zB,List.cons_append,List.nil_append,List.map_nil,List.length_map,rowsShr,rowsShrC,rwO,rwC,rwT,rowsBookWant,rowsBookWrite,rwS,hm,wm,em,h1,z1,z2,h76,h75,hc1,hfl]
     ·have hfl:flD c = .shr :=by unfold flD; rw [if_neg hc0]
      have hhz :=e6 hc0
      subst hhz
      simp only [rA,seval,e60,e30,e75,e76,VBook.c,VBook.m,bkR,VW.c,VU.c,VCa.c,VSa.c,rdC,zB,List.cons_append,List.nil_append,List.map_nil,List.length_map,rowsShr,rowsShrC,rwO,rwC,rwT,rowsBookWant,rowsBookWrite,rwS,hm,wm,em,h1,z1,z2,h76,h75,hc1,hfl]
  obtain ⟨o,ho,y,p,cs,⟨⟨g5,gc⟩,g2,g3⟩,rfl⟩ :=hw
  rw [ho]
  clear ho hX X
  obtain ⟨k5,⟨k5a,k5b⟩,h5⟩ :=k30 hb p (by omega) 24
  simp only [rdC] at h5
  have fin:∀ (F1:Nat→Prop),True :=fun _ =>trivial
  by_cases z5:k5 = 0
  case neg =>
   have hyw :=g5.w (by omega)
   have h38 :=k38 y (by omega)
   simp only [VBook.c] at h38
   refine ⟨⟨[(true,y.c .own)],[rdC bs (p + 1)]⟩,?_,y,p + 1,g5.mono (by omega),by omega,by omega,rfl⟩
   rcases gc with rfl | rfl
   ·skip
    simp only [rA,seval,e60,e30,e38,VBook.c,VBook.m,bkR,VW.c,VU.c,VCa.c,VSa.c,rdC,zB,List.cons_append,List.nil_append,List.map_nil,List.length_map,rowsShr,rowsShrC,rwO,rwC,rwT,rowsBookWant,rowsBookWrite,rwS,h5,z5,h38]
   ·skip
    simp only [rA,seval,e60,e30,e38,VBook.c,VBook.m,bkR,VW.c,VU.c,VCa.c,VSa.c,rdC,zB,List.cons_append,List.nil_append,List.map_nil,List.length_map,rowsShr,rowsShrC,rwO,rwC,rwT,rowsBookWant,rowsBookWrite,rwS,h5,z5,h38]
  simp only [rA,seval,e60,e30,VBook.c,VBook.m,bkR,VW.c,VU.c,VCa.c,VSa.c,rdC,zB,List.cons_append,List.nil_append,List.map_nil,List.length_map,rowsShr,rowsShrC,rwO,rwC,rwT,rowsBookWant,rowsBookWrite,rwS,h5,z5]
  generalize hX:blockO _ _ (itω _ _ _) = X
  have hw:∃ o,X = some o∧∃ (y:VBook) (p:Nat) (cs:List C),(repB 900 y cs∧p0≤p∧p≤p0 + 9300)∧o = .norm ⟨3,[(0,.box 0 0 (rdC bs p)),(2,.box 1 1 (zB.c .own)),(3,.box 2 2 cs)]⟩ :=by
   refine while_ex hX (fun (q:Nat × Nat × VBook × List C) =>⟨4,[(0,.box 0 0 (rdC bs q.2.1)),(2,.box 1 1 (zB.c .own)),(3,.box 2 2 q.2.2.2),(6,.val 3 false [.p (.int .i64 q.1)])]⟩)
    (fun q =>q.1≤q.2.2.1.history.length∧(p0≤q.2.1∧q.2.1≤p0 + 9001 + q.1)∧repB (500 + q.1) q.2.2.1 q.2.2.2)
    (fun o =>∃ (y:VBook) (p:Nat) (cs:List C),(repB 900 y cs∧p0≤p∧p≤p0 + 9300)∧o = .norm ⟨3,[(0,.box 0 0 (rdC bs p)),(2,.box 1 1 (zB.c .own)),(3,.box 2 2 cs)]⟩)
    (fun q =>200 - q.2.2.1.history.length) ?_ (i :=(0,p + 1,y,cs)) ⟨Nat.zero_le _,⟨by simp only; omega,by simp only; omega⟩,g5.mono (by omega),gc⟩ (by simp only [rA,seval,e60,VBook.c,zB,rdC] <;> rfl)
   rintro ⟨i,p,y,cs⟩ ⟨g1,⟨g2,g3⟩,g5,gc⟩
   simp only at g1 g2 g3 g5 gc
   obtain ⟨k6,⟨k6a,k6b⟩,h6⟩ :=k30 hb p (by have :=g5.hl; omega) 2
   simp only [rdC] at h6
   have w6 :=wrap64 (n :=200 - k6) (by omega) (by omega)
   have hl :=g5.hl
   have hyw :=g5.w (by omega)
   have wi :=wrap64 (n :=(i:Int) + 1) (by omega) (by omega)
   have h70 :=k70 y ⟨#[98,101,114,116,104]⟩ ⟨#[120]⟩ (by omega)
   generalize bfind y.objects ⟨#[98,101,114,116,104]⟩ ⟨#[120]⟩ = bf at *
   obtain ⟨⟨ok,on,ov,ob,ot,oe,oh⟩,bt⟩ :=bf
   by_cases hlt:(y.history.length:Int) < 200 - k6
   case neg =>
    right
    refine ⟨.norm ⟨3,[(0,.box 0 0 (rdC bs (p + 1))),(2,.box 1 1 (zB.c .own)),(3,.box 2 2 cs)]⟩,?_,y,p + 1,cs,⟨⟨g5.mono (by omega),gc⟩,by omega,by omega⟩,rfl⟩
    rcases gc with rfl | rfl
    ·skip
     simp only [rA,seval,e60,e30,VBook.c,VBook.m,bkR,VW.c,VU.c,VCa.c,VSa.c,rdC,zB,List.cons_append,List.nil_append,List.map_nil,List.length_map,rowsShr,rowsShrC,rwO,rwC,rwT,rowsBookWant,rowsBookWrite,rwS,h6,w6,hlt]
    ·skip
     simp only [rA,seval,e60,e30,VBook.c,VBook.m,bkR,VW.c,VU.c,VCa.c,VSa.c,rdC,zB,List.cons_append,List.nil_append,List.map_nil,List.length_map,rowsShr,rowsShrC,rwO,rwC,rwT,rowsBookWant,rowsBookWrite,rwS,h6,w6,hlt]
   obtain ⟨c,v,z,hz,⟨e1,e3,e4,e5,_⟩,h75⟩ :=do_ok3 g5 (w :=⟨if bt = true then 2 else 1,⟨#[98,101,114,116,104]⟩,⟨#[120]⟩,0,⟨#[118]⟩,⟨#[]⟩⟩) (by omega) (by show 5 + 1 + 1 + 0≤20000; omega)
   have hc1 :=e1.bor
   simp only [VBook.c,VBook.m,VW.c,VO.c] at h75 h70
   by_cases hc:c = 0
   case pos =>
    left
    subst hc
    have e6 :=e5 rfl (by omega)
    refine ⟨(i + 1,p + 1,z,z.c .shr),?_,⟨by simp only; omega,⟨by simp only; omega,by simp only; omega⟩,e3.mono (by omega),.inr rfl⟩,by simp only; omega⟩
    cases bt <;> simp only [if_true,Bool.false_eq_true,if_false] at h75 <;> rcases gc with rfl | rfl
    ·skip
     simp only [rA,seval,e60,e30,e70,e75,VBook.c,VBook.m,bkR,VW.c,VU.c,VCa.c,VSa.c,rdC,zB,List.cons_append,List.nil_append,List.map_nil,List.length_map,rowsShr,rowsShrC,rwO,rwC,rwT,rowsBookWant,rowsBookWrite,rwS,VO.c,h6,w6,hlt,h70,h75,hc1,wi,flD,i64c]
    ·skip
     simp only [rA,seval,e60,e30,e70,e75,VBook.c,VBook.m,bkR,VW.c,VU.c,VCa.c,VSa.c,rdC,zB,List.cons_append,List.nil_append,List.map_nil,List.length_map,rowsShr,rowsShrC,rwO,rwC,rwT,rowsBookWant,rowsBookWrite,rwS,VO.c,h6,w6,hlt,h70,h75,hc1,wi,flD,i64c]
    ·skip
     simp only [rA,seval,e60,e30,e70,e75,VBook.c,VBook.m,bkR,VW.c,VU.c,VCa.c,VSa.c,rdC,zB,List.cons_append,List.nil_append,List.map_nil,List.length_map,rowsShr,rowsShrC,rwO,rwC,rwT,rowsBookWant,rowsBookWrite,rwS,VO.c,h6,w6,hlt,h70,h75,hc1,wi,flD,i64c]
    ·skip
     simp only [rA,seval,e60,e30,e70,e75,VBook.c,VBook.m,bkR,VW.c,VU.c,VCa.c,VSa.c,rdC,zB,List.cons_append,List.nil_append,List.map_nil,List.length_map,rowsShr,rowsShrC,rwO,rwC,rwT,rowsBookWant,rowsBookWrite,rwS,VO.c,h6,w6,hlt,h70,h75,hc1,wi,flD,i64c]
   case neg =>
    right
    refine ⟨.norm ⟨3,[(0,.box 0 0 (rdC bs (p + 1))),(2,.box 1 1 (zB.c .own)),(3,.box 2 2 (y.c .shr))]⟩,?_,y,p + 1,y.c .shr,⟨⟨g5.mono (by omega),.inr rfl⟩,by omega,by omega⟩,rfl⟩
    cases bt <;> simp only [if_true,Bool.false_eq_true,if_false] at h75 <;> rcases gc with rfl | rfl
    ·skip
     simp only [rA,seval,e60,e30,e70,e75,VBook.c,VBook.m,bkR,VW.c,VU.c,VCa.c,VSa.c,rdC,zB,List.cons_append,List.nil_append,List.map_nil,List.length_map,rowsShr,rowsShrC,rwO,rwC,rwT,rowsBookWant,rowsBookWrite,rwS,VO.c,h6,w6,hlt,h70,h75,hc1,wi,hc,flD,if_false]
    ·skip
     simp only [rA,seval,e60,e30,e70,e75,VBook.c,VBook.m,bkR,VW.c,VU.c,VCa.c,VSa.c,rdC,zB,List.cons_append,List.nil_append,List.map_nil,List.length_map,rowsShr,rowsShrC,rwO,rwC,rwT,rowsBookWant,rowsBookWrite,rwS,VO.c,h6,w6,hlt,h70,h75,hc1,wi,hc,flD,if_false]
    ·skip
     simp only [rA,seval,e60,e30,e70,e75,VBook.c,VBook.m,bkR,VW.c,VU.c,VCa.c,VSa.c,rdC,zB,List.cons_append,List.nil_append,List.map_nil,List.length_map,rowsShr,rowsShrC,rwO,rwC,rwT,rowsBookWant,rowsBookWrite,rwS,VO.c,h6,w6,hlt,h70,h75,hc1,wi,hc,flD,if_false]
    ·skip
     simp only [rA,seval,e60,e30,e70,e75,VBook.c,VBook.m,bkR,VW.c,VU.c,VCa.c,VSa.c,rdC,zB,List.cons_append,List.nil_append,List.map_nil,List.length_map,rowsShr,rowsShrC,rwO,rwC,rwT,rowsBookWant,rowsBookWrite,rwS,VO.c,h6,w6,hlt,h70,h75,hc1,wi,hc,flD,if_false]
  obtain ⟨o,ho,y,p,cs,⟨⟨g5,gc⟩,g2,g3⟩,rfl⟩ :=hw
  rw [ho]
  have hyw :=g5.w (by omega)
  have h38 :=k38 y (by omega)
  simp only [VBook.c] at h38
  refine ⟨⟨[(true,y.c .own)],[rdC bs p]⟩,?_,y,p,g5.mono (by omega),by omega,by omega,rfl⟩
  rcases gc with rfl | rfl
  ·skip
   simp only [rA,seval,e60,e38,VBook.c,VBook.m,bkR,VW.c,VU.c,VCa.c,VSa.c,rdC,zB,List.cons_append,List.nil_append,List.map_nil,List.length_map,rowsShr,rowsShrC,rwO,rwC,rwT,rowsBookWant,rowsBookWrite,rwS,h38]
  ·skip
   simp only [rA,seval,e60,e38,VBook.c,VBook.m,bkR,VW.c,VU.c,VCa.c,VSa.c,rdC,zB,List.cons_append,List.nil_append,List.map_nil,List.length_map,rowsShr,rowsShrC,rwO,rwC,rwT,rowsBookWant,rowsBookWrite,rwS,h38]
 obtain ⟨r,e1,y,p',h1,h2,h3,rfl⟩ :=key
 exact ⟨y,p',h1,h2,h3,e1⟩
structure SoO (o:VO):Prop where
 kind:o.kind.size≤20
 name:o.name.size≤20
 text:o.text.size≤301
 holds:o.holds.length≤6
 hold:∀ h ∈ o.holds,h.size≤20
 v0:-1≤o.version
 v1:o.version≤1000001
structure DrS (b:VBook):Prop where
 lo:-1≤b.now
 hi:b.now≤1000001
 f0:-1≤b.floor
 f1:b.floor≤1000001
 objs:∀ o ∈ b.objects,SoO o
 ol:b.objects.length≤2001
 hist:∀ c ∈ b.history,SoO c.object∧0≤c.version∧c.version≤1000001
 hl:b.history.length≤200
 tick:∀ t ∈ b.tickets,t.client.size≤20∧t.print.size≤8
 tl:b.tickets.length≤51
theorem SmO.so {o:VO} (h:SmO o):SoO o :=⟨h.kind,h.name,Nat.le_trans h.text (by omega),Nat.le_trans h.holds (by omega),h.hold,by have :=h.v0; omega,by have :=h.v1; omega⟩
theorem DrB.so {n:Nat} {b:VBook} (h:DrB n b) (hn:n≤2000):DrS b :=
 ⟨by have :=h.lo; omega,by have :=h.hi; omega,by have :=h.f0; omega,by have :=h.f1; omega,fun o ho =>(h.objs o ho).so,Nat.le_trans h.ol (by omega),
  fun c hc =>⟨(h.hist c hc).1.so,(h.hist c hc).2.1,by have :=(h.hist c hc).2.2; omega⟩,h.hl,fun t ht =>⟨(h.tick t ht).client,(h.tick t ht).print⟩,Nat.le_trans h.tl (by omega)⟩
theorem all_set {α:Type} {P:α→Prop} {l:List α} {i:Nat} {a:α} (h:∀ x ∈ l,P x) (ha:P a):∀ x ∈ l.set i a,P x :=by
 intro x hx
 rcases List.mem_or_eq_of_mem_set hx with h1 | rfl
 ·exact h x h1
 ·exact ha
theorem DrS.nf {b:VBook} (d:DrS b) {n f:Int} (h:-1≤n∧n≤1000001∧-1≤f∧f≤1000001):DrS ⟨n,f,b.objects,b.history,b.tickets⟩ :=⟨h.1,h.2.1,h.2.2.1,h.2.2.2,d.objs,d.ol,d.hist,d.hl,d.tick,d.tl⟩
theorem DrS.setO {b:VBook} (d:DrS b) {i:Nat} {o:VO} (ho:SoO o):DrS ⟨b.now,b.floor,b.objects.set i o,b.history,b.tickets⟩ :=⟨d.lo,d.hi,d.f0,d.f1,all_set d.objs ho,by simpa using d.ol,d.hist,d.hl,d.tick,d.tl⟩
theorem DrS.setH {b:VBook} (d:DrS b) {i:Nat} {c:VC} (hc:SoO c.object∧0≤c.version∧c.version≤1000001):DrS ⟨b.now,b.floor,b.objects,b.history.set i c,b.tickets⟩ :=⟨d.lo,d.hi,d.f0,d.f1,d.objs,d.ol,all_set d.hist hc,by simpa using d.hl,d.tick,d.tl⟩
theorem DrB.addT {n:Nat} {b:VBook} (h:DrB n b) (hn:n≤2000) {t:VT} (ht:t.client.size≤20∧t.print.size≤8):DrS ⟨b.now,b.floor,b.objects,b.history,b.tickets ++ [t]⟩ :=by
 have d :=h.so hn
 refine ⟨d.lo,d.hi,d.f0,d.f1,d.objs,d.ol,d.hist,d.hl,fun x hx =>?_,by have :=h.tl; simp; omega⟩
 rcases List.mem_append.1 hx with hx | hx
 ·exact d.tick x hx
 ·rw [List.mem_singleton.1 hx]; exact ht
theorem DrB.addO {n:Nat} {b:VBook} (h:DrB n b) (hn:n≤2000) {t:VO} (ht:SoO t):DrS ⟨b.now,b.floor,b.objects ++ [t],b.history,b.tickets⟩ :=by
 have d :=h.so hn
 refine ⟨d.lo,d.hi,d.f0,d.f1,fun x hx =>?_,by have :=h.ol; simp; omega,d.hist,d.hl,d.tick,d.tl⟩
 rcases List.mem_append.1 hx with hx | hx
 ·exact d.objs x hx
 ·rw [List.mem_singleton.1 hx]; exact ht
theorem DrS.outO {b:VBook} (d:DrS b) {i:Nat} (hi:i < b.objects.length):DrS ⟨b.now,b.floor,b.objects.take i ++ b.objects.drop (i + 1),b.history,b.tickets⟩ :=by
 refine ⟨d.lo,d.hi,d.f0,d.f1,fun x hx =>?_,by have :=d.ol; simp; omega,d.hist,d.hl,d.tick,d.tl⟩
 rcases List.mem_append.1 hx with hx | hx
 ·exact d.objs x (List.mem_of_mem_take hx)
 ·exact d.objs x (List.mem_of_mem_drop hx)
theorem DrS.outH {b:VBook} (d:DrS b) {i:Nat}:DrS ⟨b.now,b.floor,b.objects,b.history.drop i,b.tickets⟩ :=
 ⟨d.lo,d.hi,d.f0,d.f1,d.objs,d.ol,fun x hx =>d.hist x (List.mem_of_mem_drop hx),by have :=d.hl; rw [List.length_drop]; omega,d.tick,d.tl⟩
theorem SoO.w {o:VO} (h:SoO o):o.w≤500 :=by
 have h1 :=sum_str h.hold
 have h2 :=h.holds
 have h3 :=h.kind
 have h4 :=h.name
 have h5 :=h.text
 have h6:20 * o.holds.length≤120 :=by omega
 unfold VO.w wSString
 omega
theorem sum_ob2 {l:List VO} (h:∀ o ∈ l,SoO o):sumWBookObject l≤500 * l.length :=by
 induction l with
 | nil =>simp [sumWBookObject]
 | cons x r ih =>
  have h1 :=(h x (by simp)).w
  have h2 :=ih (fun s hs =>h s (List.mem_cons_of_mem _ hs))
  simp only [sumWBookObject,List.length_cons,Nat.mul_add,Nat.mul_one]
  omega
theorem sum_ch2 {l:List VC} (h:∀ c ∈ l,SoO c.object):sumWBookChange l≤500 * l.length :=by
 induction l with
 | nil =>simp [sumWBookChange]
 | cons x r ih =>
  have h1 :=(h x (by simp)).w
  have h2 :=ih (fun s hs =>h s (List.mem_cons_of_mem _ hs))
  simp only [sumWBookChange,VC.w,List.length_cons,Nat.mul_add,Nat.mul_one]
  omega
theorem sum_ti2 {l:List VT} (h:∀ t ∈ l,t.client.size≤20∧t.print.size≤8):sumWBookTicket l≤28 * l.length :=by
 induction l with
 | nil =>simp [sumWBookTicket]
 | cons x r ih =>
  have h1 :=h x (by simp)
  have h2 :=ih (fun s hs =>h s (List.mem_cons_of_mem _ hs))
  simp only [sumWBookTicket,VT.w,List.length_cons,Nat.mul_add,Nat.mul_one]
  omega
theorem DrS.w {b:VBook} (d:DrS b):b.w≤1200000 :=by
 have h1 :=sum_ob2 d.objs
 have h2 :=sum_ch2 (fun c hc =>(d.hist c hc).1)
 have h3 :=sum_ti2 d.tick
 have h4 :=d.ol
 have h5 :=d.hl
 have h6 :=d.tl
 unfold VBook.w wSBookObject wSBookChange wSBookTicket
 omega
theorem pickI (L:List Int) {k:Int} (h0:0≤k) (h1:k < L.length):∃ s ∈ L,(L.map intC)[k.toNat]? = some (intC s) :=by
 have h:k.toNat < L.length :=by omega
 exact ⟨L[k.toNat],List.getElem_mem h,getElem?_map_some (f :=intC) (List.getElem?_eq_getElem h)⟩
def VBook.m2 (x:VBook):List C :=[.p (.int .i64 x.now),.p (.int .i64 x.floor),.sl .own 7 (x.objects.map (VO.c .shr)),.sl .own 9 (x.history.map (VC.c .shr)),.sl .own 5 (x.tickets.map VT.c)]
structure In61 (bs:List Int) (p:Nat) (y:VBook) (o h:Nat) (v:Int):Prop where
 hb:Bytes bs
 hp:p≤600000
 g:DrB 1200 y
 ho:o < y.objects.length
 hh:h < y.history.length
 h1:EV Try.prog E 30 [.box 0 0 (rdC bs p),.val 0 false [.p (.int .i64 y.objects.length)]] = some ⟨[(false,[.p (.int .i64 (o:Int))])],[rdC bs (p + 1)]⟩
 h2:EV Try.prog E 30 [.box 0 0 (rdC bs (p + 1)),.val 0 false [.p (.int .i64 y.history.length)]] = some ⟨[(false,[.p (.int .i64 (h:Int))])],[rdC bs (p + 1 + 1)]⟩
 h3:EV Try.prog E 30 [.box 0 0 (rdC bs (p + 1 + 1)),.val 0 false [.p (.int .i64 20)]] = some ⟨[(false,[.p (.int .i64 v)])],[rdC bs (p + 1 + 1 + 1)]⟩
def Out61 (bs:List Int) (p:Nat) (y:VBook):Prop :=∃ (z:VBook) (p':Nat) (cs:List C),DrS z∧p≤p'∧p'≤p + 20∧borRow cs = z.c .shr∧EV Try.prog E 61 [.box 0 0 (rdC bs p),.val 0 true (y.c .shr)] = some ⟨[(true,cs)],[rdC bs p']⟩
section
variable {bs:List Int} {p:Nat} {y:VBook} {o h:Nat} {v:Int} (H:In61 bs p y o h v)
include H
theorem In61.f:¬ ((y.objects.length:Int) = 0)∧¬ ((y.history.length:Int) = 0)∧(0:Int)≤(o:Int)∧o < y.objects.length∧(o:Int) < (y.objects.length:Int)∧(0:Int)≤(h:Int)∧h < y.history.length∧(h:Int) < (y.history.length:Int) :=by
 have h1 :=H.ho
 have h2 :=H.hh
 refine ⟨?_,?_,?_,?_,?_,?_,?_,?_⟩ <;> omega
theorem In61.b:(0≤y.now∧y.now≤1000000∧0≤y.floor∧y.floor≤1000000)∧p≤600000∧o < y.objects.length∧h < y.history.length∧y.objects.length≤1200∧y.history.length≤200∧y.tickets.length≤50 :=
 ⟨⟨H.g.lo,H.g.hi,H.g.f0,H.g.f1⟩,H.hp,H.ho,H.hh,H.g.ol,H.g.hl,H.g.tl⟩
theorem In61.k38:EV Try.prog E 38 [.val 0 true (y.c .shr)] = some ⟨[(true,y.c .own)],[]⟩ :=Go.Proofs.Ytgekblcbdhjmfaa.k38 y (by have :=H.g.w (by omega); omega)
theorem In61.obj:∃ x:VO,((y.objects.map (VO.c .own))[o]? = some (x.c .own)∧(y.objects.map (VO.c .shr))[o]? = some (x.c .shr))∧SmO x∧0≤x.version∧x.version≤1000000 :=by
 have hx :=List.getElem?_eq_getElem H.ho
 have sm :=H.g.objs _ (List.getElem_mem H.ho)
 exact ⟨_,⟨getElem?_map_some (f :=VO.c .own) hx,getElem?_map_some (f :=VO.c .shr) hx⟩,sm,sm.v0,sm.v1⟩
theorem In61.his:∃ x:VC,((y.history.map (VC.c .own))[h]? = some (x.c .own)∧(y.history.map (VC.c .shr))[h]? = some (x.c .shr))∧SmO x.object∧0≤x.version∧x.version≤1000000 :=by
 have hx :=List.getElem?_eq_getElem H.hh
 have sm :=H.g.hist _ (List.getElem_mem H.hh)
 exact ⟨_,⟨getElem?_map_some (f :=VC.c .own) hx,getElem?_map_some (f :=VC.c .shr) hx⟩,sm.1,sm.2.1,sm.2.2⟩
theorem In61.pick (q:Nat) (hq:q≤p + 100) (n:Int) (m:Nat) (e:n = m) (hn:0 < m):∃ k:Int,(0≤k∧k < n∧k.toNat < m)∧EV Try.prog E 30 [.box 0 0 (rdC bs q),.val 0 false [.p (.int .i64 n)]] = some ⟨[(false,[.p (.int .i64 k)])],[rdC bs (q + 1)]⟩ :=by
 have h1 :=H.hp
 obtain ⟨k,⟨ka,kb⟩,hk⟩ :=k30 H.hb q (by omega) n
 exact ⟨k,⟨ka,by omega,by omega⟩,hk⟩
end
theorem k61_0 {bs:List Int} {p:Nat} {y:VBook} {o h:Nat} (H:In61 bs p y o h 0):Out61 bs p y :=by
 have F :=H.f
 have B :=H.b
 have h1 :=H.h1
 have h2 :=H.h2
 have h3 :=H.h3
 have h38 :=H.k38
 have d :=H.g.so (by omega)
 have w1 :=wrap64 (n :=y.now + 1) (by omega) (by omega)
 obtain ⟨k0,q0,hk0⟩ :=H.pick (p + 1 + 1 + 1) (by omega) 3 3 rfl (by decide)
 obtain ⟨v0,hv0,hw0⟩ :=pickI [-1,y.now + 1,1000001] q0.1 (by simpa using q0.2.1)
 simp only [List.map_cons,List.map_nil,intC] at hw0
 simp only [List.mem_cons,List.not_mem_nil,or_false] at hv0
 refine ⟨⟨v0,y.floor,y.objects,y.history,y.tickets⟩,p + 1 + 1 + 1 + 1,_,d.nf (by omega),by omega,by omega,(rowBook _).1,eVi Try.func61 rfl ?_⟩
 simp only [rdC,VBook.c,VO.c,VC.c] at h1 h2 h3 h38 hk0
 simp only [rA,seval,e61,e30,e38,Try.f61,VBook.c,VO.c,VC.c,rdC,h1,h2,h3,h38,F,w1,hk0,q0,hw0,List.length_map,rwO,rwC,rwT,rwS]
theorem k61_1 {bs:List Int} {p:Nat} {y:VBook} {o h:Nat} (H:In61 bs p y o h 1):Out61 bs p y :=by
 have F :=H.f
 have B :=H.b
 have h1 :=H.h1
 have h2 :=H.h2
 have h3 :=H.h3
 have h38 :=H.k38
 have d :=H.g.so (by omega)
 have w1 :=wrap64 (n :=y.floor + 1) (by omega) (by omega)
 have w2 :=wrap64 (n :=y.now + 1) (by omega) (by omega)
 obtain ⟨k0,q0,hk0⟩ :=H.pick (p + 1 + 1 + 1) (by omega) 3 3 rfl (by decide)
 obtain ⟨v0,hv0,hw0⟩ :=pickI [-1,y.floor + 1,y.now + 1] q0.1 (by simpa using q0.2.1)
 simp only [List.map_cons,List.map_nil,intC] at hw0
 simp only [List.mem_cons,List.not_mem_nil,or_false] at hv0
 refine ⟨⟨y.now,v0,y.objects,y.history,y.tickets⟩,p + 1 + 1 + 1 + 1,_,d.nf (by omega),by omega,by omega,(rowBook _).1,eVi Try.func61 rfl ?_⟩
 simp only [rdC,VBook.c,VO.c,VC.c] at h1 h2 h3 h38 hk0
 simp only [rA,seval,e61,e30,e38,Try.f61,VBook.c,VO.c,VC.c,rdC,h1,h2,h3,h38,F,w1,w2,hk0,q0,hw0,List.length_map,rwO,rwC,rwT,rwS]
theorem k61_2 {bs:List Int} {p:Nat} {y:VBook} {o h:Nat} (H:In61 bs p y o h 2):Out61 bs p y :=by
 have F :=H.f
 have B :=H.b
 have h1 :=H.h1
 have h2 :=H.h2
 have h3 :=H.h3
 have h38 :=H.k38
 have d :=H.g.so (by omega)
 obtain ⟨x,hro,sm,xv⟩ :=H.obj
 have sx :=sm.so
 obtain ⟨k0,q0,hk0⟩ :=H.pick (p + 1 + 1 + 1) (by omega) 3 3 rfl (by decide)
 have w1 :=wrap64 (n :=x.version + k0) (by omega) (by omega)
 have w2 :=wrap64 (n :=x.version + k0 - 1) (by omega) (by omega)
 have hs :=(List.map_set (f :=VO.c .own) (l :=y.objects) (i :=o) (a :=⟨x.kind,x.name,x.version + k0 - 1,x.born,x.text,x.ending,x.holds⟩)).symm
 refine ⟨⟨y.now,y.floor,y.objects.set o ⟨x.kind,x.name,x.version + k0 - 1,x.born,x.text,x.ending,x.holds⟩,y.history,y.tickets⟩,p + 1 + 1 + 1 + 1,_,d.setO ⟨sx.kind,sx.name,sx.text,sx.holds,sx.hold,by simp only; omega,by simp only; omega⟩,by omega,by omega,(rowBook _).1,eVi Try.func61 rfl ?_⟩
 simp only [rdC,VBook.c,VO.c,VC.c] at h1 h2 h3 h38 hro hk0 hs
 simp only [rA,seval,e61,e30,e38,Try.f61,VBook.c,VO.c,VC.c,rdC,h1,h2,h3,h38,F,hro,hk0,q0,w1,w2,hs,List.length_map,rwO,rwC,rwT,rwS]
theorem k61_3 {bs:List Int} {p:Nat} {y:VBook} {o h:Nat} (H:In61 bs p y o h 3):Out61 bs p y :=by
 have F :=H.f
 have B :=H.b
 have h1 :=H.h1
 have h2 :=H.h2
 have h3 :=H.h3
 have h38 :=H.k38
 have d :=H.g.so (by omega)
 obtain ⟨x,hro,sm,xv⟩ :=H.obj
 have sx :=sm.so
 obtain ⟨k0,q0,hk0⟩ :=H.pick (p + 1 + 1 + 1) (by omega) 3 3 rfl (by decide)
 obtain ⟨v0,hv0,hw0⟩ :=pickI [0,x.version,1] q0.1 (by simpa using q0.2.1)
 simp only [List.map_cons,List.map_nil,intC] at hw0
 simp only [List.mem_cons,List.not_mem_nil,or_false] at hv0
 have hs :=(List.map_set (f :=VO.c .own) (l :=y.objects) (i :=o) (a :=⟨x.kind,x.name,x.version,v0,x.text,x.ending,x.holds⟩)).symm
 refine ⟨⟨y.now,y.floor,y.objects.set o ⟨x.kind,x.name,x.version,v0,x.text,x.ending,x.holds⟩,y.history,y.tickets⟩,p + 1 + 1 + 1 + 1,_,d.setO ⟨sx.kind,sx.name,sx.text,sx.holds,sx.hold,sx.v0,sx.v1⟩,by omega,by omega,(rowBook _).1,eVi Try.func61 rfl ?_⟩
 simp only [rdC,VBook.c,VO.c,VC.c] at h1 h2 h3 h38 hro hk0 hs
 simp only [rA,seval,e61,e30,e38,Try.f61,VBook.c,VO.c,VC.c,rdC,h1,h2,h3,h38,F,hro,hk0,q0,hw0,hs,List.length_map,rwO,rwC,rwT,rwS]
theorem k61_4 {bs:List Int} {p:Nat} {y:VBook} {o h:Nat} (H:In61 bs p y o h 4):Out61 bs p y :=by
 have F :=H.f
 have B :=H.b
 have h1 :=H.h1
 have h2 :=H.h2
 have h3 :=H.h3
 have h38 :=H.k38
 have d :=H.g.so (by omega)
 obtain ⟨x,hro,sm,xv⟩ :=H.obj
 have sx :=sm.so
 have hs :=(List.map_set (f :=VO.c .own) (l :=y.objects) (i :=o) (a :=⟨x.kind,x.name,x.version,x.born,x.text ++ ⟨#[120]⟩,x.ending,x.holds⟩)).symm
 have xt :=sm.text
 have hsz:x.text.size + (⟨#[120]⟩:ByteArray).size < 9223372036854775807 :=by
  have e:(⟨#[120]⟩:ByteArray).size = 1 :=by decide
  omega
 refine ⟨⟨y.now,y.floor,y.objects.set o ⟨x.kind,x.name,x.version,x.born,x.text ++ ⟨#[120]⟩,x.ending,x.holds⟩,y.history,y.tickets⟩,p + 1 + 1 + 1,_,d.setO ⟨sx.kind,sx.name,by show (x.text ++ ⟨#[120]⟩).size≤301; rw [ByteArray.size_append]; exact (Nat.add_le_add xt (show (⟨#[120]⟩:ByteArray).size≤1 by decide):_≤300 + 1),sx.holds,sx.hold,sx.v0,sx.v1⟩,by omega,by omega,(rowBook _).1,eVi Try.func61 rfl ?_⟩
 simp only [rdC,VBook.c,VO.c,VC.c] at h1 h2 h3 h38 hro hs
 simp only [rA,seval,e61,e30,e38,Try.f61,VBook.c,VO.c,VC.c,rdC,h1,h2,h3,h38,F,hro,hs,hsz,List.length_map,rwO,rwC,rwT,rwS]
theorem k61_5 {bs:List Int} {p:Nat} {y:VBook} {o h:Nat} (H:In61 bs p y o h 5):Out61 bs p y :=by
 have F :=H.f
 have B :=H.b
 have h1 :=H.h1
 have h2 :=H.h2
 have h3 :=H.h3
 have h38 :=H.k38
 have d :=H.g.so (by omega)
 obtain ⟨x,hro,sm,xv⟩ :=H.obj
 have sx :=sm.so
 have hs :=(List.map_set (f :=VO.c .own) (l :=y.objects) (i :=o) (a :=⟨x.kind,x.name,x.version,x.born,x.text,!x.ending,x.holds⟩)).symm
 refine ⟨⟨y.now,y.floor,y.objects.set o ⟨x.kind,x.name,x.version,x.born,x.text,!x.ending,x.holds⟩,y.history,y.tickets⟩,p + 1 + 1 + 1,_,d.setO ⟨sx.kind,sx.name,sx.text,sx.holds,sx.hold,sx.v0,sx.v1⟩,by omega,by omega,(rowBook _).1,eVi Try.func61 rfl ?_⟩
 simp only [rdC,VBook.c,VO.c,VC.c] at h1 h2 h3 h38 hro hs
 simp only [rA,seval,e61,e30,e38,Try.f61,VBook.c,VO.c,VC.c,rdC,h1,h2,h3,h38,F,hro,hs,List.length_map,rwO,rwC,rwT,rwS]
theorem k61_7 {bs:List Int} {p:Nat} {y:VBook} {o h:Nat} (H:In61 bs p y o h 7):Out61 bs p y :=by
 have F :=H.f
 have B :=H.b
 have h1 :=H.h1
 have h2 :=H.h2
 have h3 :=H.h3
 have h38 :=H.k38
 have d :=H.g.so (by omega)
 obtain ⟨x,hro,sm,xv⟩ :=H.obj
 have sx :=sm.so
 have hL:y.objects.length + 1 < 4294967296 :=by omega
 refine ⟨⟨y.now,y.floor,y.objects ++ [x],y.history,y.tickets⟩,p + 1 + 1 + 1,VBook.m2 ⟨y.now,y.floor,y.objects ++ [x],y.history,y.tickets⟩,H.g.addO (by omega) sx,by omega,by omega,by simp only [VBook.m2,VBook.c,borRow,rA,seval,rowsShr,rowsShrC,rwT],eVi Try.func61 rfl ?_⟩
 simp only [rdC,VBook.c,VO.c,VC.c] at h1 h2 h3 h38 hro
 simp only [rA,seval,e61,e30,e38,Try.f61,VBook.c,VO.c,VC.c,rdC,h1,h2,h3,h38,F,hro,hL,LIM,List.length_map,rwO,rwC,rwT,rwS,VBook.m2,rowsShr,rowsShrC,List.map_append,List.map_cons,List.map_nil]
theorem k61_8 {bs:List Int} {p:Nat} {y:VBook} {o h:Nat} (H:In61 bs p y o h 8):Out61 bs p y :=by
 have F :=H.f
 have B :=H.b
 have h1 :=H.h1
 have h2 :=H.h2
 have h3 :=H.h3
 have h38 :=H.k38
 have d :=H.g.so (by omega)
 have w1 :=wrap64 (n :=(o:Int) + 1) (by omega) (by omega)
 have ho1:o≤y.objects.length :=by omega
 have ho2:o + 1≤y.objects.length :=by omega
 have ho3:(0:Int)≤(o:Int) + 1 :=by omega
 have ho4:((o:Int) + 1).toNat = o + 1 :=by omega
 have ho5:o≤o + 1 :=by omega
 have ho6:o + 1 + (y.objects.length - (o + 1))≤y.objects.length :=by omega
 have hL:y.objects.length < 4294967296 :=by omega
 have hst:List.take (y.objects.length - (o + 1)) (y.objects.drop (o + 1)) = y.objects.drop (o + 1) :=by
  rw [List.take_of_length_le]; simp
 refine ⟨⟨y.now,y.floor,y.objects.take o ++ y.objects.drop (o + 1),y.history,y.tickets⟩,p + 1 + 1 + 1,_,d.outO H.ho,by omega,by omega,(rowBook _).1,eVi Try.func61 rfl ?_⟩
 simp only [rdC,VBook.c,VO.c,VC.c] at h1 h2 h3 h38
 simp only [rA,seval,e61,e30,e38,Try.f61,VBook.c,VO.c,VC.c,rdC,h1,h2,h3,h38,F,w1,ho1,ho2,ho3,ho4,ho5,ho6,hL,Nat.zero_le,Nat.sub_zero,Nat.le_refl,LIM,hst,List.drop_zero,List.length_map,rwO,rwC,rwT,rwS,List.map_append,← List.map_take,← List.map_drop]
theorem k61_9 {bs:List Int} {p:Nat} {y:VBook} {o h:Nat} (H:In61 bs p y o h 9):Out61 bs p y :=by
 have F :=H.f
 have B :=H.b
 have h1 :=H.h1
 have h2 :=H.h2
 have h3 :=H.h3
 have h38 :=H.k38
 have d :=H.g.so (by omega)
 obtain ⟨x,hrc,sm,xv⟩ :=H.his
 have sx :=sm.so
 have hs :=(List.map_set (f :=VC.c .own) (l :=y.history) (i :=h) (a :=⟨x.version,!x.gone,x.object⟩)).symm
 refine ⟨⟨y.now,y.floor,y.objects,y.history.set h ⟨x.version,!x.gone,x.object⟩,y.tickets⟩,p + 1 + 1 + 1,_,d.setH ⟨sx,by simp only; omega,by simp only; omega⟩,by omega,by omega,(rowBook _).1,eVi Try.func61 rfl ?_⟩
 simp only [rdC,VBook.c,VO.c,VC.c] at h1 h2 h3 h38 hrc hs
 simp only [rA,seval,e61,e30,e38,Try.f61,VBook.c,VO.c,VC.c,rdC,h1,h2,h3,h38,F,hrc,hs,List.length_map,rwO,rwC,rwT,rwS]
theorem k61_10 {bs:List Int} {p:Nat} {y:VBook} {o h:Nat} (H:In61 bs p y o h 10):Out61 bs p y :=by
 have F :=H.f
 have B :=H.b
 have h1 :=H.h1
 have h2 :=H.h2
 have h3 :=H.h3
 have h38 :=H.k38
 have d :=H.g.so (by omega)
 obtain ⟨x,hrc,sm,xv⟩ :=H.his
 have sx :=sm.so
 have w1 :=wrap64 (n :=x.version + 1) (by omega) (by omega)
 have hs :=(List.map_set (f :=VC.c .own) (l :=y.history) (i :=h) (a :=⟨x.version + 1,x.gone,x.object⟩)).symm
 refine ⟨⟨y.now,y.floor,y.objects,y.history.set h ⟨x.version + 1,x.gone,x.object⟩,y.tickets⟩,p + 1 + 1 + 1,_,d.setH ⟨sx,by simp only; omega,by simp only; omega⟩,by omega,by omega,(rowBook _).1,eVi Try.func61 rfl ?_⟩
 simp only [rdC,VBook.c,VO.c,VC.c] at h1 h2 h3 h38 hrc hs
 simp only [rA,seval,e61,e30,e38,Try.f61,VBook.c,VO.c,VC.c,rdC,h1,h2,h3,h38,F,hrc,w1,hs,List.length_map,rwO,rwC,rwT,rwS]
theorem k61_11 {bs:List Int} {p:Nat} {y:VBook} {o h:Nat} (H:In61 bs p y o h 11):Out61 bs p y :=by
 have F :=H.f
 have B :=H.b
 have h1 :=H.h1
 have h2 :=H.h2
 have h3 :=H.h3
 have h38 :=H.k38
 have d :=H.g.so (by omega)
 obtain ⟨x,hrc,sm,xv⟩ :=H.his
 have sx :=sm.so
 have w1 :=wrap64 (n :=y.floor + 1) (by omega) (by omega)
 obtain ⟨k0,q0,hk0⟩ :=H.pick (p + 1 + 1 + 1) (by omega) 4 4 rfl (by decide)
 obtain ⟨v0,hv0,hw0⟩ :=pickI [0,x.version,1,y.floor + 1] q0.1 (by simpa using q0.2.1)
 simp only [List.map_cons,List.map_nil,intC] at hw0
 simp only [List.mem_cons,List.not_mem_nil,or_false] at hv0
 have hs :=(List.map_set (f :=VC.c .own) (l :=y.history) (i :=h) (a :=⟨x.version,x.gone,⟨x.object.kind,x.object.name,x.object.version,v0,x.object.text,x.object.ending,x.object.holds⟩⟩)).symm
 refine ⟨⟨y.now,y.floor,y.objects,y.history.set h ⟨x.version,x.gone,⟨x.object.kind,x.object.name,x.object.version,v0,x.object.text,x.object.ending,x.object.holds⟩⟩,y.tickets⟩,p + 1 + 1 + 1 + 1,_,d.setH ⟨⟨sx.kind,sx.name,sx.text,sx.holds,sx.hold,sx.v0,sx.v1⟩,by simp only; omega,by simp only; omega⟩,by omega,by omega,(rowBook _).1,eVi Try.func61 rfl ?_⟩
 simp only [rdC,VBook.c,VO.c,VC.c] at h1 h2 h3 h38 hrc hk0 hs
 simp only [rA,seval,e61,e30,e38,Try.f61,VBook.c,VO.c,VC.c,rdC,h1,h2,h3,h38,F,hrc,w1,hk0,q0,hw0,hs,List.length_map,rwO,rwC,rwT,rwS]
theorem k61_12 {bs:List Int} {p:Nat} {y:VBook} {o h:Nat} (H:In61 bs p y o h 12):Out61 bs p y :=by
 have F :=H.f
 have B :=H.b
 have h1 :=H.h1
 have h2 :=H.h2
 have h3 :=H.h3
 have h38 :=H.k38
 have d :=H.g.so (by omega)
 obtain ⟨x,hrc,sm,xv⟩ :=H.his
 have sx :=sm.so
 obtain ⟨k0,q0,hk0⟩ :=H.pick (p + 1 + 1 + 1) (by omega) 3 3 rfl (by decide)
 obtain ⟨v0,hv0,hw0⟩ :=pickL [⟨#[120]⟩,⟨#[121]⟩,⟨#[]⟩] q0.1 (by simpa using q0.2.1)
 simp only [List.map_cons,List.map_nil,strC] at hw0
 have sz0:v0.size≤20 :=by
  simp only [List.mem_cons,List.not_mem_nil,or_false] at hv0
  rcases hv0 with rfl | rfl | rfl <;> decide
 have hs :=(List.map_set (f :=VC.c .own) (l :=y.history) (i :=h) (a :=⟨x.version,x.gone,⟨x.object.kind,v0,x.object.version,x.object.born,x.object.text,x.object.ending,x.object.holds⟩⟩)).symm
 refine ⟨⟨y.now,y.floor,y.objects,y.history.set h ⟨x.version,x.gone,⟨x.object.kind,v0,x.object.version,x.object.born,x.object.text,x.object.ending,x.object.holds⟩⟩,y.tickets⟩,p + 1 + 1 + 1 + 1,_,d.setH ⟨⟨sx.kind,sz0,sx.text,sx.holds,sx.hold,sx.v0,sx.v1⟩,by simp only; omega,by simp only; omega⟩,by omega,by omega,(rowBook _).1,eVi Try.func61 rfl ?_⟩
 simp only [rdC,VBook.c,VO.c,VC.c] at h1 h2 h3 h38 hrc hk0 hs
 simp only [rA,seval,e61,e30,e38,Try.f61,VBook.c,VO.c,VC.c,rdC,h1,h2,h3,h38,F,hrc,hk0,q0,hw0,hs,List.length_map,rwO,rwC,rwT,rwS]
theorem k61_13 {bs:List Int} {p:Nat} {y:VBook} {o h:Nat} (H:In61 bs p y o h 13):Out61 bs p y :=by
 have F :=H.f
 have B :=H.b
 have h1 :=H.h1
 have h2 :=H.h2
 have h3 :=H.h3
 have h38 :=H.k38
 have d :=H.g.so (by omega)
 have hh1:1≤y.history.length :=by omega
 have hh2:1 + (y.history.length - 1)≤y.history.length :=by omega
 have hst:List.take (y.history.length - 1) (y.history.drop 1) = y.history.drop 1 :=by
  rw [List.take_of_length_le]; simp
 refine ⟨⟨y.now,y.floor,y.objects,y.history.drop 1,y.tickets⟩,p + 1 + 1 + 1,_,d.outH,by omega,by omega,(rowBook _).1,eVi Try.func61 rfl ?_⟩
 simp only [rdC,VBook.c,VO.c,VC.c] at h1 h2 h3 h38
 simp only [rA,seval,e61,e30,e38,Try.f61,VBook.c,VO.c,VC.c,rdC,h1,h2,h3,h38,F,hh1,hh2,Int.toNat_one,Nat.le_refl,hst,List.length_map,rwO,rwC,rwT,rwS,← List.map_take,← List.map_drop]
theorem k61_14 {bs:List Int} {p:Nat} {y:VBook} {o h:Nat} (H:In61 bs p y o h 14):Out61 bs p y :=by
 have F :=H.f
 have B :=H.b
 have h1 :=H.h1
 have h2 :=H.h2
 have h3 :=H.h3
 have h38 :=H.k38
 have d :=H.g.so (by omega)
 obtain ⟨k0,q0,hk0⟩ :=H.pick (p + 1 + 1 + 1) (by omega) 3 3 rfl (by decide)
 obtain ⟨v0,hv0,hw0⟩ :=pickL [⟨#[122,111,101]⟩,⟨#[]⟩,⟨#[97]⟩] q0.1 (by simpa using q0.2.1)
 simp only [List.map_cons,List.map_nil,strC] at hw0
 have sz0:v0.size≤20 :=by
  simp only [List.mem_cons,List.not_mem_nil,or_false] at hv0
  rcases hv0 with rfl | rfl | rfl <;> decide
 have hL:y.tickets.length + 1 < 4294967296 :=by omega
 refine ⟨⟨y.now,y.floor,y.objects,y.history,y.tickets ++ [⟨v0,1,⟨#[49,50,51,52,53,54,55,56]⟩,0,0⟩]⟩,p + 1 + 1 + 1 + 1,_,H.g.addT (by omega) ⟨sz0,(by decide:(⟨#[49,50,51,52,53,54,55,56]⟩:ByteArray).size≤8)⟩,by omega,by omega,(rowBook _).1,eVi Try.func61 rfl ?_⟩
 simp only [rdC,VBook.c,VO.c,VC.c] at h1 h2 h3 h38 hk0
 simp only [rA,seval,e61,e30,e38,Try.f61,VBook.c,VO.c,VC.c,rdC,h1,h2,h3,h38,F,hk0,q0,hw0,hL,LIM,List.length_map,rwO,rwC,rwT,rwS,VT.c,List.map_append,List.map_cons,List.map_nil]
theorem k61_15 {bs:List Int} {p:Nat} {y:VBook} {o h:Nat} (H:In61 bs p y o h 15):Out61 bs p y :=by
 have F :=H.f
 have B :=H.b
 have h1 :=H.h1
 have h2 :=H.h2
 have h3 :=H.h3
 have h38 :=H.k38
 have d :=H.g.so (by omega)
 have w1 :=wrap64 (n :=y.now + 1) (by omega) (by omega)
 obtain ⟨k0,q0,hk0⟩ :=H.pick (p + 1 + 1 + 1) (by omega) 3 3 rfl (by decide)
 obtain ⟨v0,hv0,hw0⟩ :=pickI [0,1,1000001] q0.1 (by simpa using q0.2.1)
 simp only [List.map_cons,List.map_nil,intC] at hw0
 simp only [List.mem_cons,List.not_mem_nil,or_false] at hv0
 obtain ⟨k1,q1,hk1⟩ :=H.pick (p + 1 + 1 + 1 + 1) (by omega) 2 2 rfl (by decide)
 obtain ⟨v1,hv1,hw1⟩ :=pickL [⟨#[49,50,51,52,53,54,55,56]⟩,⟨#[49]⟩] q1.1 (by simpa using q1.2.1)
 simp only [List.map_cons,List.map_nil,strC] at hw1
 have sz1:v1.size≤20 :=by
  simp only [List.mem_cons,List.not_mem_nil,or_false] at hv1
  rcases hv1 with rfl | rfl <;> decide
 obtain ⟨k2,q2,hk2⟩ :=H.pick (p + 1 + 1 + 1 + 1 + 1) (by omega) 12 12 rfl (by decide)
 have w2 :=wrap64 (n :=k2 - 1) (by omega) (by omega)
 obtain ⟨k3,q3,hk3⟩ :=H.pick (p + 1 + 1 + 1 + 1 + 1 + 1) (by omega) 3 3 rfl (by decide)
 obtain ⟨v3,hv3,hw3⟩ :=pickI [0,y.now,y.now + 1] q3.1 (by simpa using q3.2.1)
 simp only [List.map_cons,List.map_nil,intC] at hw3
 simp only [List.mem_cons,List.not_mem_nil,or_false] at hv3
 have hL:y.tickets.length + 1 < 4294967296 :=by omega
 have s8:v1.size≤8 :=by
  simp only [List.mem_cons,List.not_mem_nil,or_false] at hv1
  rcases hv1 with rfl | rfl <;> decide
 refine ⟨⟨y.now,y.floor,y.objects,y.history,y.tickets ++ [⟨⟨#[122,111,101]⟩,v0,v1,k2 - 1,v3⟩]⟩,p + 1 + 1 + 1 + 1 + 1 + 1 + 1,_,H.g.addT (by omega) ⟨(by decide:(⟨#[122,111,101]⟩:ByteArray).size≤20),s8⟩,by omega,by omega,(rowBook _).1,eVi Try.func61 rfl ?_⟩
 simp only [rdC,VBook.c,VO.c,VC.c] at h1 h2 h3 h38 hk0 hk1 hk2 hk3
 simp only [rA,seval,e61,e30,e38,Try.f61,VBook.c,VO.c,VC.c,rdC,h1,h2,h3,h38,F,w1,hk0,q0,hw0,hk1,q1,hw1,hk2,q2,w2,hk3,q3,hw3,hL,LIM,List.length_map,rwO,rwC,rwT,rwS,VT.c,List.map_append,List.map_cons,List.map_nil]
theorem k61_16 {bs:List Int} {p:Nat} {y:VBook} {o h:Nat} (H:In61 bs p y o h 16):Out61 bs p y :=by
 have F :=H.f
 have B :=H.b
 have h1 :=H.h1
 have h2 :=H.h2
 have h3 :=H.h3
 have h38 :=H.k38
 have d :=H.g.so (by omega)
 obtain ⟨x,hro,sm,xv⟩ :=H.obj
 have sx :=sm.so
 obtain ⟨k0,q0,hk0⟩ :=H.pick (p + 1 + 1 + 1) (by omega) 3 3 rfl (by decide)
 obtain ⟨v0,hv0,hw0⟩ :=pickL [⟨#[65]⟩,⟨#[98,101,114,116,104]⟩,⟨#[122,122,122]⟩] q0.1 (by simpa using q0.2.1)
 simp only [List.map_cons,List.map_nil,strC] at hw0
 have sz0:v0.size≤20 :=by
  simp only [List.mem_cons,List.not_mem_nil,or_false] at hv0
  rcases hv0 with rfl | rfl | rfl <;> decide
 have hs :=(List.map_set (f :=VO.c .own) (l :=y.objects) (i :=o) (a :=⟨v0,x.name,x.version,x.born,x.text,x.ending,x.holds⟩)).symm
 refine ⟨⟨y.now,y.floor,y.objects.set o ⟨v0,x.name,x.version,x.born,x.text,x.ending,x.holds⟩,y.history,y.tickets⟩,p + 1 + 1 + 1 + 1,_,d.setO ⟨sz0,sx.name,sx.text,sx.holds,sx.hold,sx.v0,sx.v1⟩,by omega,by omega,(rowBook _).1,eVi Try.func61 rfl ?_⟩
 simp only [rdC,VBook.c,VO.c,VC.c] at h1 h2 h3 h38 hro hk0 hs
 simp only [rA,seval,e61,e30,e38,Try.f61,VBook.c,VO.c,VC.c,rdC,h1,h2,h3,h38,F,hro,hk0,q0,hw0,hs,List.length_map,rwO,rwC,rwT,rwS]
theorem k61_17 {bs:List Int} {p:Nat} {y:VBook} {o h:Nat} {v:Int} (H:In61 bs p y o h v) (hv:v ≠ 18∧v ≠ 19∧v ≠ 0∧v ≠ 1∧v ≠ 2∧v ≠ 3∧v ≠ 4∧v ≠ 5∧v ≠ 6∧v ≠ 7∧v ≠ 8∧v ≠ 9∧v ≠ 10∧v ≠ 11∧v ≠ 12∧v ≠ 13∧v ≠ 14∧v ≠ 15∧v ≠ 16):Out61 bs p y :=by
 have F :=H.f
 have B :=H.b
 have h1 :=H.h1
 have h2 :=H.h2
 have h3 :=H.h3
 have h38 :=H.k38
 have d :=H.g.so (by omega)
 obtain ⟨x,hrc,sm,xv⟩ :=H.his
 have sx :=sm.so
 have hs :=(List.map_set (f :=VC.c .own) (l :=y.history) (i :=h) (a :=⟨x.version,x.gone,⟨x.object.kind,x.object.name,x.object.version,x.object.born,x.object.text,!x.object.ending,x.object.holds⟩⟩)).symm
 refine ⟨⟨y.now,y.floor,y.objects,y.history.set h ⟨x.version,x.gone,⟨x.object.kind,x.object.name,x.object.version,x.object.born,x.object.text,!x.object.ending,x.object.holds⟩⟩,y.tickets⟩,p + 1 + 1 + 1,_,d.setH ⟨⟨sx.kind,sx.name,sx.text,sx.holds,sx.hold,sx.v0,sx.v1⟩,by simp only; omega,by simp only; omega⟩,by omega,by omega,(rowBook _).1,eVi Try.func61 rfl ?_⟩
 simp only [rdC,VBook.c,VO.c,VC.c] at h1 h2 h3 h38 hrc hs
 simp only [rA,seval,e61,e30,e38,Try.f61,VBook.c,VO.c,VC.c,rdC,h1,h2,h3,h38,F,hv,hrc,hs,List.length_map,rwO,rwC,rwT,rwS]
theorem k61_18a {bs:List Int} {p:Nat} {y:VBook} {o h:Nat} (H:In61 bs p y o h 18) (hl:¬ (1:Int) < (y.objects.length:Int)):Out61 bs p y :=by
 have F :=H.f
 have B :=H.b
 have h1 :=H.h1
 have h2 :=H.h2
 have h3 :=H.h3
 have h38 :=H.k38
 have d :=H.g.so (by omega)
 refine ⟨⟨y.now,y.now,y.objects,[],y.tickets⟩,p + 1 + 1 + 1,_,⟨d.lo,d.hi,d.lo,d.hi,d.objs,d.ol,(fun _ hq =>by cases hq),Nat.zero_le _,d.tick,d.tl⟩,by omega,by omega,(rowBook _).1,eVi Try.func61 rfl ?_⟩
 simp only [rdC,VBook.c,VO.c,VC.c] at h1 h2 h3 h38
 simp only [rA,seval,e61,e30,e38,Try.f61,VBook.c,VO.c,VC.c,rdC,h1,h2,h3,h38,F,hl,List.length_map,rwO,rwC,rwT,rwS,List.map_nil]
theorem k61_18b {bs:List Int} {p:Nat} {y:VBook} {o h:Nat} (H:In61 bs p y o h 18) (hl:(1:Int) < (y.objects.length:Int)):Out61 bs p y :=by
 have F :=H.f
 have B :=H.b
 have h1 :=H.h1
 have h2 :=H.h2
 have h3 :=H.h3
 have h38 :=H.k38
 have d :=H.g.so (by omega)
 have i0:0 < y.objects.length :=by omega
 have i1:1 < y.objects.length :=by omega
 have i0i:(0:Int) < (y.objects.length:Int) :=by omega
 have hx :=List.getElem?_eq_getElem i0
 have hxm :=List.getElem_mem i0
 generalize y.objects[0] = x at hx hxm
 have hro :=getElem?_map_some (f :=VO.c .own) hx
 have sx :=d.objs x hxm
 have hs :=(List.map_set (f :=VO.c .own) (l :=y.objects) (i :=0) (a :=⟨x.kind,x.name,y.now,x.born,x.text,x.ending,x.holds⟩)).symm
 have hx1:(y.objects.set 0 ⟨x.kind,x.name,y.now,x.born,x.text,x.ending,x.holds⟩)[1]? = y.objects[1]? :=by rw [List.getElem?_set_ne (by decide)]
 rw [List.getElem?_eq_getElem i1] at hx1
 have hwm :=List.getElem_mem i1
 generalize y.objects[1] = w at hx1 hwm
 have hr1 :=getElem?_map_some (f :=VO.c .own) hx1
 have sw :=d.objs w hwm
 have hs1 :=(List.map_set (f :=VO.c .own) (l :=y.objects.set 0 ⟨x.kind,x.name,y.now,x.born,x.text,x.ending,x.holds⟩) (i :=1) (a :=⟨w.kind,w.name,y.now,w.born,w.text,w.ending,w.holds⟩)).symm
 refine ⟨⟨y.now,y.now,(y.objects.set 0 ⟨x.kind,x.name,y.now,x.born,x.text,x.ending,x.holds⟩).set 1 ⟨w.kind,w.name,y.now,w.born,w.text,w.ending,w.holds⟩,[],y.tickets⟩,p + 1 + 1 + 1,_,⟨d.lo,d.hi,d.lo,d.hi,all_set (all_set d.objs (⟨sx.kind,sx.name,sx.text,sx.holds,sx.hold,d.lo,d.hi⟩)) (⟨sw.kind,sw.name,sw.text,sw.holds,sw.hold,d.lo,d.hi⟩),by simpa using d.ol,(fun _ hq =>by cases hq),Nat.zero_le _,d.tick,d.tl⟩,by omega,by omega,(rowBook _).1,eVi Try.func61 rfl ?_⟩
 simp only [rdC,VBook.c,VO.c,VC.c] at h1 h2 h3 h38 hro hs hr1 hs1
 simp only [rA,seval,e61,e30,e38,Try.f61,VBook.c,VO.c,VC.c,rdC,h1,h2,h3,h38,F,hl,i0,i1,i0i,hro,hs,hr1,hs1,List.length_set,Int.toNat_zero,Int.toNat_one,Nat.zero_le,Int.le_refl,List.length_map,rwO,rwC,rwT,rwS,List.map_nil]
end Go.Proofs.Ytgekblcbdhjmfaa
