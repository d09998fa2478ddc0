/- Books that draws lead to: their sizes are bounded (plain). -/
import Derived.Test.YtgekblcbdhjmfaaQ1
namespace Go.Proofs.Ytgekblcbdhjmfaa
open Go.Sx
set_option maxRecDepth 100000
set_option maxHeartbeats 64000000
set_option linter.unusedVariables false
set_option linter.unusedSimpArgs false
structure SmO (o:VO):Prop where
 kind:o.kind.size≤20
 name:o.name.size≤20
 text:o.text.size≤300
 holds:o.holds.length≤5
 hold:∀ h ∈ o.holds,h.size≤20
 v0:0≤o.version
 v1:o.version≤1000000
structure SmT (t:VT):Prop where
 client:t.client.size≤20
 print:t.print.size≤8
 n0:0≤t.number
 n1:t.number≤1000000
 c0:0≤t.code
 c1:t.code≤100
 v0:0≤t.version
 v1:t.version≤1000000
structure DrB (n:Nat) (b:VBook):Prop where
 lo:0≤b.now
 hi:b.now≤1000000
 f0:0≤b.floor
 f1:b.floor≤1000000
 objs:∀ o ∈ b.objects,SmO o
 ol:b.objects.length≤n
 hist:∀ c ∈ b.history,SmO c.object∧0≤c.version∧c.version≤1000000
 hl:b.history.length≤200
 tick:∀ t ∈ b.tickets,SmT t
 tl:b.tickets.length≤50
theorem sum_str {l:List ByteArray} {m:Nat} (h:∀ s ∈ l,s.size≤m):sumWString l≤m * l.length :=by
 induction l with
 | nil =>simp [sumWString]
 | cons x r ih =>
  have h1 :=h x (by simp)
  have h2 :=ih (fun s hs =>h s (List.mem_cons_of_mem _ hs))
  simp only [sumWString,List.length_cons,Nat.mul_add,Nat.mul_one]
  omega
theorem SmO.w {o:VO} (h:SmO o):o.w≤1000 :=by
 have h1 :=sum_str h.hold
 have h2 :=h.holds
 have h3 :=h.kind
 have h4 :=h.name
 have h5 :=h.text
 have h6:20 * o.holds.length≤100 :=by omega
 unfold VO.w wSString
 omega
theorem sum_obj {l:List VO} (h:∀ o ∈ l,SmO o):sumWBookObject l≤1000 * l.length :=by
 induction l with
 | nil =>simp [sumWBookObject]
 | cons x r ih =>
  have h1 :=(h x (by simp)).w
  have h2 :=ih (fun s hs =>h s (List.mem_cons_of_mem _ hs))
  simp only [sumWBookObject,List.length_cons,Nat.mul_add,Nat.mul_one]
  omega
theorem sum_chg {l:List VC} (h:∀ c ∈ l,SmO c.object∧0≤c.version∧c.version≤1000000):sumWBookChange l≤1000 * l.length :=by
 induction l with
 | nil =>simp [sumWBookChange]
 | cons x r ih =>
  have h1 :=(h x (by simp)).1.w
  have h2 :=ih (fun s hs =>h s (List.mem_cons_of_mem _ hs))
  simp only [sumWBookChange,VC.w,List.length_cons,Nat.mul_add,Nat.mul_one]
  omega
theorem sum_tick {l:List VT} (h:∀ c ∈ l,SmT c):sumWBookTicket l≤28 * l.length :=by
 induction l with
 | nil =>simp [sumWBookTicket]
 | cons x r ih =>
  have h1 :=(h x (by simp)).client
  have h3 :=(h x (by simp)).print
  have h2 :=ih (fun s hs =>h s (List.mem_cons_of_mem _ hs))
  simp only [sumWBookTicket,VT.w,List.length_cons,Nat.mul_add,Nat.mul_one]
  omega
theorem DrB.w {n:Nat} {b:VBook} (h:DrB n b) (hn:n≤2000):b.w≤2300000 :=by
 have h1 :=sum_obj h.objs
 have h2 :=sum_chg h.hist
 have h3 :=sum_tick h.tick
 have h4 :=h.ol
 have h5 :=h.hl
 have h6 :=h.tl
 unfold VBook.w wSBookObject wSBookChange wSBookTicket
 omega
theorem putR_mem (o:VO):∀ (g:Bool) (l:List VO) {y:VO},y ∈ putR o g l→y = o∨y ∈ l
 | g,[],y,h =>by
  unfold putR at h
  split at h
  ·cases h
  ·left; simpa using h
 | g,x :: r,y,h =>by
  simp only [putR,List.mem_append] at h
  rcases h with h | h | h
  ·split at h
   ·left; simpa using h
   ·cases h
  ·split at h
   ·right; simp at h; simp [h]
   ·cases h
  ·rcases putR_mem o _ r h with h | h
   ·exact .inl h
   ·exact .inr (List.mem_cons_of_mem _ h)
theorem name_sz {s:ByteArray} (h:nameB s = true):s.size≤20 :=by
 simp only [nameB,Bool.and_eq_true,decide_eq_true_eq] at h
 omega
theorem wr_parts {w:VW} (h:wrB w = true):w.kind.size≤20∧w.name.size≤20∧w.text.size≤300∧w.hold.size≤20 :=by
 simp only [wrB,Bool.and_eq_true,Bool.or_eq_true,decide_eq_true_eq] at h
 obtain ⟨_,h1,h2,_,h3,h4,_⟩ :=h
 have a :=name_sz h1
 have c :=name_sz h2
 have d:w.hold.size≤20 :=by
  rcases h4 with h4 | h4
  ·rw [h4]; decide
  ·exact name_sz h4
 omega
theorem nil_sm:SmO nilObj :=⟨by decide,by decide,by decide,by decide,fun h hh =>(by cases hh),by decide,by decide⟩
theorem find_sm {b:VBook} (h:∀ o ∈ b.objects,SmO o) (k m:ByteArray):SmO (bfind b.objects k m).1 :=by
 unfold bfind
 cases e:b.objects.find? (isKey k m) with
 | none =>exact nil_sm
 | some o =>exact h o (List.mem_of_find?_eq_some e)
theorem chO_sm {b:VBook} {w:VW} {o:VO} {t:Bool} (ho:SmO o) (hw:wrB w = true) (h0:chC b w o t = 0) {v:Int} (v0:0≤v) (v1:v≤1000000):SmO (chO insS delS w v o) :=by
 obtain ⟨p1,p2,p3,p4⟩ :=wr_parts hw
 have o5 :=wrB_op hw
 by_cases o1:w.op = 1
 ·have e:chO insS delS w v o = ⟨w.kind,w.name,v,v,w.text,false,if w.hold = ⟨#[]⟩ then [] else [w.hold]⟩ :=by simp [chO,o1]
  rw [e]
  refine ⟨p1,p2,p3,?_,fun h hh =>?_,v0,v1⟩
  ·simp only; split <;> simp
  ·simp only at hh
   split at hh
   ·cases hh
   ·simp at hh; subst hh; exact p4
 by_cases o2:w.op = 2
 ·have e:chO insS delS w v o = ⟨o.kind,o.name,v,o.born,w.text,o.ending,o.holds⟩ :=by simp [chO,o2]
  rw [e]
  exact ⟨ho.kind,ho.name,p3,ho.holds,ho.hold,v0,v1⟩
 by_cases o3:w.op = 3
 ·have e:chO insS delS w v o = ⟨o.kind,o.name,v,o.born,o.text,true,o.holds⟩ :=by simp [chO,o3]
  rw [e]
  exact ⟨ho.kind,ho.name,ho.text,ho.holds,ho.hold,v0,v1⟩
 by_cases o4:w.op = 4
 ·have e:chO insS delS w v o = ⟨o.kind,o.name,v,o.born,o.text,o.ending,insS o.holds w.hold⟩ :=by simp [chO,o4]
  have h5:o.holds.length < 5 :=by
   rcases Nat.lt_or_ge o.holds.length 5 with h | h
   ·exact h
   ·exfalso
    unfold chC at h0
    repeat (split at h0; · omega)
    rename_i _ _ _ _ _ hx _ _
    first | exact hx ⟨o4,h⟩ | omega
  rw [e]
  refine ⟨ho.kind,ho.name,ho.text,?_,fun x hx =>?_,v0,v1⟩
  ·have :=(insS_perm o.holds w.hold).length_eq
   simp only [List.length_append,List.length_cons,List.length_nil] at this
   simp only
   omega
  ·have :=(insS_perm o.holds w.hold).mem_iff.1 hx
   rcases List.mem_append.1 this with h | h
   ·exact ho.hold x h
   ·simp at h; subst h; exact p4
 ·have e:chO insS delS w v o = ⟨o.kind,o.name,v,o.born,o.text,o.ending,delS o.holds w.hold⟩ :=by simp [chO,o1,o2,o3,o4]
  rw [e]
  refine ⟨ho.kind,ho.name,ho.text,?_,fun x hx =>ho.hold x (List.mem_filter.1 hx).1,v0,v1⟩
  have :=List.length_filter_le (fun x =>!decide (x = w.hold)) o.holds
  simp only [delS]
  exact Nat.le_trans this ho.holds
theorem chC_now {b:VBook} {w:VW} {o:VO} {t:Bool} (h0:chC b w o t = 0):b.now < 1000000 :=by
 unfold chC at h0
 repeat (split at h0; · omega)
 omega
abbrev stepB (b:VBook) (w:VW):VBook :=bookS b w (fO b w) (fT b w)
abbrev stepC (b:VBook) (w:VW):Int :=chC b w (fO b w) (fT b w)
theorem DrB.step {n:Nat} {b:VBook} {w:VW} (h:DrB n b) (hw:wrB w = true) (h0:stepC b w = 0):DrB (n + 1) (stepB b w) :=by
 have e:stepB b w = bookC b (chG insS delS w (b.now + 1) (fO b w)) :=by unfold stepB bookS; rw [if_pos h0]
 have f5 :=chC_now h0
 have hlo :=h.lo
 have so:SmO (chO insS delS w (b.now + 1) (fO b w)) :=chO_sm (find_sm h.objs w.kind w.name) hw h0 (by omega) (by omega)
 have hh:∀ c ∈ b.history ++ [chG insS delS w (b.now + 1) (fO b w)],SmO c.object∧0≤c.version∧c.version≤1000000 :=by
  intro c hc
  rcases List.mem_append.1 hc with hc | hc
  ·exact h.hist c hc
  ·simp at hc
   subst hc
   exact ⟨so,by simp only [chG]; omega,by simp only [chG]; omega⟩
 have hl :=h.hl
 rw [e]
 refine ⟨?_,?_,?_,?_,?_,?_,?_,?_,h.tick,h.tl⟩
 ·show 0≤b.now + 1; omega
 ·show b.now + 1≤1000000; omega
 ·simp only [bookC]
  split
  ·exact h.f0
  ·cases hx:b.history with
   | nil =>simp [chG]; omega
   | cons c r =>simp only [List.cons_append,List.head?_cons,Option.map_some,Option.getD_some]; exact (h.hist c (by rw [hx]; simp)).2.1
 ·simp only [bookC]
  split
  ·exact h.f1
  ·cases hx:b.history with
   | nil =>simp [chG]; omega
   | cons c r =>simp only [List.cons_append,List.head?_cons,Option.map_some,Option.getD_some]; exact (h.hist c (by rw [hx]; simp)).2.2
 ·intro o ho
  rcases putR_mem _ _ _ (show o ∈ putR _ _ b.objects from ho) with rfl | ho
  ·exact so
  ·exact h.objs o ho
 ·have :=putR_len (chG insS delS w (b.now + 1) (fO b w)).object (chG insS delS w (b.now + 1) (fO b w)).gone b.objects
  have :=h.ol
  simp only [bookC]
  omega
 ·intro c hc
  simp only [bookC] at hc
  split at hc
  ·exact hh c hc
  ·exact hh c (List.mem_of_mem_drop hc)
 ·simp only [bookC]
  split
  ·simp; omega
  ·simp; omega
theorem DrB.mono {n m:Nat} {b:VBook} (h:DrB n b) (hm:n≤m):DrB m b :={ h with ol :=Nat.le_trans h.ol hm }
theorem cnt_le (h:ByteArray):∀ l:List ByteArray,cntT h l≤l.length
 | [] =>Nat.le_refl _
 | x :: r =>by
  have :=cnt_le h r
  simp only [cntT,List.length_cons]
  split <;> omega
theorem cnt_in (h:ByteArray):∀ (l:List ByteArray) (j:Nat),j < cntT h l→∃ x,l[j]? = some x∧Op.bytesLess x.toList h.toList = true
 | [],j,hj =>by simp [cntT] at hj
 | x :: r,j,hj =>by
  simp only [cntT] at hj
  split at hj
  ·rename_i d
   cases j with
   | zero =>exact ⟨x,rfl,d⟩
   | succ j =>simpa using cnt_in h r j (by omega)
  ·omega
theorem cnt_at (h:ByteArray):∀ l:List ByteArray,cntT h l = l.length∨∃ x,l[cntT h l]? = some x∧Op.bytesLess x.toList h.toList = false
 | [] =>.inl rfl
 | x :: r =>by
  simp only [cntT]
  by_cases d:Op.bytesLess x.toList h.toList = true
  ·rw [if_pos d]
   rcases cnt_at h r with e | ⟨y,e,f⟩
   ·left; simp [e]
   ·right; exact ⟨y,by simpa using e,f⟩
  ·rw [if_neg d]
   right; exact ⟨x,rfl,by simpa using d⟩
theorem delS_snoc {l:List ByteArray} {i:Nat} {x:ByteArray} (h:ByteArray) (hi:l[i]? = some x):delS (l.take (i + 1)) h = if x = h then delS (l.take i) h else delS (l.take i) h ++ [x] :=by
 rw [take_snoc hi]
 unfold delS
 rw [List.filter_append]
 by_cases e:x = h <;> simp [e]
theorem delS_len (l:List ByteArray) (h:ByteArray) (i:Nat):(delS (l.take i) h).length≤l.length :=by
 unfold delS
 have :=List.length_filter_le (fun x =>!decide (x = h)) (l.take i)
 rw [List.length_take] at this
 omega
def nilChg:VC :=⟨0,false,nilObj⟩
def chS (b:VBook) (w:VW) (o:VO) (t:Bool):VC :=if chC b w o t = 0 then chG insS delS w (b.now + 1) o else nilChg
theorem k88 (b:VBook) (w:VW) (hw:b.w + w.w≤4194000) (hb0:0≤b.now) (hb1:b.now≤1000000) (hwr:wrB w = true) :
  EV Try.prog E 88 [.val 0 true (b.c .shr),.val 0 true (VW.c w)] =
   some ⟨[(true,(chS b w (bfind b.objects w.kind w.name).1 (bfind b.objects w.kind w.name).2).c .own),(false,[.p (.int .i64 (chC b w (bfind b.objects w.kind w.name).1 (bfind b.objects w.kind w.name).2))])],[]⟩ :=by
 refine eVi Try.func88 rfl ?_
 obtain ⟨now,floor,objects,history,tickets⟩ :=b
 obtain ⟨op,kind,name,seen,text,hold⟩ :=w
 have h63 :=k70 ⟨now,floor,objects,history,tickets⟩ kind name (by omega)
 have hbw :=bfind_w ⟨now,floor,objects,history,tickets⟩ kind name
 have hohl:(bfind objects kind name).1.holds.length≤4194000 :=by
  simp only [VO.w,wSString] at hbw
  omega
 simp only [VBook.w,wSBookObject,wSBookChange,VW.w] at hw
 have hwn :=wrap64 (n :=now + 1) (by simp only at hb0; omega) (by simp only at hb1; omega)
 simp only at hb0 hb1
 have w1:1≤op∧op≤5 :=by
  simp only [wrB,inR,Bool.and_eq_true,decide_eq_true_eq] at hwr
  omega
 have w2:op = 1→seen = 0 :=by
  simp only [wrB,Bool.and_eq_true,Bool.or_eq_true,Bool.not_eq_true',decide_eq_true_eq,decide_eq_false_iff_not] at hwr
  omega
 have hnn:bfind objects kind name = (nilObj,false)∨∃ o,bfind objects kind name = (o,true) :=by
  unfold bfind
  cases objects.find? (isKey kind name) with
  | none =>exact .inl rfl
  | some o =>exact .inr ⟨o,rfl⟩
 simp only at h63 hohl ⊢
 rcases hnn with fb | ⟨o,fb⟩
 ·rw [fb] at h63 ⊢
  simp only [VBook.c,VO.c,nilObj,List.map_nil] at h63
  simp only
  by_cases o1:op = 1
  ·subst o1
   have s0 :=w2 rfl
   subst s0
   by_cases hh:hold = ⟨#[]⟩
   ·by_cases n1:100≤objects.length
    ·have n2:(100:Int)≤(objects.length:Int) :=by omega
     have hc:chC ⟨now,floor,objects,history,tickets⟩ ⟨1,kind,name,0,text,hold⟩ nilObj false = 7 :=by simp [chC,hasF,nilObj,n1]
     have hB:chS ⟨now,floor,objects,history,tickets⟩ ⟨1,kind,name,0,text,hold⟩ nilObj false = nilChg :=by rw [chS,if_neg (by rw [hc]; decide)]
     rw [hc,hB]
     simp only [rA,seval,e88,e70,e93,Try.f88,uf,nilChg,c0n,hwn,LIM,List.length_replicate,h63,hh,n2]
    ·have n2:¬ (100:Int)≤(objects.length:Int) :=by omega
     by_cases n8:1000000≤now
     ·skip
      have hc:chC ⟨now,floor,objects,history,tickets⟩ ⟨1,kind,name,0,text,hold⟩ nilObj false = 8 :=by simp [chC,hasF,nilObj,n1,hh,n8]
      have hB:chS ⟨now,floor,objects,history,tickets⟩ ⟨1,kind,name,0,text,hold⟩ nilObj false = nilChg :=by rw [chS,if_neg (by rw [hc]; decide)]
      rw [hc,hB]
      simp only [rA,seval,e88,e70,e93,Try.f88,uf,nilChg,c0n,hwn,LIM,List.length_replicate,h63,hh,n2,n8]
     ·skip
      have hc:chC ⟨now,floor,objects,history,tickets⟩ ⟨1,kind,name,0,text,hold⟩ nilObj false = 0 :=by simp [chC,hasF,nilObj,n1,hh,n8]
      have hB:chS ⟨now,floor,objects,history,tickets⟩ ⟨1,kind,name,0,text,hold⟩ nilObj false = (⟨now + 1,false,⟨kind,name,now + 1,now + 1,text,false,[]⟩⟩:VC) :=by rw [chS,if_pos hc]; simp [chG,chO,goneO,nilObj,n1,hh,n8]
      rw [hc,hB]
      simp only [rA,seval,e88,e70,e93,Try.f88,uf,nilChg,c0n,hwn,LIM,List.length_replicate,h63,hh,n2,n8]
   ·by_cases n1:100≤objects.length
    ·have n2:(100:Int)≤(objects.length:Int) :=by omega
     have hc:chC ⟨now,floor,objects,history,tickets⟩ ⟨1,kind,name,0,text,hold⟩ nilObj false = 7 :=by simp [chC,hasF,nilObj,n1]
     have hB:chS ⟨now,floor,objects,history,tickets⟩ ⟨1,kind,name,0,text,hold⟩ nilObj false = nilChg :=by rw [chS,if_neg (by rw [hc]; decide)]
     rw [hc,hB]
     simp only [rA,seval,e88,e70,e93,Try.f88,uf,nilChg,c0n,hwn,LIM,List.length_replicate,h63,hh,n2]
    ·have n2:¬ (100:Int)≤(objects.length:Int) :=by omega
     by_cases n8:1000000≤now
     ·skip
      have hc:chC ⟨now,floor,objects,history,tickets⟩ ⟨1,kind,name,0,text,hold⟩ nilObj false = 8 :=by simp [chC,hasF,nilObj,n1,hh,n8]
      have hB:chS ⟨now,floor,objects,history,tickets⟩ ⟨1,kind,name,0,text,hold⟩ nilObj false = nilChg :=by rw [chS,if_neg (by rw [hc]; decide)]
      rw [hc,hB]
      simp only [rA,seval,e88,e70,e93,Try.f88,uf,nilChg,c0n,hwn,LIM,List.length_replicate,h63,hh,n2,n8]
     ·skip
      have hc:chC ⟨now,floor,objects,history,tickets⟩ ⟨1,kind,name,0,text,hold⟩ nilObj false = 0 :=by simp [chC,hasF,nilObj,n1,hh,n8]
      have hB:chS ⟨now,floor,objects,history,tickets⟩ ⟨1,kind,name,0,text,hold⟩ nilObj false = (⟨now + 1,false,⟨kind,name,now + 1,now + 1,text,false,[hold]⟩⟩:VC) :=by rw [chS,if_pos hc]; simp [chG,chO,goneO,nilObj,n1,hh,n8]
      rw [hc,hB]
      simp only [rA,seval,e88,e70,e93,Try.f88,uf,nilChg,c0n,hwn,LIM,List.length_replicate,h63,hh,n2,n8]
  ·skip
   have hc:chC ⟨now,floor,objects,history,tickets⟩ ⟨op,kind,name,seen,text,hold⟩ nilObj false = 3 :=by simp [chC,hasF,o1]
   have hB:chS ⟨now,floor,objects,history,tickets⟩ ⟨op,kind,name,seen,text,hold⟩ nilObj false = nilChg :=by rw [chS,if_neg (by rw [hc]; decide)]
   rw [hc,hB]
   simp only [rA,seval,e88,e70,e93,Try.f88,uf,nilChg,c0n,hwn,LIM,List.length_replicate,h63,o1]
 ·obtain ⟨ok,on,ov,ob,ot,oe,oh⟩ :=o
  rw [fb] at h63 hohl ⊢
  have h111 :=k93 oh hold (by simp only at hohl; omega)
  have hoh1:oh.length + 1 < 4294967296 :=by simp only at hohl; omega
  simp only [VBook.c,VO.c] at h63
  simp only at hohl ⊢
  by_cases o1:op = 1
  ·have o2 :=o1
   subst o1
   have hc:chC ⟨now,floor,objects,history,tickets⟩ ⟨1,kind,name,seen,text,hold⟩ ⟨ok,on,ov,ob,ot,oe,oh⟩ true = 3 :=by simp [chC,hasF]
   have hB:chS ⟨now,floor,objects,history,tickets⟩ ⟨1,kind,name,seen,text,hold⟩ ⟨ok,on,ov,ob,ot,oe,oh⟩ true = nilChg :=by rw [chS,if_neg (by rw [hc]; decide)]
   rw [hc,hB]
   simp only [rA,seval,e88,e70,e93,Try.f88,uf,nilChg,c0n,hwn,LIM,List.length_replicate,h63,h111]
  ·by_cases s1:seen ≠ 0∧seen ≠ ov
   ·obtain ⟨s1,s2⟩ :=s1
    have hc:chC ⟨now,floor,objects,history,tickets⟩ ⟨op,kind,name,seen,text,hold⟩ ⟨ok,on,ov,ob,ot,oe,oh⟩ true = 4 :=by simp [chC,hasF,o1,s1,s2]
    have hB:chS ⟨now,floor,objects,history,tickets⟩ ⟨op,kind,name,seen,text,hold⟩ ⟨ok,on,ov,ob,ot,oe,oh⟩ true = nilChg :=by rw [chS,if_neg (by rw [hc]; decide)]
    rw [hc,hB]
    simp only [rA,seval,e88,e70,e93,Try.f88,uf,nilChg,c0n,hwn,LIM,List.length_replicate,h63,h111,o1,s1,s2]
   ·rcases (show (seen = 0∧¬ (0:Int) = 1)∨(seen = ov∧¬ ov = 0) by omega) with ⟨s2,s3⟩ | ⟨s2,s3⟩
    all_goals
     rcases (show op = 2∨op = 3∨op = 4∨op = 5 by omega) with rfl | rfl | rfl | rfl
     ·cases oe
      ·skip
       by_cases n8:1000000≤now
       ·skip
        have hc:chC ⟨now,floor,objects,history,tickets⟩ ⟨2,kind,name,seen,text,hold⟩ ⟨ok,on,ov,ob,ot,false,oh⟩ true = 8 :=by simp [chC,hasF,s2,s3,n8]
        have hB:chS ⟨now,floor,objects,history,tickets⟩ ⟨2,kind,name,seen,text,hold⟩ ⟨ok,on,ov,ob,ot,false,oh⟩ true = nilChg :=by rw [chS,if_neg (by rw [hc]; decide)]
        rw [hc,hB]
        simp only [rA,seval,e88,e70,e93,Try.f88,uf,nilChg,c0n,hwn,LIM,List.length_replicate,h63,h111,s2,s3,n8]
       ·skip
        have hc:chC ⟨now,floor,objects,history,tickets⟩ ⟨2,kind,name,seen,text,hold⟩ ⟨ok,on,ov,ob,ot,false,oh⟩ true = 0 :=by simp [chC,hasF,s2,s3,n8]
        have hB:chS ⟨now,floor,objects,history,tickets⟩ ⟨2,kind,name,seen,text,hold⟩ ⟨ok,on,ov,ob,ot,false,oh⟩ true = (⟨now + 1,false,⟨ok,on,now + 1,ob,text,false,oh⟩⟩:VC) :=by rw [chS,if_pos hc]; simp [chG,chO,goneO,s2,s3,n8]
        rw [hc,hB]
        simp only [rA,seval,e88,e70,e93,Try.f88,uf,nilChg,c0n,hwn,LIM,List.length_replicate,h63,h111,s2,s3,n8]
      ·skip
       have hc:chC ⟨now,floor,objects,history,tickets⟩ ⟨2,kind,name,seen,text,hold⟩ ⟨ok,on,ov,ob,ot,true,oh⟩ true = 5 :=by simp [chC,hasF,s2,s3]
       have hB:chS ⟨now,floor,objects,history,tickets⟩ ⟨2,kind,name,seen,text,hold⟩ ⟨ok,on,ov,ob,ot,true,oh⟩ true = nilChg :=by rw [chS,if_neg (by rw [hc]; decide)]
       rw [hc,hB]
       simp only [rA,seval,e88,e70,e93,Try.f88,uf,nilChg,c0n,hwn,LIM,List.length_replicate,h63,h111,s2,s3]
     ·cases oe
      ·skip
       by_cases hz3:oh.length = 0
       ·have hz2:(oh.length:Int) = 0 :=by omega
        by_cases n8:1000000≤now
        ·skip
         have hc:chC ⟨now,floor,objects,history,tickets⟩ ⟨3,kind,name,seen,text,hold⟩ ⟨ok,on,ov,ob,ot,false,oh⟩ true = 8 :=by simp [chC,hasF,s2,s3,hz3,n8]
         have hB:chS ⟨now,floor,objects,history,tickets⟩ ⟨3,kind,name,seen,text,hold⟩ ⟨ok,on,ov,ob,ot,false,oh⟩ true = nilChg :=by rw [chS,if_neg (by rw [hc]; decide)]
         rw [hc,hB]
         simp only [rA,seval,e88,e70,e93,Try.f88,uf,nilChg,c0n,hwn,LIM,List.length_replicate,h63,h111,s2,s3,hz2,n8]
        ·skip
         have hc:chC ⟨now,floor,objects,history,tickets⟩ ⟨3,kind,name,seen,text,hold⟩ ⟨ok,on,ov,ob,ot,false,oh⟩ true = 0 :=by simp [chC,hasF,s2,s3,hz3,n8]
         have hB:chS ⟨now,floor,objects,history,tickets⟩ ⟨3,kind,name,seen,text,hold⟩ ⟨ok,on,ov,ob,ot,false,oh⟩ true = (⟨now + 1,true,⟨ok,on,now + 1,ob,ot,true,oh⟩⟩:VC) :=by rw [chS,if_pos hc]; simp [chG,chO,goneO,s2,s3,hz3,n8]
         rw [hc,hB]
         simp only [rA,seval,e88,e70,e93,Try.f88,uf,nilChg,c0n,hwn,LIM,List.length_replicate,h63,h111,s2,s3,hz2,n8]
       ·have hz2:¬ (oh.length:Int) = 0 :=by omega
        by_cases n8:1000000≤now
        ·skip
         have hc:chC ⟨now,floor,objects,history,tickets⟩ ⟨3,kind,name,seen,text,hold⟩ ⟨ok,on,ov,ob,ot,false,oh⟩ true = 8 :=by simp [chC,hasF,s2,s3,hz3,n8]
         have hB:chS ⟨now,floor,objects,history,tickets⟩ ⟨3,kind,name,seen,text,hold⟩ ⟨ok,on,ov,ob,ot,false,oh⟩ true = nilChg :=by rw [chS,if_neg (by rw [hc]; decide)]
         rw [hc,hB]
         simp only [rA,seval,e88,e70,e93,Try.f88,uf,nilChg,c0n,hwn,LIM,List.length_replicate,h63,h111,s2,s3,hz2,n8]
        ·skip
         have hc:chC ⟨now,floor,objects,history,tickets⟩ ⟨3,kind,name,seen,text,hold⟩ ⟨ok,on,ov,ob,ot,false,oh⟩ true = 0 :=by simp [chC,hasF,s2,s3,hz3,n8]
         have hB:chS ⟨now,floor,objects,history,tickets⟩ ⟨3,kind,name,seen,text,hold⟩ ⟨ok,on,ov,ob,ot,false,oh⟩ true = (⟨now + 1,false,⟨ok,on,now + 1,ob,ot,true,oh⟩⟩:VC) :=by rw [chS,if_pos hc]; simp [chG,chO,goneO,s2,s3,hz3,n8]
         rw [hc,hB]
         simp only [rA,seval,e88,e70,e93,Try.f88,uf,nilChg,c0n,hwn,LIM,List.length_replicate,h63,h111,s2,s3,hz2,n8]
      ·skip
       have hc:chC ⟨now,floor,objects,history,tickets⟩ ⟨3,kind,name,seen,text,hold⟩ ⟨ok,on,ov,ob,ot,true,oh⟩ true = 5 :=by simp [chC,hasF,s2,s3]
       have hB:chS ⟨now,floor,objects,history,tickets⟩ ⟨3,kind,name,seen,text,hold⟩ ⟨ok,on,ov,ob,ot,true,oh⟩ true = nilChg :=by rw [chS,if_neg (by rw [hc]; decide)]
       rw [hc,hB]
       simp only [rA,seval,e88,e70,e93,Try.f88,uf,nilChg,c0n,hwn,LIM,List.length_replicate,h63,h111,s2,s3]
     ·cases oe
      ·skip
       cases q1:hasF hold oh
       ·rw [q1] at h111
        by_cases n5:5≤oh.length
        ·have n6:(5:Int)≤(oh.length:Int) :=by omega
         have hc:chC ⟨now,floor,objects,history,tickets⟩ ⟨4,kind,name,seen,text,hold⟩ ⟨ok,on,ov,ob,ot,false,oh⟩ true = 7 :=by simp [chC,hasF,s2,s3,q1,n5]
         have hB:chS ⟨now,floor,objects,history,tickets⟩ ⟨4,kind,name,seen,text,hold⟩ ⟨ok,on,ov,ob,ot,false,oh⟩ true = nilChg :=by rw [chS,if_neg (by rw [hc]; decide)]
         rw [hc,hB]
         simp only [rA,seval,e88,e70,e93,Try.f88,uf,nilChg,c0n,hwn,LIM,List.length_replicate,h63,h111,s2,s3,n6]
        ·have n6:¬ (5:Int)≤(oh.length:Int) :=by omega
         have hcl :=cnt_le hold oh
         have k0:(0:Int)≤((cntT hold oh:Nat):Int) :=by omega
         have kz:0 + (cntT hold oh) = cntT hold oh :=Nat.zero_add _
         have hlA:0 + min (cntT hold oh) oh.length < 4294967296 :=by omega
         have hlA2:min (cntT hold oh) oh.length < 4294967296 :=by omega
         have hlE:cntT hold oh≤oh.length :=hcl
         have hTD:List.take (oh.length - cntT hold oh) (List.drop (cntT hold oh) oh) = List.drop (cntT hold oh) oh :=List.take_of_length_le (by simp)
         have hlB:min (cntT hold oh) oh.length + 1 < 4294967296 :=by omega
         have hlC:min (cntT hold oh) oh.length + 1 + (oh.length - cntT hold oh) < 4294967296 :=by omega
         have hlD:cntT hold oh + (oh.length - cntT hold oh)≤oh.length :=by omega
         by_cases n8:1000000≤now
         ·skip
          have hc:chC ⟨now,floor,objects,history,tickets⟩ ⟨4,kind,name,seen,text,hold⟩ ⟨ok,on,ov,ob,ot,false,oh⟩ true = 8 :=by simp [chC,hasF,s2,s3,q1,n5,n8]
          have hB:chS ⟨now,floor,objects,history,tickets⟩ ⟨4,kind,name,seen,text,hold⟩ ⟨ok,on,ov,ob,ot,false,oh⟩ true = nilChg :=by rw [chS,if_neg (by rw [hc]; decide)]
          rw [hc,hB]
          simp only [rA,seval,e88,e70,e93,Try.f88,uf,nilChg,c0n,hwn,LIM,List.length_replicate,h63,h111,s2,s3,n6,n8]
          rw [while_block (fun j:Nat =>⟨7,[(2,.box 0 0 (VBook.c .shr ⟨now,floor,objects,history,tickets⟩)),(3,.box 1 1 (VW.c ⟨4,kind,name,seen,text,hold⟩)),(4,.box 2 2 (nilChg.c .own)),(6,.box 3 3 (VO.c .own ⟨ok,on,ov,ob,ot,false,oh⟩)),(8,.val 4 false [.p (.int .i64 (now + 1))]),(9,.box 5 5 (VC.c .own ⟨now + 1,false,nilObj⟩)),(10,.val 6 false [.p (.int .i64 (j:Int))])]⟩) (fun j =>j≤cntT hold oh) (fun _ =>.norm ⟨7,[(2,.box 0 0 (VBook.c .shr ⟨now,floor,objects,history,tickets⟩)),(3,.box 1 1 (VW.c ⟨4,kind,name,seen,text,hold⟩)),(4,.box 2 2 (nilChg.c .own)),(6,.box 3 3 (VO.c .own ⟨ok,on,ov,ob,ot,false,oh⟩)),(8,.val 4 false [.p (.int .i64 (now + 1))]),(9,.box 5 5 (VC.c .own ⟨now + 1,false,nilObj⟩)),(10,.val 6 false [.p (.int .i64 (cntT hold oh:Nat))])]⟩) (fun j =>oh.length - j) ?_ (i :=0) (Nat.zero_le _) (by simp only [rA,seval,e88,e70,e93,Try.f88,uf,nilChg,c0n,hwn,LIM,List.length_replicate,s2,s3])]
          ·simp only [rA,seval,e88,e70,e93,Try.f88,uf,nilChg,c0n,hwn,LIM,List.length_replicate,s2,s3,List.map_append,hoh1,Nat.zero_le,Nat.sub_zero,List.drop_zero,Nat.le_refl,k0,kz,hcl,insS,← List.map_take,← List.map_drop,hlA2,hlE,hTD,Nat.zero_add,List.length_cons,Int.toNat_natCast,List.length_append,List.length_take,List.length_drop,hlA,hlB,hlC,hlD,n8]
          ·intro j hj
           have hcl :=cnt_le hold oh
           have hj0:(0:Int)≤(j:Int) :=by omega
           by_cases e:j = cntT hold oh
           ·right
            subst e
            rcases cnt_at hold oh with q | ⟨x,q,q2⟩
            ·have q3:¬ ((cntT hold oh:Nat):Int) < (oh.length:Int) :=by omega
             simp only [rA,seval,e88,e70,e93,Try.f88,uf,nilChg,c0n,hwn,LIM,List.length_replicate,s2,s3,q3]
            ·have q3:((cntT hold oh:Nat):Int) < (oh.length:Int) :=by have :=(List.getElem?_eq_some_iff.1 q).1; omega
             have q4:cntT hold oh < oh.length :=by omega
             have hr :=getElem?_map_some (f :=strC) q
             simp only [strC] at hr
             simp only [rA,seval,e88,e70,e93,Try.f88,uf,nilChg,c0n,hwn,LIM,List.length_replicate,s2,s3,q3,q4,hj0,hr,q2]
           ·left
            obtain ⟨x,q,q2⟩ :=cnt_in hold oh j (by omega)
            have q4 :=(List.getElem?_eq_some_iff.1 q).1
            have q3:(j:Int) < (oh.length:Int) :=by omega
            have hr :=getElem?_map_some (f :=strC) q
            simp only [strC] at hr
            have hwj :=wrap64 (n :=(j:Int) + 1) (by omega) (by omega)
            refine ⟨j + 1,?_,by omega,by omega,rfl⟩
            simp only [rA,seval,e88,e70,e93,Try.f88,uf,nilChg,c0n,hwn,LIM,List.length_replicate,s2,s3,q3,q4,hj0,hr,q2,hwj,i64c]
         ·skip
          have hc:chC ⟨now,floor,objects,history,tickets⟩ ⟨4,kind,name,seen,text,hold⟩ ⟨ok,on,ov,ob,ot,false,oh⟩ true = 0 :=by simp [chC,hasF,s2,s3,q1,n5,n8]
          have hB:chS ⟨now,floor,objects,history,tickets⟩ ⟨4,kind,name,seen,text,hold⟩ ⟨ok,on,ov,ob,ot,false,oh⟩ true = (⟨now + 1,false,⟨ok,on,now + 1,ob,ot,false,insS oh hold⟩⟩:VC) :=by rw [chS,if_pos hc]; simp [chG,chO,goneO,s2,s3,q1,n5,n8]
          rw [hc,hB]
          simp only [rA,seval,e88,e70,e93,Try.f88,uf,nilChg,c0n,hwn,LIM,List.length_replicate,h63,h111,s2,s3,n6,n8]
          rw [while_block (fun j:Nat =>⟨7,[(2,.box 0 0 (VBook.c .shr ⟨now,floor,objects,history,tickets⟩)),(3,.box 1 1 (VW.c ⟨4,kind,name,seen,text,hold⟩)),(4,.box 2 2 (nilChg.c .own)),(6,.box 3 3 (VO.c .own ⟨ok,on,ov,ob,ot,false,oh⟩)),(8,.val 4 false [.p (.int .i64 (now + 1))]),(9,.box 5 5 (VC.c .own ⟨now + 1,false,nilObj⟩)),(10,.val 6 false [.p (.int .i64 (j:Int))])]⟩) (fun j =>j≤cntT hold oh) (fun _ =>.norm ⟨7,[(2,.box 0 0 (VBook.c .shr ⟨now,floor,objects,history,tickets⟩)),(3,.box 1 1 (VW.c ⟨4,kind,name,seen,text,hold⟩)),(4,.box 2 2 (nilChg.c .own)),(6,.box 3 3 (VO.c .own ⟨ok,on,ov,ob,ot,false,oh⟩)),(8,.val 4 false [.p (.int .i64 (now + 1))]),(9,.box 5 5 (VC.c .own ⟨now + 1,false,nilObj⟩)),(10,.val 6 false [.p (.int .i64 (cntT hold oh:Nat))])]⟩) (fun j =>oh.length - j) ?_ (i :=0) (Nat.zero_le _) (by simp only [rA,seval,e88,e70,e93,Try.f88,uf,nilChg,c0n,hwn,LIM,List.length_replicate,s2,s3])]
          ·simp only [rA,seval,e88,e70,e93,Try.f88,uf,nilChg,c0n,hwn,LIM,List.length_replicate,s2,s3,List.map_append,hoh1,Nat.zero_le,Nat.sub_zero,List.drop_zero,Nat.le_refl,k0,kz,hcl,insS,← List.map_take,← List.map_drop,hlA2,hlE,hTD,Nat.zero_add,List.length_cons,Int.toNat_natCast,List.length_append,List.length_take,List.length_drop,hlA,hlB,hlC,hlD,n8]
          ·intro j hj
           have hcl :=cnt_le hold oh
           have hj0:(0:Int)≤(j:Int) :=by omega
           by_cases e:j = cntT hold oh
           ·right
            subst e
            rcases cnt_at hold oh with q | ⟨x,q,q2⟩
            ·have q3:¬ ((cntT hold oh:Nat):Int) < (oh.length:Int) :=by omega
             simp only [rA,seval,e88,e70,e93,Try.f88,uf,nilChg,c0n,hwn,LIM,List.length_replicate,s2,s3,q3]
            ·have q3:((cntT hold oh:Nat):Int) < (oh.length:Int) :=by have :=(List.getElem?_eq_some_iff.1 q).1; omega
             have q4:cntT hold oh < oh.length :=by omega
             have hr :=getElem?_map_some (f :=strC) q
             simp only [strC] at hr
             simp only [rA,seval,e88,e70,e93,Try.f88,uf,nilChg,c0n,hwn,LIM,List.length_replicate,s2,s3,q3,q4,hj0,hr,q2]
           ·left
            obtain ⟨x,q,q2⟩ :=cnt_in hold oh j (by omega)
            have q4 :=(List.getElem?_eq_some_iff.1 q).1
            have q3:(j:Int) < (oh.length:Int) :=by omega
            have hr :=getElem?_map_some (f :=strC) q
            simp only [strC] at hr
            have hwj :=wrap64 (n :=(j:Int) + 1) (by omega) (by omega)
            refine ⟨j + 1,?_,by omega,by omega,rfl⟩
            simp only [rA,seval,e88,e70,e93,Try.f88,uf,nilChg,c0n,hwn,LIM,List.length_replicate,s2,s3,q3,q4,hj0,hr,q2,hwj,i64c]
       ·rw [q1] at h111
        have hc:chC ⟨now,floor,objects,history,tickets⟩ ⟨4,kind,name,seen,text,hold⟩ ⟨ok,on,ov,ob,ot,false,oh⟩ true = 6 :=by simp [chC,hasF,s2,s3,q1]
        have hB:chS ⟨now,floor,objects,history,tickets⟩ ⟨4,kind,name,seen,text,hold⟩ ⟨ok,on,ov,ob,ot,false,oh⟩ true = nilChg :=by rw [chS,if_neg (by rw [hc]; decide)]
        rw [hc,hB]
        simp only [rA,seval,e88,e70,e93,Try.f88,uf,nilChg,c0n,hwn,LIM,List.length_replicate,h63,h111,s2,s3]
      ·skip
       have hc:chC ⟨now,floor,objects,history,tickets⟩ ⟨4,kind,name,seen,text,hold⟩ ⟨ok,on,ov,ob,ot,true,oh⟩ true = 5 :=by simp [chC,hasF,s2,s3]
       have hB:chS ⟨now,floor,objects,history,tickets⟩ ⟨4,kind,name,seen,text,hold⟩ ⟨ok,on,ov,ob,ot,true,oh⟩ true = nilChg :=by rw [chS,if_neg (by rw [hc]; decide)]
       rw [hc,hB]
       simp only [rA,seval,e88,e70,e93,Try.f88,uf,nilChg,c0n,hwn,LIM,List.length_replicate,h63,h111,s2,s3]
     ·cases oe
      ·skip
       cases q1:hasF hold oh
       ·rw [q1] at h111
        have hc:chC ⟨now,floor,objects,history,tickets⟩ ⟨5,kind,name,seen,text,hold⟩ ⟨ok,on,ov,ob,ot,false,oh⟩ true = 6 :=by simp [chC,hasF,s2,s3,q1]
        have hB:chS ⟨now,floor,objects,history,tickets⟩ ⟨5,kind,name,seen,text,hold⟩ ⟨ok,on,ov,ob,ot,false,oh⟩ true = nilChg :=by rw [chS,if_neg (by rw [hc]; decide)]
        rw [hc,hB]
        simp only [rA,seval,e88,e70,e93,Try.f88,uf,nilChg,c0n,hwn,LIM,List.length_replicate,h63,h111,s2,s3]
       ·rw [q1] at h111
        by_cases n8:1000000≤now
        ·skip
         have hc:chC ⟨now,floor,objects,history,tickets⟩ ⟨5,kind,name,seen,text,hold⟩ ⟨ok,on,ov,ob,ot,false,oh⟩ true = 8 :=by simp [chC,hasF,s2,s3,q1,n8]
         have hB:chS ⟨now,floor,objects,history,tickets⟩ ⟨5,kind,name,seen,text,hold⟩ ⟨ok,on,ov,ob,ot,false,oh⟩ true = nilChg :=by rw [chS,if_neg (by rw [hc]; decide)]
         rw [hc,hB]
         simp only [rA,seval,e88,e70,e93,Try.f88,uf,nilChg,c0n,hwn,LIM,List.length_replicate,h63,h111,s2,s3,n8]
         rw [for_block oh (fun i (_:Unit) =>⟨8,[(2,.box 0 0 (VBook.c .shr ⟨now,floor,objects,history,tickets⟩)),(3,.box 1 1 (VW.c ⟨5,kind,name,seen,text,hold⟩)),(4,.box 2 2 (nilChg.c .own)),(6,.box 3 3 (VO.c .own ⟨ok,on,ov,ob,ot,false,oh⟩)),(8,.val 4 false [.p (.int .i64 (now + 1))]),(9,.box 5 5 (VC.c .own ⟨now + 1,false,nilObj⟩)),(11,.val 6 false [.sl .own 1 ((delS (oh.take i) hold).map strC)]),(12,.val 7 false [.p (.int .i64 i)])]⟩) (fun i _ =>True) (fun r i a =>.norm ⟨6,[(2,.box 0 0 (VBook.c .shr ⟨now,floor,objects,history,tickets⟩)),(4,.box 1 1 (nilChg.c .own)),(6,.box 2 2 (VO.c .own ⟨ok,on,ov,ob,ot,false,oh⟩)),(8,.val 3 false [.p (.int .i64 (now + 1))]),(9,.box 4 4 (VC.c .own ⟨now + 1,false,nilObj⟩)),(11,.val 5 false [.sl .own 1 ((delS oh hold).map strC)])]⟩) ?_ ?_ (a :=()) trivial (by simp only [rA,seval,e88,e70,e93,Try.f88,uf,nilChg,c0n,hwn,LIM,List.length_replicate,s2,s3,delS,List.take_zero,List.filter_nil])]
         ·simp only [rA,seval,e88,e70,e93,Try.f88,uf,nilChg,c0n,hwn,LIM,List.length_replicate,s2,s3,n8]
         ·intro i x r a hd hi _
          have hlen :=(List.getElem?_eq_some_iff.1 hi).1
          have hlt:((i:Int) < (oh.length:Int)) :=by omega
          have hr :=getElem?_map_some (f :=strC) hi
          simp only [strC] at hr
          have hi0:(0:Int)≤(i:Int) :=by omega
          have hwi :=wrap64 (n :=(i:Int) + 1) (by omega) (by omega)
          have hL :=delS_len oh hold i
          have hL1:(delS (oh.take i) hold).length + 1 < 4294967296 :=by omega
          have hs :=delS_snoc hold hi
          left
          refine ⟨(),?_,trivial,rfl⟩
          by_cases d:x = hold
          ·rw [if_pos d] at hs
           simp only [rA,seval,e88,e70,e93,Try.f88,uf,nilChg,c0n,hwn,LIM,List.length_replicate,s2,s3,hlen,hlt,hr,hi0,hwi,hs,hL1,i64c,d]
          ·rw [if_neg d] at hs
           simp only [rA,seval,e88,e70,e93,Try.f88,uf,nilChg,c0n,hwn,LIM,List.length_replicate,s2,s3,hlen,hlt,hr,hi0,hwi,hs,hL1,i64c,d,List.map_append]
         ·intro a _
          have hn:¬ ((oh.length:Int) < (oh.length:Int)) :=by omega
          simp only [rA,seval,e88,e70,e93,Try.f88,uf,nilChg,c0n,hwn,LIM,List.length_replicate,s2,s3,hn,List.take_length]
        ·skip
         have hc:chC ⟨now,floor,objects,history,tickets⟩ ⟨5,kind,name,seen,text,hold⟩ ⟨ok,on,ov,ob,ot,false,oh⟩ true = 0 :=by simp [chC,hasF,s2,s3,q1,n8]
         have hB:chS ⟨now,floor,objects,history,tickets⟩ ⟨5,kind,name,seen,text,hold⟩ ⟨ok,on,ov,ob,ot,false,oh⟩ true = (⟨now + 1,false,⟨ok,on,now + 1,ob,ot,false,delS oh hold⟩⟩:VC) :=by rw [chS,if_pos hc]; simp [chG,chO,goneO,s2,s3,q1,n8]
         rw [hc,hB]
         simp only [rA,seval,e88,e70,e93,Try.f88,uf,nilChg,c0n,hwn,LIM,List.length_replicate,h63,h111,s2,s3,n8]
         rw [for_block oh (fun i (_:Unit) =>⟨8,[(2,.box 0 0 (VBook.c .shr ⟨now,floor,objects,history,tickets⟩)),(3,.box 1 1 (VW.c ⟨5,kind,name,seen,text,hold⟩)),(4,.box 2 2 (nilChg.c .own)),(6,.box 3 3 (VO.c .own ⟨ok,on,ov,ob,ot,false,oh⟩)),(8,.val 4 false [.p (.int .i64 (now + 1))]),(9,.box 5 5 (VC.c .own ⟨now + 1,false,nilObj⟩)),(11,.val 6 false [.sl .own 1 ((delS (oh.take i) hold).map strC)]),(12,.val 7 false [.p (.int .i64 i)])]⟩) (fun i _ =>True) (fun r i a =>.norm ⟨6,[(2,.box 0 0 (VBook.c .shr ⟨now,floor,objects,history,tickets⟩)),(4,.box 1 1 (nilChg.c .own)),(6,.box 2 2 (VO.c .own ⟨ok,on,ov,ob,ot,false,oh⟩)),(8,.val 3 false [.p (.int .i64 (now + 1))]),(9,.box 4 4 (VC.c .own ⟨now + 1,false,nilObj⟩)),(11,.val 5 false [.sl .own 1 ((delS oh hold).map strC)])]⟩) ?_ ?_ (a :=()) trivial (by simp only [rA,seval,e88,e70,e93,Try.f88,uf,nilChg,c0n,hwn,LIM,List.length_replicate,s2,s3,delS,List.take_zero,List.filter_nil])]
         ·simp only [rA,seval,e88,e70,e93,Try.f88,uf,nilChg,c0n,hwn,LIM,List.length_replicate,s2,s3,n8]
         ·intro i x r a hd hi _
          have hlen :=(List.getElem?_eq_some_iff.1 hi).1
          have hlt:((i:Int) < (oh.length:Int)) :=by omega
          have hr :=getElem?_map_some (f :=strC) hi
          simp only [strC] at hr
          have hi0:(0:Int)≤(i:Int) :=by omega
          have hwi :=wrap64 (n :=(i:Int) + 1) (by omega) (by omega)
          have hL :=delS_len oh hold i
          have hL1:(delS (oh.take i) hold).length + 1 < 4294967296 :=by omega
          have hs :=delS_snoc hold hi
          left
          refine ⟨(),?_,trivial,rfl⟩
          by_cases d:x = hold
          ·rw [if_pos d] at hs
           simp only [rA,seval,e88,e70,e93,Try.f88,uf,nilChg,c0n,hwn,LIM,List.length_replicate,s2,s3,hlen,hlt,hr,hi0,hwi,hs,hL1,i64c,d]
          ·rw [if_neg d] at hs
           simp only [rA,seval,e88,e70,e93,Try.f88,uf,nilChg,c0n,hwn,LIM,List.length_replicate,s2,s3,hlen,hlt,hr,hi0,hwi,hs,hL1,i64c,d,List.map_append]
         ·intro a _
          have hn:¬ ((oh.length:Int) < (oh.length:Int)) :=by omega
          simp only [rA,seval,e88,e70,e93,Try.f88,uf,nilChg,c0n,hwn,LIM,List.length_replicate,s2,s3,hn,List.take_length]
      ·skip
       cases q1:hasF hold oh
       ·rw [q1] at h111
        have hc:chC ⟨now,floor,objects,history,tickets⟩ ⟨5,kind,name,seen,text,hold⟩ ⟨ok,on,ov,ob,ot,true,oh⟩ true = 6 :=by simp [chC,hasF,s2,s3,q1]
        have hB:chS ⟨now,floor,objects,history,tickets⟩ ⟨5,kind,name,seen,text,hold⟩ ⟨ok,on,ov,ob,ot,true,oh⟩ true = nilChg :=by rw [chS,if_neg (by rw [hc]; decide)]
        rw [hc,hB]
        simp only [rA,seval,e88,e70,e93,Try.f88,uf,nilChg,c0n,hwn,LIM,List.length_replicate,h63,h111,s2,s3]
       ·rw [q1] at h111
        by_cases hz:(delS oh hold).length = 0
        ·have hz2:((delS oh hold).length:Int) = 0 :=by omega
         by_cases n8:1000000≤now
         ·skip
          have hc:chC ⟨now,floor,objects,history,tickets⟩ ⟨5,kind,name,seen,text,hold⟩ ⟨ok,on,ov,ob,ot,true,oh⟩ true = 8 :=by simp [chC,hasF,s2,s3,q1,hz,n8]
          have hB:chS ⟨now,floor,objects,history,tickets⟩ ⟨5,kind,name,seen,text,hold⟩ ⟨ok,on,ov,ob,ot,true,oh⟩ true = nilChg :=by rw [chS,if_neg (by rw [hc]; decide)]
          rw [hc,hB]
          simp only [rA,seval,e88,e70,e93,Try.f88,uf,nilChg,c0n,hwn,LIM,List.length_replicate,h63,h111,s2,s3,n8]
          rw [for_block oh (fun i (_:Unit) =>⟨8,[(2,.box 0 0 (VBook.c .shr ⟨now,floor,objects,history,tickets⟩)),(3,.box 1 1 (VW.c ⟨5,kind,name,seen,text,hold⟩)),(4,.box 2 2 (nilChg.c .own)),(6,.box 3 3 (VO.c .own ⟨ok,on,ov,ob,ot,true,oh⟩)),(8,.val 4 false [.p (.int .i64 (now + 1))]),(9,.box 5 5 (VC.c .own ⟨now + 1,false,nilObj⟩)),(11,.val 6 false [.sl .own 1 ((delS (oh.take i) hold).map strC)]),(12,.val 7 false [.p (.int .i64 i)])]⟩) (fun i _ =>True) (fun r i a =>.norm ⟨6,[(2,.box 0 0 (VBook.c .shr ⟨now,floor,objects,history,tickets⟩)),(4,.box 1 1 (nilChg.c .own)),(6,.box 2 2 (VO.c .own ⟨ok,on,ov,ob,ot,true,oh⟩)),(8,.val 3 false [.p (.int .i64 (now + 1))]),(9,.box 4 4 (VC.c .own ⟨now + 1,false,nilObj⟩)),(11,.val 5 false [.sl .own 1 ((delS oh hold).map strC)])]⟩) ?_ ?_ (a :=()) trivial (by simp only [rA,seval,e88,e70,e93,Try.f88,uf,nilChg,c0n,hwn,LIM,List.length_replicate,s2,s3,delS,List.take_zero,List.filter_nil])]
          ·simp only [rA,seval,e88,e70,e93,Try.f88,uf,nilChg,c0n,hwn,LIM,List.length_replicate,s2,s3,n8,hz2]
          ·intro i x r a hd hi _
           have hlen :=(List.getElem?_eq_some_iff.1 hi).1
           have hlt:((i:Int) < (oh.length:Int)) :=by omega
           have hr :=getElem?_map_some (f :=strC) hi
           simp only [strC] at hr
           have hi0:(0:Int)≤(i:Int) :=by omega
           have hwi :=wrap64 (n :=(i:Int) + 1) (by omega) (by omega)
           have hL :=delS_len oh hold i
           have hL1:(delS (oh.take i) hold).length + 1 < 4294967296 :=by omega
           have hs :=delS_snoc hold hi
           left
           refine ⟨(),?_,trivial,rfl⟩
           by_cases d:x = hold
           ·rw [if_pos d] at hs
            simp only [rA,seval,e88,e70,e93,Try.f88,uf,nilChg,c0n,hwn,LIM,List.length_replicate,s2,s3,hlen,hlt,hr,hi0,hwi,hs,hL1,i64c,d]
           ·rw [if_neg d] at hs
            simp only [rA,seval,e88,e70,e93,Try.f88,uf,nilChg,c0n,hwn,LIM,List.length_replicate,s2,s3,hlen,hlt,hr,hi0,hwi,hs,hL1,i64c,d,List.map_append]
          ·intro a _
           have hn:¬ ((oh.length:Int) < (oh.length:Int)) :=by omega
           simp only [rA,seval,e88,e70,e93,Try.f88,uf,nilChg,c0n,hwn,LIM,List.length_replicate,s2,s3,hn,List.take_length]
         ·skip
          have hc:chC ⟨now,floor,objects,history,tickets⟩ ⟨5,kind,name,seen,text,hold⟩ ⟨ok,on,ov,ob,ot,true,oh⟩ true = 0 :=by simp [chC,hasF,s2,s3,q1,hz,n8]
          have hB:chS ⟨now,floor,objects,history,tickets⟩ ⟨5,kind,name,seen,text,hold⟩ ⟨ok,on,ov,ob,ot,true,oh⟩ true = (⟨now + 1,true,⟨ok,on,now + 1,ob,ot,true,delS oh hold⟩⟩:VC) :=by rw [chS,if_pos hc]; simp [chG,chO,goneO,s2,s3,q1,hz,n8]
          rw [hc,hB]
          simp only [rA,seval,e88,e70,e93,Try.f88,uf,nilChg,c0n,hwn,LIM,List.length_replicate,h63,h111,s2,s3,n8]
          rw [for_block oh (fun i (_:Unit) =>⟨8,[(2,.box 0 0 (VBook.c .shr ⟨now,floor,objects,history,tickets⟩)),(3,.box 1 1 (VW.c ⟨5,kind,name,seen,text,hold⟩)),(4,.box 2 2 (nilChg.c .own)),(6,.box 3 3 (VO.c .own ⟨ok,on,ov,ob,ot,true,oh⟩)),(8,.val 4 false [.p (.int .i64 (now + 1))]),(9,.box 5 5 (VC.c .own ⟨now + 1,false,nilObj⟩)),(11,.val 6 false [.sl .own 1 ((delS (oh.take i) hold).map strC)]),(12,.val 7 false [.p (.int .i64 i)])]⟩) (fun i _ =>True) (fun r i a =>.norm ⟨6,[(2,.box 0 0 (VBook.c .shr ⟨now,floor,objects,history,tickets⟩)),(4,.box 1 1 (nilChg.c .own)),(6,.box 2 2 (VO.c .own ⟨ok,on,ov,ob,ot,true,oh⟩)),(8,.val 3 false [.p (.int .i64 (now + 1))]),(9,.box 4 4 (VC.c .own ⟨now + 1,false,nilObj⟩)),(11,.val 5 false [.sl .own 1 ((delS oh hold).map strC)])]⟩) ?_ ?_ (a :=()) trivial (by simp only [rA,seval,e88,e70,e93,Try.f88,uf,nilChg,c0n,hwn,LIM,List.length_replicate,s2,s3,delS,List.take_zero,List.filter_nil])]
          ·simp only [rA,seval,e88,e70,e93,Try.f88,uf,nilChg,c0n,hwn,LIM,List.length_replicate,s2,s3,n8,hz2]
          ·intro i x r a hd hi _
           have hlen :=(List.getElem?_eq_some_iff.1 hi).1
           have hlt:((i:Int) < (oh.length:Int)) :=by omega
           have hr :=getElem?_map_some (f :=strC) hi
           simp only [strC] at hr
           have hi0:(0:Int)≤(i:Int) :=by omega
           have hwi :=wrap64 (n :=(i:Int) + 1) (by omega) (by omega)
           have hL :=delS_len oh hold i
           have hL1:(delS (oh.take i) hold).length + 1 < 4294967296 :=by omega
           have hs :=delS_snoc hold hi
           left
           refine ⟨(),?_,trivial,rfl⟩
           by_cases d:x = hold
           ·rw [if_pos d] at hs
            simp only [rA,seval,e88,e70,e93,Try.f88,uf,nilChg,c0n,hwn,LIM,List.length_replicate,s2,s3,hlen,hlt,hr,hi0,hwi,hs,hL1,i64c,d]
           ·rw [if_neg d] at hs
            simp only [rA,seval,e88,e70,e93,Try.f88,uf,nilChg,c0n,hwn,LIM,List.length_replicate,s2,s3,hlen,hlt,hr,hi0,hwi,hs,hL1,i64c,d,List.map_append]
          ·intro a _
           have hn:¬ ((oh.length:Int) < (oh.length:Int)) :=by omega
           simp only [rA,seval,e88,e70,e93,Try.f88,uf,nilChg,c0n,hwn,LIM,List.length_replicate,s2,s3,hn,List.take_length]
        ·have hz2:¬ ((delS oh hold).length:Int) = 0 :=by omega
         by_cases n8:1000000≤now
         ·skip
          have hc:chC ⟨now,floor,objects,history,tickets⟩ ⟨5,kind,name,seen,text,hold⟩ ⟨ok,on,ov,ob,ot,true,oh⟩ true = 8 :=by simp [chC,hasF,s2,s3,q1,hz,n8]
          have hB:chS ⟨now,floor,objects,history,tickets⟩ ⟨5,kind,name,seen,text,hold⟩ ⟨ok,on,ov,ob,ot,true,oh⟩ true = nilChg :=by rw [chS,if_neg (by rw [hc]; decide)]
          rw [hc,hB]
          simp only [rA,seval,e88,e70,e93,Try.f88,uf,nilChg,c0n,hwn,LIM,List.length_replicate,h63,h111,s2,s3,n8]
          rw [for_block oh (fun i (_:Unit) =>⟨8,[(2,.box 0 0 (VBook.c .shr ⟨now,floor,objects,history,tickets⟩)),(3,.box 1 1 (VW.c ⟨5,kind,name,seen,text,hold⟩)),(4,.box 2 2 (nilChg.c .own)),(6,.box 3 3 (VO.c .own ⟨ok,on,ov,ob,ot,true,oh⟩)),(8,.val 4 false [.p (.int .i64 (now + 1))]),(9,.box 5 5 (VC.c .own ⟨now + 1,false,nilObj⟩)),(11,.val 6 false [.sl .own 1 ((delS (oh.take i) hold).map strC)]),(12,.val 7 false [.p (.int .i64 i)])]⟩) (fun i _ =>True) (fun r i a =>.norm ⟨6,[(2,.box 0 0 (VBook.c .shr ⟨now,floor,objects,history,tickets⟩)),(4,.box 1 1 (nilChg.c .own)),(6,.box 2 2 (VO.c .own ⟨ok,on,ov,ob,ot,true,oh⟩)),(8,.val 3 false [.p (.int .i64 (now + 1))]),(9,.box 4 4 (VC.c .own ⟨now + 1,false,nilObj⟩)),(11,.val 5 false [.sl .own 1 ((delS oh hold).map strC)])]⟩) ?_ ?_ (a :=()) trivial (by simp only [rA,seval,e88,e70,e93,Try.f88,uf,nilChg,c0n,hwn,LIM,List.length_replicate,s2,s3,delS,List.take_zero,List.filter_nil])]
          ·simp only [rA,seval,e88,e70,e93,Try.f88,uf,nilChg,c0n,hwn,LIM,List.length_replicate,s2,s3,n8,hz2]
          ·intro i x r a hd hi _
           have hlen :=(List.getElem?_eq_some_iff.1 hi).1
           have hlt:((i:Int) < (oh.length:Int)) :=by omega
           have hr :=getElem?_map_some (f :=strC) hi
           simp only [strC] at hr
           have hi0:(0:Int)≤(i:Int) :=by omega
           have hwi :=wrap64 (n :=(i:Int) + 1) (by omega) (by omega)
           have hL :=delS_len oh hold i
           have hL1:(delS (oh.take i) hold).length + 1 < 4294967296 :=by omega
           have hs :=delS_snoc hold hi
           left
           refine ⟨(),?_,trivial,rfl⟩
           by_cases d:x = hold
           ·rw [if_pos d] at hs
            simp only [rA,seval,e88,e70,e93,Try.f88,uf,nilChg,c0n,hwn,LIM,List.length_replicate,s2,s3,hlen,hlt,hr,hi0,hwi,hs,hL1,i64c,d]
           ·rw [if_neg d] at hs
            simp only [rA,seval,e88,e70,e93,Try.f88,uf,nilChg,c0n,hwn,LIM,List.length_replicate,s2,s3,hlen,hlt,hr,hi0,hwi,hs,hL1,i64c,d,List.map_append]
          ·intro a _
           have hn:¬ ((oh.length:Int) < (oh.length:Int)) :=by omega
           simp only [rA,seval,e88,e70,e93,Try.f88,uf,nilChg,c0n,hwn,LIM,List.length_replicate,s2,s3,hn,List.take_length]
         ·skip
          have hc:chC ⟨now,floor,objects,history,tickets⟩ ⟨5,kind,name,seen,text,hold⟩ ⟨ok,on,ov,ob,ot,true,oh⟩ true = 0 :=by simp [chC,hasF,s2,s3,q1,hz,n8]
          have hB:chS ⟨now,floor,objects,history,tickets⟩ ⟨5,kind,name,seen,text,hold⟩ ⟨ok,on,ov,ob,ot,true,oh⟩ true = (⟨now + 1,false,⟨ok,on,now + 1,ob,ot,true,delS oh hold⟩⟩:VC) :=by rw [chS,if_pos hc]; simp [chG,chO,goneO,s2,s3,q1,hz,n8]
          rw [hc,hB]
          simp only [rA,seval,e88,e70,e93,Try.f88,uf,nilChg,c0n,hwn,LIM,List.length_replicate,h63,h111,s2,s3,n8]
          rw [for_block oh (fun i (_:Unit) =>⟨8,[(2,.box 0 0 (VBook.c .shr ⟨now,floor,objects,history,tickets⟩)),(3,.box 1 1 (VW.c ⟨5,kind,name,seen,text,hold⟩)),(4,.box 2 2 (nilChg.c .own)),(6,.box 3 3 (VO.c .own ⟨ok,on,ov,ob,ot,true,oh⟩)),(8,.val 4 false [.p (.int .i64 (now + 1))]),(9,.box 5 5 (VC.c .own ⟨now + 1,false,nilObj⟩)),(11,.val 6 false [.sl .own 1 ((delS (oh.take i) hold).map strC)]),(12,.val 7 false [.p (.int .i64 i)])]⟩) (fun i _ =>True) (fun r i a =>.norm ⟨6,[(2,.box 0 0 (VBook.c .shr ⟨now,floor,objects,history,tickets⟩)),(4,.box 1 1 (nilChg.c .own)),(6,.box 2 2 (VO.c .own ⟨ok,on,ov,ob,ot,true,oh⟩)),(8,.val 3 false [.p (.int .i64 (now + 1))]),(9,.box 4 4 (VC.c .own ⟨now + 1,false,nilObj⟩)),(11,.val 5 false [.sl .own 1 ((delS oh hold).map strC)])]⟩) ?_ ?_ (a :=()) trivial (by simp only [rA,seval,e88,e70,e93,Try.f88,uf,nilChg,c0n,hwn,LIM,List.length_replicate,s2,s3,delS,List.take_zero,List.filter_nil])]
          ·simp only [rA,seval,e88,e70,e93,Try.f88,uf,nilChg,c0n,hwn,LIM,List.length_replicate,s2,s3,n8,hz2]
          ·intro i x r a hd hi _
           have hlen :=(List.getElem?_eq_some_iff.1 hi).1
           have hlt:((i:Int) < (oh.length:Int)) :=by omega
           have hr :=getElem?_map_some (f :=strC) hi
           simp only [strC] at hr
           have hi0:(0:Int)≤(i:Int) :=by omega
           have hwi :=wrap64 (n :=(i:Int) + 1) (by omega) (by omega)
           have hL :=delS_len oh hold i
           have hL1:(delS (oh.take i) hold).length + 1 < 4294967296 :=by omega
           have hs :=delS_snoc hold hi
           left
           refine ⟨(),?_,trivial,rfl⟩
           by_cases d:x = hold
           ·rw [if_pos d] at hs
            simp only [rA,seval,e88,e70,e93,Try.f88,uf,nilChg,c0n,hwn,LIM,List.length_replicate,s2,s3,hlen,hlt,hr,hi0,hwi,hs,hL1,i64c,d]
           ·rw [if_neg d] at hs
            simp only [rA,seval,e88,e70,e93,Try.f88,uf,nilChg,c0n,hwn,LIM,List.length_replicate,s2,s3,hlen,hlt,hr,hi0,hwi,hs,hL1,i64c,d,List.map_append]
          ·intro a _
           have hn:¬ ((oh.length:Int) < (oh.length:Int)) :=by omega
           simp only [rA,seval,e88,e70,e93,Try.f88,uf,nilChg,c0n,hwn,LIM,List.length_replicate,s2,s3,hn,List.take_length]
theorem rowsShrC (l:List VC):borRows (l.map (VC.c .shr)) = l.map (VC.c .shr)∧wholeRows (l.map (VC.c .shr)) = true∧allFreeRows (l.map (VC.c .shr)) = true :=by
 induction l with
 | nil =>exact ⟨rfl,rfl,rfl⟩
 | cons x l ih =>
  have h :=rowBookChange x
  refine ⟨?_,?_,?_⟩
  ·simp only [List.map_cons,borRows,ih.1]
   congr 1
  ·simp only [List.map_cons,wholeRows,ih.2.1,h.2.2.2.1,Bool.and_true]
  ·simp only [List.map_cons,allFreeRows,ih.2.2,h.2.2.2.2,Bool.and_true]
structure RowsH (hr:List (List C)) (l:List VC):Prop where
 bor:borRows hr = l.map (VC.c .shr)
 whole:wholeRows hr = true
 len:hr.length = l.length
theorem rowsH_shr (l:List VC):RowsH (l.map (VC.c .shr)) l :=⟨(rowsShrC l).1,(rowsShrC l).2.1,by simp⟩
theorem bor_app:∀ a b:List (List C),borRows (a ++ b) = borRows a ++ borRows b
 | [],b =>rfl
 | x :: a,b =>by simp only [List.cons_append,borRows,bor_app a b]
theorem whole_app:∀ a b:List (List C),wholeRows (a ++ b) = (wholeRows a && wholeRows b)
 | [],b =>by simp [wholeRows]
 | x :: a,b =>by simp only [List.cons_append,wholeRows,whole_app a b,Bool.and_assoc]
theorem rowsH_own (l:List VC) (c:VC):RowsH (l.map (VC.c .shr) ++ [c.c .own]) (l ++ [c]) :=by
 have h :=rowsShrC l
 have k :=rowBookChange c
 refine ⟨?_,?_,by simp⟩
 ·rw [bor_app,h.1,List.map_append]
  simp only [borRows,k.1,List.map_cons,List.map_nil]
 ·rw [whole_app,h.2.1]
  simp only [wholeRows,k.2.2.1,Bool.and_true]
def VBook.m (fl:Fl) (hr:List (List C)) (x:VBook):List C :=[.p (.int .i64 x.now),.p (.int .i64 x.floor),.sl fl 7 (x.objects.map (VO.c .shr)),.sl fl 9 hr,.sl .shr 5 (x.tickets.map VT.c)]
def codeD (b:VBook) (w:VW):Int :=if wrB w = true then chC b w (fO b w) (fT b w) else 2
def verD (b:VBook) (w:VW):Int :=if wrB w = true then verI b w (fO b w) (fT b w) else 0
def bkD (b:VBook) (w:VW):VBook :=if wrB w = true then bookS b w (fO b w) (fT b w) else b
def flD (c:Int):Fl :=if c = 0 then .own else .shr
theorem k75 (b:VBook) (w:VW) (hw:b.w + w.w≤4194000) (hb0:0≤b.now) (hb1:b.now≤1000000) :
  ∃ hr,(RowsH hr (bkD b w).history∧(codeD b w ≠ 0→hr = (bkD b w).history.map (VC.c .shr)))∧EV Try.prog E 75 [.val 0 true (b.c .shr),.val 0 true (VW.c w)] =
   some ⟨[(true,[.p (.int .i64 (codeD b w))] ++ (bkD b w).m (flD (codeD b w)) hr ++ [.p (.int .i64 (verD b w))])],[]⟩ :=by
 have h62 :=k87 w
 cases hwr:wrB w
 ·rw [hwr] at h62
  have e1:codeD b w = 2 :=by simp [codeD,hwr]
  have e2:bkD b w = b :=by simp [bkD,hwr]
  have e3:verD b w = 0 :=by simp [verD,hwr]
  rw [e1,e2,e3]
  refine ⟨_,⟨rowsH_shr _,fun _ =>rfl⟩,?_⟩
  refine eVi Try.func75 rfl ?_
  simp only [VW.c] at h62
  simp only [rA,seval,e75,e87,Try.f75,VBook.c,VBook.m,VW.c,flD,h62,List.cons_append,List.nil_append,List.map_nil]
 rw [hwr] at h62
 have h88 :=k88 b w hw hb0 hb1 hwr
 have h63 :=k70 b w.kind w.name (by omega)
 have e1:codeD b w = chC b w (fO b w) (fT b w) :=by simp [codeD,hwr]
 have e2:bkD b w = bookS b w (fO b w) (fT b w) :=by simp [bkD,hwr]
 have e3:verD b w = verI b w (fO b w) (fT b w) :=by simp [verD,hwr]
 rw [e1,e2,e3]
 have hol:b.objects.length≤4194304 :=by simp only [VBook.w,wSBookObject] at hw; omega
 have hlh:b.history.length + 1 < 4294967296 :=by simp only [VBook.w,wSBookChange] at hw; omega
 have hlh0:b.history.length < 4294967296 :=by omega
 by_cases hc:chC b w (fO b w) (fT b w) = 0
 ·have eb:bookS b w (fO b w) (fT b w) = bookC b (chG insS delS w (b.now + 1) (fO b w)) :=by simp [bookS,hc]
  have ev:verI b w (fO b w) (fT b w) = (chG insS delS w (b.now + 1) (fO b w)).version :=by simp [verI,hc,chG]
  have es:chS b w (fO b w) (fT b w) = chG insS delS w (b.now + 1) (fO b w) :=by simp [chS,hc]
  rw [eb,ev]
  have h88:EV Try.prog E 88 [.val 0 true (b.c .shr),.val 0 true (VW.c w)] = some ⟨[(true,(chS b w (fO b w) (fT b w)).c .own),(false,[.p (.int .i64 (chC b w (fO b w) (fT b w)))])],[]⟩ :=h88
  rw [es,hc] at h88
  rw [hc]
  generalize chG insS delS w (b.now + 1) (fO b w) = c at *
  have h89 :=k54 b.objects c hol
  obtain ⟨now,floor,objects,history,tickets⟩ :=b
  simp only [VBook.c,VW.c,VC.c] at h88 h89 h62
  simp only at hlh hlh0
  cases hmr:mineRows ((putR c.object c.gone objects).map (VO.c .shr))
  ·by_cases hl2:history.length < 200
   ·have hl3:¬ (200:Int) < (history.length:Int) + 1 :=by omega
    refine ⟨(history ++ [c]).map (VC.c .shr),⟨by simpa only [bookC,if_pos hl2] using rowsH_shr (history ++ [c]),fun h =>absurd rfl h⟩,?_⟩
    refine eVi Try.func75 rfl ?_
    simp only [rA,seval,e75,e87,e88,e54,Try.f75,VBook.c,VBook.m,VW.c,VC.c,flD,bookC,hmr,h62,h88,h89,hl2,hl3,hlh,hlh0,List.cons_append,List.nil_append,List.map_append,List.map_cons,List.map_nil,rowsShr,rowsShrC,rwS,len1,List.length_map,Nat.zero_add,LIM,nilObj]
   ·cases history with
    | nil =>exact absurd (show 0 < 200 by omega) hl2
    | cons c0 hr0 =>
     have hlk:hr0.length + 1 + 1 < 4294967296 :=by simpa using hlh
     have hlk0:hr0.length + 1 < 4294967296 :=by omega
     have hl4:(200:Int) < (hr0.length:Int) + 1 + 1 :=by simp only [List.length_cons] at hl2; omega
     have hl5:¬ (hr0.length + 1 < 200) :=by simpa using hl2
     have hrs :=rowsShrC (c0 :: hr0)
     simp only [List.map_cons,VC.c] at hrs h88
     refine ⟨(hr0 ++ [c]).map (VC.c .shr),⟨by simp only [bookC,if_neg hl2]; exact rowsH_shr (hr0 ++ [c]),fun h =>absurd rfl h⟩,?_⟩
     refine eVi Try.func75 rfl ?_
     simp only [rA,seval,e75,e87,e88,e54,Try.f75,VBook.c,VBook.m,VW.c,VC.c,flD,bookC,hmr,h62,h88,h89,hrs,hl4,hl5,hlk,hlk0,List.cons_append,List.nil_append,List.map_append,List.map_cons,List.map_nil,rowsShr,rowsShrC,rwS,len1,len2,List.length_map,List.length_cons,Nat.zero_add,LIM,nilObj,pos1,pos2,pos3,z2,z3,Nat.le_refl,Nat.add_sub_cancel,List.take_length,List.getElem?_cons_zero,List.drop_succ_cons,List.drop_zero,List.head?_cons,Option.map_some,Option.getD_some]
  ·by_cases hl2:history.length < 200
   ·have hl3:¬ (200:Int) < (history.length:Int) + 1 :=by omega
    refine ⟨history.map (VC.c .shr) ++ [c.c .own],⟨by simpa only [bookC,if_pos hl2] using rowsH_own history c,fun h =>absurd rfl h⟩,?_⟩
    refine eVi Try.func75 rfl ?_
    simp only [rA,seval,e75,e87,e88,e54,Try.f75,VBook.c,VBook.m,VW.c,VC.c,flD,bookC,hmr,h62,h88,h89,hl2,hl3,hlh,hlh0,List.cons_append,List.nil_append,List.map_append,List.map_cons,List.map_nil,rowsShr,rowsShrC,rwS,len1,List.length_map,Nat.zero_add,LIM,nilObj]
   ·cases history with
    | nil =>exact absurd (show 0 < 200 by omega) hl2
    | cons c0 hr0 =>
     have hlk:hr0.length + 1 + 1 < 4294967296 :=by simpa using hlh
     have hlk0:hr0.length + 1 < 4294967296 :=by omega
     have hl4:(200:Int) < (hr0.length:Int) + 1 + 1 :=by simp only [List.length_cons] at hl2; omega
     have hl5:¬ (hr0.length + 1 < 200) :=by simpa using hl2
     have hrs :=rowsShrC (c0 :: hr0)
     simp only [List.map_cons,VC.c] at hrs h88
     refine ⟨hr0.map (VC.c .shr) ++ [c.c .own],⟨by simp only [bookC,if_neg hl2]; exact rowsH_own hr0 c,fun h =>absurd rfl h⟩,?_⟩
     refine eVi Try.func75 rfl ?_
     simp only [rA,seval,e75,e87,e88,e54,Try.f75,VBook.c,VBook.m,VW.c,VC.c,flD,bookC,hmr,h62,h88,h89,hrs,hl4,hl5,hlk,hlk0,List.cons_append,List.nil_append,List.map_append,List.map_cons,List.map_nil,rowsShr,rowsShrC,rwS,len1,len2,List.length_map,List.length_cons,Nat.zero_add,LIM,nilObj,pos1,pos2,pos3,z2,z3,Nat.le_refl,Nat.add_sub_cancel,List.take_length,List.getElem?_cons_zero,List.drop_succ_cons,List.drop_zero,List.head?_cons,Option.map_some,Option.getD_some]
 ·have eb:bookS b w (fO b w) (fT b w) = b :=by simp [bookS,hc]
  have es:chS b w (fO b w) (fT b w) = nilChg :=by simp [chS,hc]
  have h88:EV Try.prog E 88 [.val 0 true (b.c .shr),.val 0 true (VW.c w)] = some ⟨[(true,(chS b w (fO b w) (fT b w)).c .own),(false,[.p (.int .i64 (chC b w (fO b w) (fT b w)))])],[]⟩ :=h88
  rw [es] at h88
  rw [eb]
  refine ⟨_,⟨rowsH_shr _,fun _ =>rfl⟩,?_⟩
  refine eVi Try.func75 rfl ?_
  by_cases h4:chC b w (fO b w) (fT b w) = 4
  ·have ev:verI b w (fO b w) (fT b w) = (fO b w).version :=by simp [verI,h4]
   rw [ev]
   rw [h4] at h88 ⊢
   have h63:EV Try.prog E 70 [.val 0 true (b.c .shr),.val 0 false [.p (.string w.kind)],.val 0 false [.p (.string w.name)]] = some ⟨[(true,(fO b w).c .own),(false,[.p (.bool (fT b w))])],[]⟩ :=h63
   generalize fO b w = o at *
   generalize fT b w = t at *
   simp only [VBook.c,VW.c,VC.c,VO.c,nilChg,nilObj,List.map_nil] at h88 h62 h63
   simp only [rA,seval,e75,e87,e88,e70,Try.f75,VBook.c,VBook.m,VW.c,VC.c,VO.c,nilObj,flD,h62,h88,h63,List.cons_append,List.nil_append,List.map_nil,rwS]
  ·have ev:verI b w (fO b w) (fT b w) = 0 :=by simp [verI,h4,hc]
   rw [ev]
   generalize chC b w (fO b w) (fT b w) = n at *
   simp only [VBook.c,VW.c,VC.c,VO.c,nilChg,nilObj,List.map_nil] at h88 h62
   simp only [rA,seval,e75,e87,e88,e70,Try.f75,VBook.c,VBook.m,VW.c,VC.c,VO.c,nilObj,flD,h62,h88,hc,h4,List.cons_append,List.nil_append,List.map_nil,rwS]
def BL:List ByteArray :=[⟨#[120]⟩,⟨#[103,111,110,101]⟩]
theorem BL_sz:∀ s ∈ BL,s.size≤6 :=by
 intro s hs
 simp only [BL,List.mem_cons,List.not_mem_nil,or_false] at hs
 rcases hs with rfl | rfl <;> decide
def berth:ByteArray :=⟨#[98,101,114,116,104]⟩
def nowH (n:Nat) (a:VBook × Fl × List (List C)):Prop :=DrB n a.1∧RowsH a.2.2 a.1.history∧((a.2.1 = .shr∧a.2.2 = a.1.history.map (VC.c .shr))∨a.2.1 = .own)
theorem SmO.want {o:VO} (h:SmO o):okWant ⟨o.kind,o.name,o.version⟩ :=by
 have h1 :=h.kind
 have h2 :=h.name
 have h3 :=h.v0
 have h4 :=h.v1
 exact ⟨by simp only; omega,by simp only; omega,by unfold okN; simp only; omega⟩
theorem do_ok {n:Nat} {y:VBook} {w:VW} (h:DrB n y) (hn:n≤1990) (hw:w.w≤1400):∃ (c v:Int) (z:VBook) (hr:List (List C)),
  (RowsH hr z.history∧(c ≠ 0→z = y∧hr = z.history.map (VC.c .shr))∧DrB (n + 1) z)∧EV Try.prog E 75 [.val 0 true (y.c .shr),.val 0 true (VW.c w)] = some ⟨[(true,[.p (.int .i64 c)] ++ z.m (flD c) hr ++ [.p (.int .i64 v)])],[]⟩ :=by
 have hyw :=h.w (by omega)
 obtain ⟨hr,⟨h1,h2⟩,h3⟩ :=k75 y w (by omega) h.lo h.hi
 refine ⟨codeD y w,verD y w,bkD y w,hr,⟨h1,fun hc =>⟨?_,h2 hc⟩,?_⟩,h3⟩
 ·unfold bkD
  unfold codeD at hc
  split
  ·rename_i hwr
   rw [if_pos hwr] at hc
   unfold bookS
   rw [if_neg hc]
  ·rfl
 ·unfold bkD
  split
  ·rename_i hwr
   by_cases h0:stepC y w = 0
   ·exact h.step hwr h0
   ·have e:bookS y w (fO y w) (fT y w) = y :=by unfold bookS; rw [if_neg h0]
    rw [e]
    exact h.mono (by omega)
  ·exact h.mono (by omega)
theorem k84 {bs:List Int} (hb:Bytes bs) (p0:Nat) (hp:p0≤900000) (b:VBook) {n0:Nat} (hg:DrB n0 b) (hn0:n0≤1900) :
  ∃ (x:VU) (p':Nat),(x.wants.length≤2∧x.writes.length≤4∧(∀ w ∈ x.wants,okWant w)∧∀ w ∈ x.writes,okWrite w)∧p0≤p'∧p'≤p0 + 200∧EV Try.prog E 84 [.box 0 0 (rdC bs p0),.val 0 true (b.c .shr)] = some ⟨[(true,VU.c .own x)],[rdC bs p']⟩ :=by
 have key:∃ r,EV Try.prog E 84 [.box 0 0 (rdC bs p0),.val 0 true (b.c .shr)] = some r∧∃ (x:VU) (p':Nat),(x.wants.length≤2∧x.writes.length≤4∧(∀ w ∈ x.wants,okWant w)∧∀ w ∈ x.writes,okWrite w)∧p0≤p'∧p'≤p0 + 200∧r = ⟨[(true,VU.c .own x)],[rdC bs p']⟩ :=by
  refine EV_introX Try.func84 rfl ?_
  have hol :=hg.ol
  obtain ⟨k0,⟨k0a,k0b⟩,h0⟩ :=k30 hb p0 (by omega) 3
  have ek0:k0 = (k0.toNat:Int) :=by omega
  rw [ek0] at h0
  have k0c:k0.toNat≤2 :=by omega
  generalize k0.toNat = m0 at *
  simp only [rdC] at h0
  simp only [rA,seval,e84,e30,Try.f84,VBook.c,rdC,h0]
  generalize hX:blockO _ _ (itω _ _ _) = X
  have hw:∃ o,X = some o∧∃ (ws:List VN) (p:Nat),(ws.length≤2∧(∀ w ∈ ws,okWant w)∧p0≤p∧p≤p0 + 40)∧o = .norm ⟨4,[(0,.box 0 0 (rdC bs p)),(3,.box 1 1 (b.c .shr)),(4,.box 2 2 (VU.c .own ⟨[],[]⟩)),(5,.box 3 3 (VU.c .own ⟨ws,[]⟩))]⟩ :=by
   refine while_ex hX (fun (q:Nat × Nat × List VN) =>⟨5,[(0,.box 0 0 (rdC bs q.2.1)),(3,.box 1 1 (b.c .shr)),(4,.box 2 2 (VU.c .own ⟨[],[]⟩)),(5,.box 3 3 (VU.c .own ⟨q.2.2,[]⟩)),(6,.val 4 false [.p (.int .i64 q.1)])]⟩)
    (fun q =>q.1 + q.2.2.length≤2∧p0≤q.2.1∧q.2.1 + 10 * q.1≤p0 + 30∧∀ w ∈ q.2.2,okWant w)
    (fun o =>∃ (ws:List VN) (p:Nat),(ws.length≤2∧(∀ w ∈ ws,okWant w)∧p0≤p∧p≤p0 + 40)∧o = .norm ⟨4,[(0,.box 0 0 (rdC bs p)),(3,.box 1 1 (b.c .shr)),(4,.box 2 2 (VU.c .own ⟨[],[]⟩)),(5,.box 3 3 (VU.c .own ⟨ws,[]⟩))]⟩)
    (fun q =>q.1) ?_ (i :=(m0,p0 + 1,[])) ⟨by simp only [List.length_nil]; omega,by simp only; omega,by simp only; omega,by simp⟩ (by simp only [rA,seval,e84,VU.c,VBook.c,rdC] <;> rfl)
   rintro ⟨m,p,ws⟩ ⟨g1,g2,g3,g4⟩
   simp only at g1 g2 g3 g4
   by_cases hm:0 < (m:Int)
   case neg =>
    right
    exact ⟨.norm ⟨4,[(0,.box 0 0 (rdC bs p)),(3,.box 1 1 (b.c .shr)),(4,.box 2 2 (VU.c .own ⟨[],[]⟩)),(5,.box 3 3 (VU.c .own ⟨ws,[]⟩))]⟩,by simp only [rA,seval,e84,VU.c,VBook.c,rdC,hm],ws,p,⟨by omega,g4,by omega,by omega⟩,rfl⟩
   obtain ⟨k1,⟨k1a,k1b⟩,h1⟩ :=k30 hb p (by omega) 2
   simp only [rdC] at h1
   by_cases z1:k1 = 0
   case neg =>
    right
    exact ⟨.norm ⟨4,[(0,.box 0 0 (rdC bs (p + 1))),(3,.box 1 1 (b.c .shr)),(4,.box 2 2 (VU.c .own ⟨[],[]⟩)),(5,.box 3 3 (VU.c .own ⟨ws,[]⟩))]⟩,by simp only [rA,seval,e84,e30,VU.c,VBook.c,rdC,hm,h1,z1],ws,p + 1,⟨by omega,g4,by omega,by omega⟩,rfl⟩
   left
   have wm :=wrap64 (n :=(m:Int) - 1) (by omega) (by omega)
   have em:((m - 1:Nat):Int) = (m:Int) - 1 :=by omega
   have hwl:ws.length + 1 < 4294967296 :=by omega
   obtain ⟨k2,⟨k2a,k2b⟩,h2⟩ :=k30 hb (p + 1) (by omega) 2
   have k2c:k2 < 2 :=by omega
   have k2n:k2.toNat < 2 :=by omega
   obtain ⟨nm,hnm,hr2⟩ :=pickL BL k2a (by simpa [BL] using k2c)
   have snm :=BL_sz nm hnm
   simp only [rdC] at h2
   simp only [BL,List.map_cons,List.map_nil,strC] at hr2
   have fw:∀ v:Int,0≤v→v≤20→okWant ⟨berth,nm,v⟩ :=fun v v0 v1 =>⟨(show berth.size≤2000 by decide),by simp only; omega,by unfold okN; simp only; omega⟩
   have fin:∀ {x:VN},okWant x→∀ w ∈ ws ++ [x],okWant w :=fun hx w hw =>(List.mem_append.1 hw).elim (g4 w) (fun h =>by simp at h; subst h; exact hx)
   by_cases hl0:0 < (b.objects.length:Int)
   case neg =>
    obtain ⟨k5,⟨k5a,k5b⟩,h5⟩ :=k30 hb (p + 1 + 1) (by omega) 5
    simp only [rdC] at h5
    by_cases z5:k5 = 0
    ·skip
     obtain ⟨k6,⟨k6a,k6b⟩,h6⟩ :=k30 hb (p + 1 + 1 + 1) (by omega) 9
     simp only [rdC] at h6
     refine ⟨(m - 1,p + 1 + 1 + 1 + 1,ws ++ [⟨berth,nm,k6⟩]),?_,⟨by simp only [List.length_append,List.length_cons,List.length_nil]; omega,by simp only; omega,by simp only; omega,fin (fw k6 (by omega) (by omega))⟩,by simp only; omega⟩
     simp only [rA,seval,e84,e30,VU.c,VBook.c,VO.c,VN.c,berth,rdC,rowsBookWant,rwS,List.length_map,List.map_append,List.map_cons,List.map_nil,LIM,hm,h1,z1,h2,hr2,k2a,k2c,k2n,wm,em,hwl,hl0,h5,z5,h6]
    ·skip
     refine ⟨(m - 1,p + 1 + 1 + 1,ws ++ [⟨berth,nm,0⟩]),?_,⟨by simp only [List.length_append,List.length_cons,List.length_nil]; omega,by simp only; omega,by simp only; omega,fin (fw 0 (by omega) (by omega))⟩,by simp only; omega⟩
     simp only [rA,seval,e84,e30,VU.c,VBook.c,VO.c,VN.c,berth,rdC,rowsBookWant,rwS,List.length_map,List.map_append,List.map_cons,List.map_nil,LIM,hm,h1,z1,h2,hr2,k2a,k2c,k2n,wm,em,hwl,hl0,h5,z5]
   obtain ⟨k3,⟨k3a,k3b⟩,h3⟩ :=k30 hb (p + 1 + 1) (by omega) 3
   simp only [rdC] at h3
   by_cases z3:0 < k3
   case neg =>
    obtain ⟨k5,⟨k5a,k5b⟩,h5⟩ :=k30 hb (p + 1 + 1 + 1) (by omega) 5
    simp only [rdC] at h5
    by_cases z5:k5 = 0
    ·skip
     obtain ⟨k6,⟨k6a,k6b⟩,h6⟩ :=k30 hb (p + 1 + 1 + 1 + 1) (by omega) 9
     simp only [rdC] at h6
     refine ⟨(m - 1,p + 1 + 1 + 1 + 1 + 1,ws ++ [⟨berth,nm,k6⟩]),?_,⟨by simp only [List.length_append,List.length_cons,List.length_nil]; omega,by simp only; omega,by simp only; omega,fin (fw k6 (by omega) (by omega))⟩,by simp only; omega⟩
     simp only [rA,seval,e84,e30,VU.c,VBook.c,VO.c,VN.c,berth,rdC,rowsBookWant,rwS,List.length_map,List.map_append,List.map_cons,List.map_nil,LIM,hm,h1,z1,h2,hr2,k2a,k2c,k2n,wm,em,hwl,hl0,h3,z3,h5,z5,h6]
    ·skip
     refine ⟨(m - 1,p + 1 + 1 + 1 + 1,ws ++ [⟨berth,nm,0⟩]),?_,⟨by simp only [List.length_append,List.length_cons,List.length_nil]; omega,by simp only; omega,by simp only; omega,fin (fw 0 (by omega) (by omega))⟩,by simp only; omega⟩
     simp only [rA,seval,e84,e30,VU.c,VBook.c,VO.c,VN.c,berth,rdC,rowsBookWant,rwS,List.length_map,List.map_append,List.map_cons,List.map_nil,LIM,hm,h1,z1,h2,hr2,k2a,k2c,k2n,wm,em,hwl,hl0,h3,z3,h5,z5]
   obtain ⟨ko,⟨koa,kob⟩,hko⟩ :=k30 hb (p + 1 + 1 + 1) (by omega) (b.objects.length:Int)
   simp only [rdC] at hko
   have koc:ko < (b.objects.length:Int) :=by omega
   have kon:ko.toNat < b.objects.length :=by omega
   obtain ⟨o,ho⟩:∃ o,b.objects[ko.toNat]? = some o :=⟨_,List.getElem?_eq_getElem kon⟩
   have hro :=getElem?_map_some (f :=VO.c .shr) ho
   simp only [VO.c] at hro
   have so :=hg.objs o (List.mem_of_getElem? ho)
   have fo:∀ v:Int,0≤v→v≤20→okWant ⟨o.kind,o.name,v⟩ :=fun v v0 v1 =>⟨so.want.1,so.want.2.1,by unfold okN; simp only; omega⟩
   obtain ⟨k5,⟨k5a,k5b⟩,h5⟩ :=k30 hb (p + 1 + 1 + 1 + 1) (by omega) 5
   simp only [rdC] at h5
   by_cases z5:k5 = 0
   ·skip
    obtain ⟨k6,⟨k6a,k6b⟩,h6⟩ :=k30 hb (p + 1 + 1 + 1 + 1 + 1) (by omega) 9
    simp only [rdC] at h6
    refine ⟨(m - 1,p + 1 + 1 + 1 + 1 + 1 + 1,ws ++ [⟨o.kind,o.name,k6⟩]),?_,⟨by simp only [List.length_append,List.length_cons,List.length_nil]; omega,by simp only; omega,by simp only; omega,fin (fo k6 (by omega) (by omega))⟩,by simp only; omega⟩
    simp only [rA,seval,e84,e30,VU.c,VBook.c,VO.c,VN.c,berth,rdC,rowsBookWant,rwS,List.length_map,List.map_append,List.map_cons,List.map_nil,LIM,hm,h1,z1,h2,hr2,k2a,k2c,k2n,wm,em,hwl,hl0,h3,z3,hko,koa,koc,kon,hro,h5,z5,h6]
   ·skip
    refine ⟨(m - 1,p + 1 + 1 + 1 + 1 + 1,ws ++ [⟨o.kind,o.name,o.version⟩]),?_,⟨by simp only [List.length_append,List.length_cons,List.length_nil]; omega,by simp only; omega,by simp only; omega,fin so.want⟩,by simp only; omega⟩
    simp only [rA,seval,e84,e30,VU.c,VBook.c,VO.c,VN.c,berth,rdC,rowsBookWant,rwS,List.length_map,List.map_append,List.map_cons,List.map_nil,LIM,hm,h1,z1,h2,hr2,k2a,k2c,k2n,wm,em,hwl,hl0,h3,z3,hko,koa,koc,kon,hro,h5,z5]
  obtain ⟨o,ho,ws,p1,⟨w1,w2,w3,w4⟩,rfl⟩ :=hw
  rw [ho]
  obtain ⟨k7,⟨k7a,k7b⟩,h7⟩ :=k30 hb p1 (by omega) 4
  have ek7:k7 = ((k7.toNat + 1:Nat):Int) - 1 :=by omega
  rw [ek7] at h7
  have k7c:k7.toNat + 1≤4 :=by omega
  generalize k7.toNat + 1 = m7 at *
  simp only [rdC] at h7
  clear ho hX X
  simp only [rA,seval,e84,e30,VBook.c,VU.c,rdC,h7]
  generalize hX:blockO _ _ (itω _ _ _) = X
  have hw:∃ o,X = some o∧∃ (rs:List VW) (p:Nat),(rs.length≤4∧(∀ w ∈ rs,okWrite w)∧p0≤p∧p≤p0 + 200)∧o = .norm ⟨3,[(0,.box 0 0 (rdC bs p)),(4,.box 1 1 (VU.c .own ⟨[],[]⟩)),(5,.box 2 2 (VU.c .own ⟨ws,rs⟩))]⟩ :=by
   refine while_ex hX (fun (q:Nat × Nat × List VW × (VBook × Fl × List (List C))) =>⟨5,[(0,.box 0 0 (rdC bs q.2.1)),(4,.box 1 1 (VU.c .own ⟨[],[]⟩)),(5,.box 2 2 (VU.c .own ⟨ws,q.2.2.1⟩)),(9,.box 3 3 (q.2.2.2.1.m q.2.2.2.2.1 q.2.2.2.2.2)),(10,.val 4 false [.p (.int .i64 ((q.1:Int) - 1))])]⟩)
    (fun q =>q.1 + q.2.2.1.length≤4∧q.1≤4∧p0≤q.2.1∧q.2.1 + 20 * q.1≤p0 + 150∧(∀ w ∈ q.2.2.1,okWrite w)∧nowH (n0 + 4 - q.1) q.2.2.2)
    (fun o =>∃ (rs:List VW) (p:Nat),(rs.length≤4∧(∀ w ∈ rs,okWrite w)∧p0≤p∧p≤p0 + 200)∧o = .norm ⟨3,[(0,.box 0 0 (rdC bs p)),(4,.box 1 1 (VU.c .own ⟨[],[]⟩)),(5,.box 2 2 (VU.c .own ⟨ws,rs⟩))]⟩)
    (fun q =>q.1) ?_ (i :=(m7,p1 + 1,[],(b,.shr,b.history.map (VC.c .shr)))) ⟨by simp only [List.length_nil]; omega,by simp only; omega,by simp only; omega,by simp only; omega,by simp,hg.mono (by simp only; omega),rowsH_shr _,.inl ⟨rfl,rfl⟩⟩ (by simp only [rA,seval,e84,VU.c,VBook.c,VBook.m,rdC])
   rintro ⟨m,p,rs,⟨y,fl,hr⟩⟩ ⟨g1,g1b,g2,g3,g4,g5,g6,g7⟩
   simp only at g1 g1b g2 g3 g4 g5 g6 g7
   by_cases hm:0≤(m:Int) - 1
   case neg =>
    right
    have hm2:¬ (0≤(m:Int) - 1) :=hm
    exact ⟨.norm ⟨3,[(0,.box 0 0 (rdC bs p)),(4,.box 1 1 (VU.c .own ⟨[],[]⟩)),(5,.box 2 2 (VU.c .own ⟨ws,rs⟩))]⟩,by simp only [rA,seval,e84,VU.c,VBook.m,rdC,hm2],rs,p,⟨by omega,g4,by omega,by omega⟩,rfl⟩
   left
   have hol2 :=g5.ol
   have wm :=wrap64 (n :=(m:Int) - 1 - 1) (by omega) (by omega)
   have em:((m - 1:Nat):Int) - 1 = (m:Int) - 1 - 1 :=by omega
   have hrl:rs.length + 1 < 4294967296 :=by omega
   obtain ⟨w,p2,hww,⟨⟨wo0,wo1⟩,ws0,ws1⟩,hp1,hp2,h76⟩ :=k76 hb p (by omega) y (by omega) (M :=1000) (fun o ho =>⟨(g5.objs o ho).w,by have :=(g5.objs o ho).holds; omega,(g5.objs o ho).v0,by have :=(g5.objs o ho).v1; omega⟩)
   obtain ⟨c,v,z,hz,⟨d1,d2,d3⟩,h75⟩ :=do_ok g5 (w :=w) (by omega) (by omega)
   have okw:okWrite w :=by
    unfold VW.w at hww
    exact ⟨⟨wo0,wo1⟩,by omega,by omega,⟨ws0,ws1⟩,by omega,by omega⟩
   have fin:∀ u ∈ rs ++ [w],okWrite u :=fun u hu =>(List.mem_append.1 hu).elim (g4 u) (fun h =>by simp at h; subst h; exact okw)
   have en:n0 + 4 - m + 1 = n0 + 4 - (m - 1) :=by omega
   rw [en] at d3
   have hb1 :=g6.bor
   have hb2 :=g6.whole
   have hc1 :=d1.bor
   have hc2 :=d1.whole
   simp only [VBook.c,VBook.m,VW.c,rdC] at h76 h75
   by_cases hc:c = 0
   ·subst hc
    simp only [flD] at h75
    rcases g7 with ⟨rfl,rfl⟩ | rfl
    ·skip
     refine ⟨(m - 1,p2,rs ++ [w],(z,.own,hz)),?_,⟨by simp only [List.length_append,List.length_cons,List.length_nil]; omega,by simp only; omega,by simp only; omega,by simp only; omega,fin,⟨d3,d1,.inr rfl⟩⟩,by simp only; omega⟩
     simp only [rA,seval,e84,e30,e75,e76,VU.c,VBook.c,VBook.m,VW.c,rdC,hm,wm,em,hrl,h75,h76,hb1,hb2,hc1,hc2,rowsShr,rowsShrC,rowsBookWant,rowsBookWrite,rwT,rwS,List.length_map,List.map_append,List.map_cons,List.map_nil,List.cons_append,List.nil_append,LIM]
    ·skip
     refine ⟨(m - 1,p2,rs ++ [w],(z,.own,hz)),?_,⟨by simp only [List.length_append,List.length_cons,List.length_nil]; omega,by simp only; omega,by simp only; omega,by simp only; omega,fin,⟨d3,d1,.inr rfl⟩⟩,by simp only; omega⟩
     simp only [rA,seval,e84,e30,e75,e76,VU.c,VBook.c,VBook.m,VW.c,rdC,hm,wm,em,hrl,h75,h76,hb1,hb2,hc1,hc2,rowsShr,rowsShrC,rowsBookWant,rowsBookWrite,rwT,rwS,List.length_map,List.map_append,List.map_cons,List.map_nil,List.cons_append,List.nil_append,LIM]
   ·obtain ⟨e1,e2⟩ :=d2 hc
    subst e1
    subst e2
    simp only [flD,hc] at h75
    obtain ⟨k8,⟨k8a,k8b⟩,h8⟩ :=k30 hb p2 (by omega) 3
    simp only [rdC] at h8
    by_cases z8:k8 = 0
    ·rcases g7 with ⟨rfl,rfl⟩ | rfl
     ·skip
      refine ⟨(m - 1,p2 + 1,rs ++ [w],(z,.shr,z.history.map (VC.c .shr))),?_,⟨by simp only [List.length_append,List.length_cons,List.length_nil]; omega,by simp only; omega,by simp only; omega,by simp only; omega,fin,⟨d3,rowsH_shr _,.inl ⟨rfl,rfl⟩⟩⟩,by simp only; omega⟩
      simp only [rA,seval,e84,e30,e75,e76,VU.c,VBook.c,VBook.m,VW.c,rdC,hm,wm,em,hrl,h75,h76,hb1,hb2,hc1,hc2,rowsShr,rowsShrC,rowsBookWant,rowsBookWrite,rwT,rwS,List.length_map,List.map_append,List.map_cons,List.map_nil,List.cons_append,List.nil_append,LIM,hc,h8,z8]
     ·skip
      refine ⟨(m - 1,p2 + 1,rs ++ [w],(z,.shr,z.history.map (VC.c .shr))),?_,⟨by simp only [List.length_append,List.length_cons,List.length_nil]; omega,by simp only; omega,by simp only; omega,by simp only; omega,fin,⟨d3,rowsH_shr _,.inl ⟨rfl,rfl⟩⟩⟩,by simp only; omega⟩
      simp only [rA,seval,e84,e30,e75,e76,VU.c,VBook.c,VBook.m,VW.c,rdC,hm,wm,em,hrl,h75,h76,hb1,hb2,hc1,hc2,rowsShr,rowsShrC,rowsBookWant,rowsBookWrite,rwT,rwS,List.length_map,List.map_append,List.map_cons,List.map_nil,List.cons_append,List.nil_append,LIM,hc,h8,z8]
    ·rcases g7 with ⟨rfl,rfl⟩ | rfl
     ·skip
      refine ⟨(m - 1,p2 + 1,rs,(z,.shr,z.history.map (VC.c .shr))),?_,⟨by simp only [List.length_append,List.length_cons,List.length_nil]; omega,by simp only; omega,by simp only; omega,by simp only; omega,g4,⟨d3,rowsH_shr _,.inl ⟨rfl,rfl⟩⟩⟩,by simp only; omega⟩
      simp only [rA,seval,e84,e30,e75,e76,VU.c,VBook.c,VBook.m,VW.c,rdC,hm,wm,em,hrl,h75,h76,hb1,hb2,hc1,hc2,rowsShr,rowsShrC,rowsBookWant,rowsBookWrite,rwT,rwS,List.length_map,List.map_append,List.map_cons,List.map_nil,List.cons_append,List.nil_append,LIM,hc,h8,z8]
     ·skip
      refine ⟨(m - 1,p2 + 1,rs,(z,.shr,z.history.map (VC.c .shr))),?_,⟨by simp only [List.length_append,List.length_cons,List.length_nil]; omega,by simp only; omega,by simp only; omega,by simp only; omega,g4,⟨d3,rowsH_shr _,.inl ⟨rfl,rfl⟩⟩⟩,by simp only; omega⟩
      simp only [rA,seval,e84,e30,e75,e76,VU.c,VBook.c,VBook.m,VW.c,rdC,hm,wm,em,hrl,h75,h76,hb1,hb2,hc1,hc2,rowsShr,rowsShrC,rowsBookWant,rowsBookWrite,rwT,rwS,List.length_map,List.map_append,List.map_cons,List.map_nil,List.cons_append,List.nil_append,LIM,hc,h8,z8]
  obtain ⟨o,ho,rs,p2,⟨r1,r2,r3,r4⟩,rfl⟩ :=hw
  rw [ho]
  simp only [rA,seval,e84,VU.c,rdC,rowsBookWant,rowsBookWrite]
  exact ⟨_,rfl,⟨ws,rs⟩,p2,⟨w1,r1,w2,r2⟩,r3,r4,by simp only [VU.c,rdC]⟩
 obtain ⟨r,e1,x,p',h1,h2,h3,rfl⟩ :=key
 exact ⟨x,p',h1,h2,h3,e1⟩
theorem chC_b (b:VBook) (w:VW) (o:VO) (t:Bool):0≤chC b w o t∧chC b w o t≤100 :=by
 unfold chC
 repeat (split; · decide)
 decide
theorem do_ok2 {n:Nat} {y:VBook} {w:VW} (h:DrB n y) (hn:n≤1990) (hw:w.w≤20000):∃ (c v:Int) (z:VBook) (hr:List (List C)),
  (RowsH hr z.history∧(c ≠ 0→z = y∧hr = z.history.map (VC.c .shr))∧DrB (n + 1) z∧(0≤c∧c≤100)∧0≤v∧v≤1000000)∧EV Try.prog E 75 [.val 0 true (y.c .shr),.val 0 true (VW.c w)] = some ⟨[(true,[.p (.int .i64 c)] ++ z.m (flD c) hr ++ [.p (.int .i64 v)])],[]⟩ :=by
 have hyw :=h.w (by omega)
 obtain ⟨hr,⟨h1,h2⟩,h3⟩ :=k75 y w (by omega) h.lo h.hi
 refine ⟨codeD y w,verD y w,bkD y w,hr,⟨h1,fun hc =>⟨?_,h2 hc⟩,?_,?_,?_⟩,h3⟩
 ·unfold bkD
  unfold codeD at hc
  split
  ·rename_i hwr
   rw [if_pos hwr] at hc
   unfold bookS
   rw [if_neg hc]
  ·rfl
 ·unfold bkD
  split
  ·rename_i hwr
   by_cases h0:stepC y w = 0
   ·exact h.step hwr h0
   ·have e:bookS y w (fO y w) (fT y w) = y :=by unfold bookS; rw [if_neg h0]
    rw [e]
    exact h.mono (by omega)
  ·exact h.mono (by omega)
 ·unfold codeD
  split
  ·exact chC_b _ _ _ _
  ·decide
 ·have so :=find_sm h.objs w.kind w.name
  have s0 :=so.v0
  have s1 :=so.v1
  have hlo :=h.lo
  unfold verD
  split
  ·unfold verI
   split
   ·exact ⟨s0,s1⟩
   ·split
    ·rename_i h0
     have :=chC_now h0
     omega
    ·decide
  ·decide
def R90 (c v:Int) (j:Nat) (z:VBook) (fl:Fl) (hr:List (List C)):Res :=⟨[(true,[.p (.int .i64 c)] ++ z.m fl hr ++ [.p (.int .i64 v)]),(false,[.p (.int .i64 (j:Nat))])],[]⟩
def Post90 (n:Nat) (r:Res):Prop :=∃ (c v:Int) (j:Nat) (z:VBook) (fl:Fl) (hr:List (List C)),(nowH n (z,fl,hr)∧(0≤c∧c≤100)∧0≤v∧v≤1000000)∧r = R90 c v j z fl hr
theorem post_b {n m:Nat} {b:VBook} (h:DrB n b) (hn:n≤m) {c:Int} (c0:0≤c) (c1:c≤100) (j:Nat):Post90 m ⟨[(true,VDi.c .shr ⟨c,b,0⟩),(false,[.p (.int .i64 (j:Nat))])],[]⟩ :=
 ⟨c,0,j,b,.shr,_,⟨⟨h.mono hn,rowsH_shr _,.inl ⟨rfl,rfl⟩⟩,⟨c0,c1⟩,by decide,by decide⟩,rfl⟩
def zB:VBook :=⟨0,0,[],[],[]⟩
def N90 (b:VBook) (x:VU):O :=.norm ⟨3,[(2,.box 0 0 (b.c .shr)),(3,.box 1 1 (x.c .shr)),(4,.box 2 2 (VDi.c .own ⟨0,zB,0⟩))]⟩
def T90 (c:Int) (b:VBook) (j:Nat):O :=.ret ⟨[(true,VDi.c .shr ⟨c,b,0⟩),(false,[.p (.int .i64 (j:Nat))])],[]⟩
theorem k90 (b:VBook) (x:VU) {n:Nat} (hb:DrB n b) (hn:n≤1900) (hx1:x.wants.length≤4194304) (hx2:x.writes.length≤10∨10 < x.writes.length) (hx3:x.writes.length≤4194304) (hR:∀ w ∈ x.writes,okWrite w) :
  ∃ r,EV Try.prog E 90 [.val 0 true (b.c .shr),.val 0 true (VU.c .shr x)] = some r∧Post90 (n + 10) r :=by
 refine EV_introX Try.func90 rfl ?_
 have hbw :=hb.w (by omega)
 have ret2 :=post_b hb (m :=n + 10) (by omega) (c :=2) (by decide) (by decide) 0
 by_cases d1:(10:Int) < (x.wants.length:Int)
 ·simp only [rA,seval,e90,Try.f90,VBook.c,VDi.c,VU.c,d1]
  exact ⟨_,rfl,ret2⟩
 by_cases d2:(10:Int) < (x.writes.length:Int)
 ·simp only [rA,seval,e90,Try.f90,VBook.c,VDi.c,VU.c,d1,d2]
  exact ⟨_,rfl,ret2⟩
 simp only [rA,seval,e90,Try.f90,VBook.c,VDi.c,VU.c,d1,d2]
 generalize hX:blockO _ _ (itω _ _ _) = X
 have hw:∃ o,X = some o∧(o = N90 b x∨o = T90 2 b 0) :=by
  refine while_ex hX (fun i =>⟨4,[(2,.box 0 0 (b.c .shr)),(3,.box 1 1 (x.c .shr)),(4,.box 2 2 (VDi.c .own ⟨0,zB,0⟩)),(6,.val 3 false [.p (.int .i64 (i:Nat))])]⟩) (fun i =>i≤x.wants.length) _ (fun i =>x.wants.length - i) ?_ (i :=0) (Nat.zero_le _) (by simp only [rA,seval,e90,VU.c,VBook.c,VDi.c,zB] <;> rfl)
  intro i g
  by_cases hlt:(i:Int) < (x.wants.length:Int)
  case neg =>right; exact ⟨N90 b x,by simp only [N90,rA,seval,e90,VU.c,VBook.c,VDi.c,zB,hlt,List.length_map],.inl rfl⟩
  obtain ⟨y,hi⟩:∃ y,x.wants[i]? = some y :=⟨_,List.getElem?_eq_getElem (by omega)⟩
  have hr :=getElem?_map_some (f :=VN.c) hi
  have hwi :=wrap64 (n :=(i:Int) + 1) (by omega) (by omega)
  have hi0:(0:Int)≤(i:Int) :=by omega
  have h1 :=k71 y.kind
  have h2 :=k71 y.name
  simp only [VN.c] at hr
  cases c3:nameB y.kind
  ·right
   exact ⟨T90 2 b 0,by simp only [T90,c0n,rA,seval,e90,e71,VU.c,VBook.c,VDi.c,zB,hlt,hr,hwi,hi0,h1,h2,c3,List.length_map],.inr rfl⟩
  cases c4:nameB y.name
  ·right
   exact ⟨T90 2 b 0,by simp only [T90,c0n,rA,seval,e90,e71,VU.c,VBook.c,VDi.c,zB,hlt,hr,hwi,hi0,h1,h2,c3,c4,List.length_map],.inr rfl⟩
  by_cases d5:y.version < 0
  ·right
   exact ⟨T90 2 b 0,by simp only [T90,c0n,rA,seval,e90,e71,VU.c,VBook.c,VDi.c,zB,hlt,hr,hwi,hi0,h1,h2,c3,c4,d5,List.length_map],.inr rfl⟩
  ·left
   refine ⟨i + 1,?_,by omega,by omega⟩
   simp only [rA,seval,e90,e71,VU.c,VBook.c,VDi.c,zB,hlt,hr,hwi,hi0,h1,h2,c3,c4,d5,i64c,List.length_map]
 obtain ⟨o,ho,rfl | rfl⟩ :=hw
 case inr =>
  rw [ho]
  simp only [T90,rA,seval,e90]
  exact ⟨_,rfl,ret2⟩
 rw [ho]
 clear ho hX X
 simp only [N90,rA,seval,e90,VU.c,VBook.c,VDi.c,zB]
 generalize hX:blockO _ _ (itω _ _ _) = X
 have hw:∃ o,X = some o∧(o = N90 b x∨o = T90 2 b 0) :=by
  refine while_ex hX (fun i =>⟨4,[(2,.box 0 0 (b.c .shr)),(3,.box 1 1 (x.c .shr)),(4,.box 2 2 (VDi.c .own ⟨0,zB,0⟩)),(7,.val 3 false [.p (.int .i64 (i:Nat))])]⟩) (fun i =>i≤x.writes.length) _ (fun i =>x.writes.length - i) ?_ (i :=0) (Nat.zero_le _) (by simp only [rA,seval,e90,VU.c,VBook.c,VDi.c,zB] <;> rfl)
  intro i g
  by_cases hlt:(i:Int) < (x.writes.length:Int)
  case neg =>right; exact ⟨N90 b x,by simp only [N90,rA,seval,e90,VU.c,VBook.c,VDi.c,zB,hlt,List.length_map],.inl rfl⟩
  obtain ⟨y,hi⟩:∃ y,x.writes[i]? = some y :=⟨_,List.getElem?_eq_getElem (by omega)⟩
  have hr :=getElem?_map_some (f :=VW.c) hi
  have hwi :=wrap64 (n :=(i:Int) + 1) (by omega) (by omega)
  have hi0:(0:Int)≤(i:Int) :=by omega
  have hk :=k87 y
  simp only [VW.c] at hr hk
  cases d:wrB y
  ·right
   exact ⟨T90 2 b 0,by simp only [T90,c0n,rA,seval,e90,e87,VU.c,VBook.c,VDi.c,zB,hlt,hr,hwi,hi0,hk,d,List.length_map],.inr rfl⟩
  ·left
   refine ⟨i + 1,?_,by omega,by omega⟩
   simp only [rA,seval,e90,e87,VU.c,VBook.c,VDi.c,zB,hlt,hr,hwi,hi0,hk,d,i64c,List.length_map]
 obtain ⟨o,ho,rfl | rfl⟩ :=hw
 case inr =>
  rw [ho]
  simp only [T90,rA,seval,e90]
  exact ⟨_,rfl,ret2⟩
 rw [ho]
 clear ho hX X
 simp only [N90,rA,seval,e90,VU.c,VBook.c,VDi.c,zB]
 generalize hX:blockO _ _ (itω _ _ _) = X
 have hw:∃ o,X = some o∧(o = N90 b x∨∃ j:Nat,o = T90 9 b j) :=by
  refine while_ex hX (fun i =>⟨4,[(2,.box 0 0 (b.c .shr)),(3,.box 1 1 (x.c .shr)),(4,.box 2 2 (VDi.c .own ⟨0,zB,0⟩)),(8,.val 3 false [.p (.int .i64 (i:Nat))])]⟩) (fun i =>i≤x.wants.length) _ (fun i =>x.wants.length - i) ?_ (i :=0) (Nat.zero_le _) (by simp only [rA,seval,e90,VU.c,VBook.c,VDi.c,zB] <;> rfl)
  intro i g
  by_cases hlt:(i:Int) < (x.wants.length:Int)
  case neg =>right; exact ⟨N90 b x,by simp only [N90,rA,seval,e90,VU.c,VBook.c,VDi.c,zB,hlt,List.length_map],.inl rfl⟩
  obtain ⟨y,hi⟩:∃ y,x.wants[i]? = some y :=⟨_,List.getElem?_eq_getElem (by omega)⟩
  have hr :=getElem?_map_some (f :=VN.c) hi
  have hwi :=wrap64 (n :=(i:Int) + 1) (by omega) (by omega)
  have hi0:(0:Int)≤(i:Int) :=by omega
  have h63 :=k70 b y.kind y.name (by omega)
  generalize bfind b.objects y.kind y.name = p at *
  obtain ⟨⟨ok,on,ov,ob,ot,oe,oh⟩,pt⟩ :=p
  simp only [VBook.c,VO.c,VN.c] at h63 hr
  by_cases hv:ov = y.version
  ·left
   refine ⟨i + 1,?_,by omega,by omega⟩
   simp only [rA,seval,e90,e70,VBook.c,VU.c,VDi.c,VO.c,zB,hv,hlt,hr,hwi,hi0,h63,rwS,i64c,List.length_map]
  ·right
   refine ⟨T90 9 b i,?_,.inr ⟨i,rfl⟩⟩
   simp only [T90,rA,seval,e90,e70,VBook.c,VU.c,VDi.c,VO.c,zB,hv,hlt,hr,hwi,hi0,h63,rwS,i64c,List.length_map]
 obtain ⟨o,ho,rfl | ⟨j,rfl⟩⟩ :=hw
 case inr =>
  rw [ho]
  simp only [T90,rA,seval,e90]
  exact ⟨_,rfl,post_b hb (m :=n + 10) (by omega) (c :=9) (by decide) (by decide) j⟩
 rw [ho]
 clear ho hX X
 simp only [N90,rA,seval,e90,VU.c,VBook.c,VDi.c,zB]
 generalize hX:blockO _ _ (itω _ _ _) = X
 have d3:¬ (10:Int) < (x.writes.length:Int) :=d2
 have hw:∃ o,X = some o∧((∃ a:VBook × Fl × List (List C),nowH (n + 10) a∧o = .norm ⟨2,[(4,.box 0 0 (VDi.c .own ⟨0,zB,0⟩)),(11,.box 1 1 (a.1.m a.2.1 a.2.2))]⟩)∨∃ (c:Int) (j:Nat),(0≤c∧c≤100)∧o = T90 c b j) :=by
  refine while_ex hX (fun (q:Nat × VBook × Fl × List (List C)) =>⟨5,[(2,.box 0 0 (b.c .shr)),(3,.box 1 1 (x.c .shr)),(4,.box 2 2 (VDi.c .own ⟨0,zB,0⟩)),(11,.box 3 3 (q.2.1.m q.2.2.1 q.2.2.2)),(12,.val 4 false [.p (.int .i64 q.1)])]⟩)
   (fun q =>q.1≤x.writes.length∧nowH (n + q.1) q.2) _ (fun q =>x.writes.length - q.1) ?_ (i :=(0,b,.shr,b.history.map (VC.c .shr))) ⟨Nat.zero_le _,hb,rowsH_shr _,.inl ⟨rfl,rfl⟩⟩ (by simp only [rA,seval,e90,VU.c,VBook.c,VBook.m,VDi.c,zB] <;> rfl)
  rintro ⟨i,y,fl,hr⟩ ⟨g1,g5,g6,g7⟩
  simp only at g1 g5 g6 g7
  have hb1 :=g6.bor
  have hb2 :=g6.whole
  by_cases hlt:(i:Int) < (x.writes.length:Int)
  case neg =>
   right
   refine ⟨_,?_,.inl ⟨(y,fl,hr),⟨g5.mono (by omega),g6,g7⟩,rfl⟩⟩
   simp only [rA,seval,e90,VU.c,VBook.c,VBook.m,VDi.c,zB,hlt,List.length_map]
  obtain ⟨w,hi⟩:∃ w,x.writes[i]? = some w :=⟨_,List.getElem?_eq_getElem (by omega)⟩
  have hrw :=getElem?_map_some (f :=VW.c) hi
  have hwi :=wrap64 (n :=(i:Int) + 1) (by omega) (by omega)
  have hi0:(0:Int)≤(i:Int) :=by omega
  have okw :=hR w (List.mem_of_getElem? hi)
  obtain ⟨c,v,z,hz,⟨e1,e2,e3,e4,e5⟩,h75⟩ :=do_ok2 g5 (w :=w) (by omega) (by
   obtain ⟨_,a1,a2,_,a3,a4⟩ :=okw
   unfold VW.w
   omega)
  have hc1 :=e1.bor
  have hc2 :=e1.whole
  simp only [VBook.c,VBook.m,VW.c] at h75 hrw
  by_cases h0:c = 0
  ·left
   subst h0
   refine ⟨(i + 1,z,.own,hz),?_,⟨by simp only; omega,e3,e1,.inr rfl⟩,by simp only; omega⟩
   simp only [flD] at h75
   rcases g7 with ⟨rfl,rfl⟩ | rfl
   ·simp only [rA,seval,e90,e75,VBook.c,VBook.m,VU.c,VDi.c,zB,hlt,hrw,hwi,hi0,h75,hb1,hb2,hc1,hc2,i64c,List.length_map,List.cons_append,List.nil_append,rowsShr,rowsShrC,rwS,rwT]
   ·simp only [rA,seval,e90,e75,VBook.c,VBook.m,VU.c,VDi.c,zB,hlt,hrw,hwi,hi0,h75,hb1,hb2,hc1,hc2,i64c,List.length_map,List.cons_append,List.nil_append,rowsShr,rowsShrC,rwS,rwT]
  ·right
   obtain ⟨q1,q2⟩ :=e2 h0
   subst q1
   subst q2
   simp only [flD,h0] at h75
   refine ⟨T90 c b i,?_,.inr ⟨c,i,e4,rfl⟩⟩
   rcases g7 with ⟨rfl,rfl⟩ | rfl
   ·simp only [T90,rA,seval,e90,e75,VBook.c,VBook.m,VU.c,VDi.c,zB,hlt,hrw,hwi,hi0,h0,h75,hb1,hb2,i64c,List.length_map,List.cons_append,List.nil_append,rowsShr,rowsShrC,rwS,rwT]
   ·simp only [T90,rA,seval,e90,e75,VBook.c,VBook.m,VU.c,VDi.c,zB,hlt,hrw,hwi,hi0,h0,h75,hb1,hb2,i64c,List.length_map,List.cons_append,List.nil_append,rowsShr,rowsShrC,rwS,rwT]
 obtain ⟨o,ho,⟨⟨y,fl,hr⟩,⟨g5,g6,g7⟩,rfl⟩ | ⟨c,j,hc,rfl⟩⟩ :=hw
 case inr =>
  rw [ho]
  simp only [T90,rA,seval,e90]
  exact ⟨_,rfl,post_b hb (m :=n + 10) (by omega) hc.1 hc.2 j⟩
 rw [ho]
 have hb2 :=g6.whole
 simp only at g5 g6 g7 hb2
 have fin:Post90 (n + 10) (R90 0 y.now 0 y fl hr) :=⟨0,y.now,0,y,fl,hr,⟨⟨g5,g6,g7⟩,by decide,g5.lo,g5.hi⟩,rfl⟩
 rcases g7 with ⟨rfl,rfl⟩ | rfl
 ·simp only [rA,seval,e90,VBook.c,VBook.m,VDi.c,zB,hb2,List.cons_append,List.nil_append,rowsShr,rowsShrC,rwS,rwT]
  exact ⟨_,rfl,fin⟩
 ·simp only [rA,seval,e90,VBook.c,VBook.m,VDi.c,zB,hb2,List.cons_append,List.nil_append,rowsShr,rowsShrC,rwS,rwT]
  exact ⟨_,rfl,fin⟩
def bkR (z:VBook) (fl ft:Fl) (hr:List (List C)):List C :=[.p (.int .i64 z.now),.p (.int .i64 z.floor),.sl fl 7 (z.objects.map (VO.c .shr)),.sl fl 9 hr,.sl ft 5 (z.tickets.map VT.c)]
def Post83 (n:Nat) (r:Res):Prop :=∃ (z:VBook) (fl ft:Fl) (hr:List (List C)) (s:VSa),(nowH n (z,fl,hr)∧(ft = .shr∨ft = .own))∧r = ⟨[(true,bkR z fl ft hr),(true,VSa.c s)],[]⟩
theorem post83_b {n m:Nat} {b:VBook} (h:DrB n b) (hn:n≤m) (s:VSa):Post83 m ⟨[(true,b.c .shr),(true,VSa.c s)],[]⟩ :=
 ⟨b,.shr,.shr,_,s,⟨⟨h.mono hn,rowsH_shr _,.inl ⟨rfl,rfl⟩⟩,.inl rfl⟩,rfl⟩
theorem k83 (b:VBook) (q:VCa) {n:Nat} (hb:DrB n b) (hn:n≤1900) (hx1:q.bundle.wants.length≤100) (hx2:q.bundle.writes.length≤100) (hW:∀ w ∈ q.bundle.wants,okWant w) (hR:∀ w ∈ q.bundle.writes,okWrite w) :
  ∃ r,EV Try.prog E 83 [.val 0 true (b.c .shr),.val 0 true (VCa.c .shr q)] = some r∧Post83 (n + 10) r :=by
 refine EV_introX Try.func83 rfl ?_
 have h71 :=k71 q.client
 have h39 :=k39 q.number 1 1000000
 obtain ⟨r,h90,c,v,j,z,fl,hr,⟨⟨g5,g6,g7⟩,hc,hv⟩,rfl⟩ :=k90 b q.bundle hb hn (by omega) (by omega) (by omega) hR
 obtain ⟨u,hu,h91⟩ :=k91 q.bundle hx1 hx2 hW hR
 have htl :=hb.tl
 simp only at g5 g6 g7
 simp only [R90,VBook.c,VBook.m,VU.c] at h90 h91
 have ret:∀ s:VSa,Post83 (n + 10) ⟨[(true,b.c .shr),(true,VSa.c s)],[]⟩ :=fun s =>post83_b hb (by omega) s
 simp only [VBook.c,VSa.c] at ret
 cases c1:nameB q.client
 ·rw [c1] at h71
  simp only [rA,seval,e83,e71,e39,Try.f83,VBook.c,VCa.c,h71]
  exact ⟨_,rfl,ret ⟨1,0,false⟩⟩
 rw [c1] at h71
 cases c2:inR q.number 1 1000000
 ·rw [c2] at h39
  simp only [rA,seval,e83,e71,e39,Try.f83,VBook.c,VCa.c,h71,h39]
  exact ⟨_,rfl,ret ⟨1,0,false⟩⟩
 rw [c2] at h39
 have hcl :=name_sz c1
 have hnum:1≤q.number∧q.number≤1000000 :=by simpa [inR] using c2
 have hb2 :=g6.whole
 by_cases c3:c = 2
 ·subst c3
  rcases g7 with ⟨rfl,rfl⟩ | rfl
  ·simp only [rA,seval,e83,e71,e39,e90,Try.f83,VBook.c,VCa.c,h71,h39,h90,List.cons_append,List.nil_append,rowsShr,rowsShrC,rwS,rwT]
   exact ⟨_,rfl,ret ⟨2,0,false⟩⟩
  ·simp only [rA,seval,e83,e71,e39,e90,Try.f83,VBook.c,VCa.c,h71,h39,h90,hb2,List.cons_append,List.nil_append,rowsShr,rowsShrC,rwS,rwT]
   exact ⟨_,rfl,ret ⟨2,0,false⟩⟩
 rcases g7 with ⟨rfl,rfl⟩ | rfl
 ·skip
  simp only [rA,seval,e83,e71,e39,e90,Try.f83,VBook.c,VCa.c,h71,h39,h90,c3,List.cons_append,List.nil_append,rowsShr,rowsShrC,rwS,rwT]
  generalize hX:blockO _ _ (itω _ _ _) = X
  have hw:∃ o,X = some o∧∃ k:Nat,k≤b.tickets.length∧o = .norm ⟨6,[(2,.box 0 0 (b.c .shr)),(3,.box 1 1 (VCa.c .shr q)),(4,.box 2 2 (VBook.c .own zB)),(5,.box 3 3 (VSa.c ⟨0,0,false⟩)),(6,.box 4 4 ([.p (.int .i64 c)] ++ z.m .shr (z.history.map (VC.c .shr)) ++ [.p (.int .i64 v)])),(8,.val 5 false [.p (.int .i64 k)])]⟩ :=by
   refine while_ex hX (fun k:Nat =>⟨6,[(2,.box 0 0 (b.c .shr)),(3,.box 1 1 (VCa.c .shr q)),(4,.box 2 2 (VBook.c .own zB)),(5,.box 3 3 (VSa.c ⟨0,0,false⟩)),(6,.box 4 4 ([.p (.int .i64 c)] ++ z.m .shr (z.history.map (VC.c .shr)) ++ [.p (.int .i64 v)])),(8,.val 5 false [.p (.int .i64 k)])]⟩) (fun k =>k≤b.tickets.length) _ (fun k =>b.tickets.length - k) ?_ (i :=0) (Nat.zero_le _) (by simp only [rA,seval,e83,VCa.c,VSa.c,VBook.c,VBook.m,zB,List.cons_append,List.nil_append] <;> rfl)
   intro k g
   by_cases hlt:(k:Int) < (b.tickets.length:Int)
   case neg =>
    right
    refine ⟨_,?_,k,g,rfl⟩
    simp only [rA,seval,e83,VCa.c,VSa.c,VBook.c,VBook.m,zB,hlt,List.length_map,List.cons_append,List.nil_append]
   obtain ⟨y,hi⟩:∃ y,b.tickets[k]? = some y :=⟨_,List.getElem?_eq_getElem (by omega)⟩
   have hry :=getElem?_map_some (f :=VT.c) hi
   have hwi :=wrap64 (n :=(k:Int) + 1) (by omega) (by omega)
   have hi0:(0:Int)≤(k:Int) :=by omega
   simp only [VT.c] at hry
   cases hlc:Op.bytesLess y.client.toList q.client.toList
   ·right
    refine ⟨_,?_,k,g,rfl⟩
    simp only [rA,seval,e83,VCa.c,VSa.c,VBook.c,VBook.m,zB,hlt,hry,hi0,hlc,List.length_map,List.cons_append,List.nil_append]
   ·left
    refine ⟨k + 1,?_,by omega,by omega⟩
    simp only [rA,seval,e83,VCa.c,VSa.c,VBook.c,VBook.m,zB,hlt,hry,hi0,hlc,hwi,i64c,List.length_map,List.cons_append,List.nil_append]
  obtain ⟨o,ho,k,hk,rfl⟩ :=hw
  rw [ho]
  clear ho hX X
  have hk0:(0:Int)≤(k:Int) :=by omega
  have hkl:(k:Int)≤(b.tickets.length:Int) :=by omega
  by_cases hlt:(k:Int) < (b.tickets.length:Int)
  case neg =>
   by_cases h50:(50:Int)≤(b.tickets.length:Int)
   ·skip
    simp only [rA,seval,e83,e91,VCa.c,VSa.c,VBook.c,VBook.m,zB,h91,List.length_map,List.cons_append,List.nil_append,rowsShr,rowsShrC,rwS,rwT,hlt,h50]
    exact ⟨_,rfl,ret ⟨6,0,false⟩⟩
   ·skip
    have st:SmT ⟨q.client,q.number,u,c,v⟩ :=⟨hcl,by simp only; omega,by simp only; omega,by simp only; omega,hc.1,hc.2,hv.1,hv.2⟩
    have hTD:List.take (b.tickets.length - k) (List.drop k b.tickets) = List.drop k b.tickets :=List.take_of_length_le (by simp)
    have hL1:min k b.tickets.length < 4294967296 :=by omega
    have hL0:0 + min k b.tickets.length < 4294967296 :=by omega
    have hL2:min k b.tickets.length + 1 < 4294967296 :=by omega
    have hL3:min k b.tickets.length + 1 + (b.tickets.length - k) < 4294967296 :=by omega
    have tk:∀ t ∈ b.tickets.take k ++ [⟨q.client,q.number,u,c,v⟩] ++ b.tickets.drop k,SmT t :=by
     intro t ht
     rcases List.mem_append.1 ht with ht | ht
     ·rcases List.mem_append.1 ht with ht | ht
      ·exact hb.tick t (List.mem_of_mem_take ht)
      ·simp at ht; subst ht; exact st
     ·exact hb.tick t (List.mem_of_mem_drop ht)
    have tkl:(b.tickets.take k ++ [(⟨q.client,q.number,u,c,v⟩:VT)] ++ b.tickets.drop k).length≤50 :=by
     simp only [List.length_append,List.length_take,List.length_drop,List.length_cons,List.length_nil]
     omega
    have g5x:DrB (n + 10) ⟨z.now,z.floor,z.objects,z.history,b.tickets.take k ++ [⟨q.client,q.number,u,c,v⟩] ++ b.tickets.drop k⟩ :={ g5 with tick :=tk,tl :=tkl }
    have fin:Post83 (n + 10) ⟨[(true,bkR ⟨z.now,z.floor,z.objects,z.history,b.tickets.take k ++ [⟨q.client,q.number,u,c,v⟩] ++ b.tickets.drop k⟩ .shr .own (z.history.map (VC.c .shr))),(true,VSa.c ⟨c,v,false⟩)],[]⟩ :=⟨_,.shr,.own,_,⟨c,v,false⟩,⟨⟨g5x,rowsH_shr _,.inl ⟨rfl,rfl⟩⟩,.inr rfl⟩,rfl⟩
    simp only [bkR,VSa.c,VT.c,List.map_append,List.map_cons,List.map_nil] at fin
    simp only [rA,seval,e83,e91,VCa.c,VSa.c,VBook.c,VBook.m,zB,h91,List.length_map,List.cons_append,List.nil_append,rowsShr,rowsShrC,rwS,rwT,hlt,h50,bkR,VT.c,hk0,hkl,hk,hTD,hL0,hL1,hL2,hL3,Nat.sub_zero,Nat.zero_le,Nat.zero_add,Nat.le_refl,List.drop_zero,Int.toNat_natCast,List.length_append,List.length_cons,List.length_nil,List.length_take,List.length_drop,List.map_append,List.map_cons,List.map_nil,← List.map_take,← List.map_drop,LIM]
    exact ⟨_,rfl,fin⟩
  obtain ⟨y,hi⟩:∃ y,b.tickets[k]? = some y :=⟨_,List.getElem?_eq_getElem (by omega)⟩
  have hry :=getElem?_map_some (f :=VT.c) hi
  simp only [VT.c] at hry
  by_cases hcc:y.client = q.client
  case neg =>
   by_cases h50:(50:Int)≤(b.tickets.length:Int)
   ·skip
    simp only [rA,seval,e83,e91,VCa.c,VSa.c,VBook.c,VBook.m,zB,h91,List.length_map,List.cons_append,List.nil_append,rowsShr,rowsShrC,rwS,rwT,hlt,hry,hk0,hcc,h50]
    exact ⟨_,rfl,ret ⟨6,0,false⟩⟩
   ·skip
    have st:SmT ⟨q.client,q.number,u,c,v⟩ :=⟨hcl,by simp only; omega,by simp only; omega,by simp only; omega,hc.1,hc.2,hv.1,hv.2⟩
    have hTD:List.take (b.tickets.length - k) (List.drop k b.tickets) = List.drop k b.tickets :=List.take_of_length_le (by simp)
    have hL1:min k b.tickets.length < 4294967296 :=by omega
    have hL0:0 + min k b.tickets.length < 4294967296 :=by omega
    have hL2:min k b.tickets.length + 1 < 4294967296 :=by omega
    have hL3:min k b.tickets.length + 1 + (b.tickets.length - k) < 4294967296 :=by omega
    have tk:∀ t ∈ b.tickets.take k ++ [⟨q.client,q.number,u,c,v⟩] ++ b.tickets.drop k,SmT t :=by
     intro t ht
     rcases List.mem_append.1 ht with ht | ht
     ·rcases List.mem_append.1 ht with ht | ht
      ·exact hb.tick t (List.mem_of_mem_take ht)
      ·simp at ht; subst ht; exact st
     ·exact hb.tick t (List.mem_of_mem_drop ht)
    have tkl:(b.tickets.take k ++ [(⟨q.client,q.number,u,c,v⟩:VT)] ++ b.tickets.drop k).length≤50 :=by
     simp only [List.length_append,List.length_take,List.length_drop,List.length_cons,List.length_nil]
     omega
    have g5x:DrB (n + 10) ⟨z.now,z.floor,z.objects,z.history,b.tickets.take k ++ [⟨q.client,q.number,u,c,v⟩] ++ b.tickets.drop k⟩ :={ g5 with tick :=tk,tl :=tkl }
    have fin:Post83 (n + 10) ⟨[(true,bkR ⟨z.now,z.floor,z.objects,z.history,b.tickets.take k ++ [⟨q.client,q.number,u,c,v⟩] ++ b.tickets.drop k⟩ .shr .own (z.history.map (VC.c .shr))),(true,VSa.c ⟨c,v,false⟩)],[]⟩ :=⟨_,.shr,.own,_,⟨c,v,false⟩,⟨⟨g5x,rowsH_shr _,.inl ⟨rfl,rfl⟩⟩,.inr rfl⟩,rfl⟩
    simp only [bkR,VSa.c,VT.c,List.map_append,List.map_cons,List.map_nil] at fin
    simp only [rA,seval,e83,e91,VCa.c,VSa.c,VBook.c,VBook.m,zB,h91,List.length_map,List.cons_append,List.nil_append,rowsShr,rowsShrC,rwS,rwT,hlt,hry,hk0,hcc,h50,bkR,VT.c,hk0,hkl,hk,hTD,hL0,hL1,hL2,hL3,Nat.sub_zero,Nat.zero_le,Nat.zero_add,Nat.le_refl,List.drop_zero,Int.toNat_natCast,List.length_append,List.length_cons,List.length_nil,List.length_take,List.length_drop,List.map_append,List.map_cons,List.map_nil,← List.map_take,← List.map_drop,LIM]
    exact ⟨_,rfl,fin⟩
  by_cases n1:q.number < y.number
  ·simp only [rA,seval,e83,e91,VCa.c,VSa.c,VBook.c,VBook.m,zB,h91,List.length_map,List.cons_append,List.nil_append,rowsShr,rowsShrC,rwS,rwT,hlt,hry,hk0,hcc,n1]
   exact ⟨_,rfl,ret ⟨8,0,false⟩⟩
  by_cases n2:y.number = q.number
  ·by_cases n3:y.print = u
   ·simp only [rA,seval,e83,e91,VCa.c,VSa.c,VBook.c,VBook.m,zB,h91,List.length_map,List.cons_append,List.nil_append,rowsShr,rowsShrC,rwS,rwT,hlt,hry,hk0,hcc,n1,n2,n3]
    exact ⟨_,rfl,ret ⟨y.code,y.version,true⟩⟩
   ·simp only [rA,seval,e83,e91,VCa.c,VSa.c,VBook.c,VBook.m,zB,h91,List.length_map,List.cons_append,List.nil_append,rowsShr,rowsShrC,rwS,rwT,hlt,hry,hk0,hcc,n1,n2,n3]
    exact ⟨_,rfl,ret ⟨7,0,false⟩⟩
  have st:SmT ⟨q.client,q.number,u,c,v⟩ :=⟨hcl,by simp only; omega,by simp only; omega,by simp only; omega,hc.1,hc.2,hv.1,hv.2⟩
  have hTD:List.take (b.tickets.length - k) (List.drop k b.tickets) = List.drop k b.tickets :=List.take_of_length_le (by simp)
  have hTE:List.take (b.tickets.length - k - 1) (List.drop 1 (List.drop k b.tickets)) = List.drop 1 (List.drop k b.tickets) :=List.take_of_length_le (by simp only [List.length_drop]; omega)
  have hk2:1≤b.tickets.length - k :=by omega
  have hT1:Int.toNat 1 = 1 :=rfl
  have hL1:min k b.tickets.length < 4294967296 :=by omega
  have hL0:0 + min k b.tickets.length < 4294967296 :=by omega
  have hL2:min k b.tickets.length + 1 < 4294967296 :=by omega
  have hL3:min k b.tickets.length + 1 + (b.tickets.length - k - 1) < 4294967296 :=by omega
  have tk:∀ t ∈ b.tickets.take k ++ [⟨q.client,q.number,u,c,v⟩] ++ (b.tickets.drop k).drop 1,SmT t :=by
   intro t ht
   rcases List.mem_append.1 ht with ht | ht
   ·rcases List.mem_append.1 ht with ht | ht
    ·exact hb.tick t (List.mem_of_mem_take ht)
    ·simp at ht; subst ht; exact st
   ·exact hb.tick t (List.mem_of_mem_drop (List.mem_of_mem_drop ht))
  have tkl:(b.tickets.take k ++ [(⟨q.client,q.number,u,c,v⟩:VT)] ++ (b.tickets.drop k).drop 1).length≤50 :=by
   simp only [List.length_append,List.length_take,List.length_drop,List.length_cons,List.length_nil]
   omega
  have g5x:DrB (n + 10) ⟨z.now,z.floor,z.objects,z.history,b.tickets.take k ++ [⟨q.client,q.number,u,c,v⟩] ++ (b.tickets.drop k).drop 1⟩ :={ g5 with tick :=tk,tl :=tkl }
  have fin:Post83 (n + 10) ⟨[(true,bkR ⟨z.now,z.floor,z.objects,z.history,b.tickets.take k ++ [⟨q.client,q.number,u,c,v⟩] ++ (b.tickets.drop k).drop 1⟩ .shr .own (z.history.map (VC.c .shr))),(true,VSa.c ⟨c,v,false⟩)],[]⟩ :=⟨_,.shr,.own,_,⟨c,v,false⟩,⟨⟨g5x,rowsH_shr _,.inl ⟨rfl,rfl⟩⟩,.inr rfl⟩,rfl⟩
  simp only [bkR,VSa.c,VT.c,List.map_append,List.map_cons,List.map_nil] at fin
  simp only [rA,seval,e83,e91,VCa.c,VSa.c,VBook.c,VBook.m,zB,h91,List.length_map,List.cons_append,List.nil_append,rowsShr,rowsShrC,rwS,rwT,hlt,hry,hcc,n1,n2,bkR,VT.c,hk0,hkl,hk,hTD,hTE,hk2,hT1,hL0,hL1,hL2,hL3,Nat.sub_zero,Nat.zero_le,Nat.zero_add,Nat.le_refl,List.drop_zero,Int.toNat_natCast,List.length_append,List.length_cons,List.length_nil,List.length_take,List.length_drop,List.map_append,List.map_cons,List.map_nil,← List.map_take,← List.map_drop,LIM]
  exact ⟨_,rfl,fin⟩
 ·skip
  simp only [rA,seval,e83,e71,e39,e90,Try.f83,VBook.c,VCa.c,h71,h39,h90,c3,hb2,List.cons_append,List.nil_append,rowsShr,rowsShrC,rwS,rwT]
  generalize hX:blockO _ _ (itω _ _ _) = X
  have hw:∃ o,X = some o∧∃ k:Nat,k≤b.tickets.length∧o = .norm ⟨6,[(2,.box 0 0 (b.c .shr)),(3,.box 1 1 (VCa.c .shr q)),(4,.box 2 2 (VBook.c .own zB)),(5,.box 3 3 (VSa.c ⟨0,0,false⟩)),(6,.box 4 4 ([.p (.int .i64 c)] ++ z.m .own hr ++ [.p (.int .i64 v)])),(8,.val 5 false [.p (.int .i64 k)])]⟩ :=by
   refine while_ex hX (fun k:Nat =>⟨6,[(2,.box 0 0 (b.c .shr)),(3,.box 1 1 (VCa.c .shr q)),(4,.box 2 2 (VBook.c .own zB)),(5,.box 3 3 (VSa.c ⟨0,0,false⟩)),(6,.box 4 4 ([.p (.int .i64 c)] ++ z.m .own hr ++ [.p (.int .i64 v)])),(8,.val 5 false [.p (.int .i64 k)])]⟩) (fun k =>k≤b.tickets.length) _ (fun k =>b.tickets.length - k) ?_ (i :=0) (Nat.zero_le _) (by simp only [rA,seval,e83,VCa.c,VSa.c,VBook.c,VBook.m,zB,List.cons_append,List.nil_append] <;> rfl)
   intro k g
   by_cases hlt:(k:Int) < (b.tickets.length:Int)
   case neg =>
    right
    refine ⟨_,?_,k,g,rfl⟩
    simp only [rA,seval,e83,VCa.c,VSa.c,VBook.c,VBook.m,zB,hlt,List.length_map,List.cons_append,List.nil_append]
   obtain ⟨y,hi⟩:∃ y,b.tickets[k]? = some y :=⟨_,List.getElem?_eq_getElem (by omega)⟩
   have hry :=getElem?_map_some (f :=VT.c) hi
   have hwi :=wrap64 (n :=(k:Int) + 1) (by omega) (by omega)
   have hi0:(0:Int)≤(k:Int) :=by omega
   simp only [VT.c] at hry
   cases hlc:Op.bytesLess y.client.toList q.client.toList
   ·right
    refine ⟨_,?_,k,g,rfl⟩
    simp only [rA,seval,e83,VCa.c,VSa.c,VBook.c,VBook.m,zB,hlt,hry,hi0,hlc,List.length_map,List.cons_append,List.nil_append]
   ·left
    refine ⟨k + 1,?_,by omega,by omega⟩
    simp only [rA,seval,e83,VCa.c,VSa.c,VBook.c,VBook.m,zB,hlt,hry,hi0,hlc,hwi,i64c,List.length_map,List.cons_append,List.nil_append]
  obtain ⟨o,ho,k,hk,rfl⟩ :=hw
  rw [ho]
  clear ho hX X
  have hk0:(0:Int)≤(k:Int) :=by omega
  have hkl:(k:Int)≤(b.tickets.length:Int) :=by omega
  by_cases hlt:(k:Int) < (b.tickets.length:Int)
  case neg =>
   by_cases h50:(50:Int)≤(b.tickets.length:Int)
   ·skip
    simp only [rA,seval,e83,e91,VCa.c,VSa.c,VBook.c,VBook.m,zB,h91,hb2,List.length_map,List.cons_append,List.nil_append,rowsShr,rowsShrC,rwS,rwT,hlt,h50]
    exact ⟨_,rfl,ret ⟨6,0,false⟩⟩
   ·skip
    have st:SmT ⟨q.client,q.number,u,c,v⟩ :=⟨hcl,by simp only; omega,by simp only; omega,by simp only; omega,hc.1,hc.2,hv.1,hv.2⟩
    have hTD:List.take (b.tickets.length - k) (List.drop k b.tickets) = List.drop k b.tickets :=List.take_of_length_le (by simp)
    have hL1:min k b.tickets.length < 4294967296 :=by omega
    have hL0:0 + min k b.tickets.length < 4294967296 :=by omega
    have hL2:min k b.tickets.length + 1 < 4294967296 :=by omega
    have hL3:min k b.tickets.length + 1 + (b.tickets.length - k) < 4294967296 :=by omega
    have tk:∀ t ∈ b.tickets.take k ++ [⟨q.client,q.number,u,c,v⟩] ++ b.tickets.drop k,SmT t :=by
     intro t ht
     rcases List.mem_append.1 ht with ht | ht
     ·rcases List.mem_append.1 ht with ht | ht
      ·exact hb.tick t (List.mem_of_mem_take ht)
      ·simp at ht; subst ht; exact st
     ·exact hb.tick t (List.mem_of_mem_drop ht)
    have tkl:(b.tickets.take k ++ [(⟨q.client,q.number,u,c,v⟩:VT)] ++ b.tickets.drop k).length≤50 :=by
     simp only [List.length_append,List.length_take,List.length_drop,List.length_cons,List.length_nil]
     omega
    have g5x:DrB (n + 10) ⟨z.now,z.floor,z.objects,z.history,b.tickets.take k ++ [⟨q.client,q.number,u,c,v⟩] ++ b.tickets.drop k⟩ :={ g5 with tick :=tk,tl :=tkl }
    have fin:Post83 (n + 10) ⟨[(true,bkR ⟨z.now,z.floor,z.objects,z.history,b.tickets.take k ++ [⟨q.client,q.number,u,c,v⟩] ++ b.tickets.drop k⟩ .own .own hr),(true,VSa.c ⟨c,v,false⟩)],[]⟩ :=⟨_,.own,.own,_,⟨c,v,false⟩,⟨⟨g5x,g6,.inr rfl⟩,.inr rfl⟩,rfl⟩
    simp only [bkR,VSa.c,VT.c,List.map_append,List.map_cons,List.map_nil] at fin
    simp only [rA,seval,e83,e91,VCa.c,VSa.c,VBook.c,VBook.m,zB,h91,hb2,List.length_map,List.cons_append,List.nil_append,rowsShr,rowsShrC,rwS,rwT,hlt,h50,bkR,VT.c,hk0,hkl,hk,hTD,hL0,hL1,hL2,hL3,Nat.sub_zero,Nat.zero_le,Nat.zero_add,Nat.le_refl,List.drop_zero,Int.toNat_natCast,List.length_append,List.length_cons,List.length_nil,List.length_take,List.length_drop,List.map_append,List.map_cons,List.map_nil,← List.map_take,← List.map_drop,LIM]
    exact ⟨_,rfl,fin⟩
  obtain ⟨y,hi⟩:∃ y,b.tickets[k]? = some y :=⟨_,List.getElem?_eq_getElem (by omega)⟩
  have hry :=getElem?_map_some (f :=VT.c) hi
  simp only [VT.c] at hry
  by_cases hcc:y.client = q.client
  case neg =>
   by_cases h50:(50:Int)≤(b.tickets.length:Int)
   ·skip
    simp only [rA,seval,e83,e91,VCa.c,VSa.c,VBook.c,VBook.m,zB,h91,hb2,List.length_map,List.cons_append,List.nil_append,rowsShr,rowsShrC,rwS,rwT,hlt,hry,hk0,hcc,h50]
    exact ⟨_,rfl,ret ⟨6,0,false⟩⟩
   ·skip
    have st:SmT ⟨q.client,q.number,u,c,v⟩ :=⟨hcl,by simp only; omega,by simp only; omega,by simp only; omega,hc.1,hc.2,hv.1,hv.2⟩
    have hTD:List.take (b.tickets.length - k) (List.drop k b.tickets) = List.drop k b.tickets :=List.take_of_length_le (by simp)
    have hL1:min k b.tickets.length < 4294967296 :=by omega
    have hL0:0 + min k b.tickets.length < 4294967296 :=by omega
    have hL2:min k b.tickets.length + 1 < 4294967296 :=by omega
    have hL3:min k b.tickets.length + 1 + (b.tickets.length - k) < 4294967296 :=by omega
    have tk:∀ t ∈ b.tickets.take k ++ [⟨q.client,q.number,u,c,v⟩] ++ b.tickets.drop k,SmT t :=by
     intro t ht
     rcases List.mem_append.1 ht with ht | ht
     ·rcases List.mem_append.1 ht with ht | ht
      ·exact hb.tick t (List.mem_of_mem_take ht)
      ·simp at ht; subst ht; exact st
     ·exact hb.tick t (List.mem_of_mem_drop ht)
    have tkl:(b.tickets.take k ++ [(⟨q.client,q.number,u,c,v⟩:VT)] ++ b.tickets.drop k).length≤50 :=by
     simp only [List.length_append,List.length_take,List.length_drop,List.length_cons,List.length_nil]
     omega
    have g5x:DrB (n + 10) ⟨z.now,z.floor,z.objects,z.history,b.tickets.take k ++ [⟨q.client,q.number,u,c,v⟩] ++ b.tickets.drop k⟩ :={ g5 with tick :=tk,tl :=tkl }
    have fin:Post83 (n + 10) ⟨[(true,bkR ⟨z.now,z.floor,z.objects,z.history,b.tickets.take k ++ [⟨q.client,q.number,u,c,v⟩] ++ b.tickets.drop k⟩ .own .own hr),(true,VSa.c ⟨c,v,false⟩)],[]⟩ :=⟨_,.own,.own,_,⟨c,v,false⟩,⟨⟨g5x,g6,.inr rfl⟩,.inr rfl⟩,rfl⟩
    simp only [bkR,VSa.c,VT.c,List.map_append,List.map_cons,List.map_nil] at fin
    simp only [rA,seval,e83,e91,VCa.c,VSa.c,VBook.c,VBook.m,zB,h91,hb2,List.length_map,List.cons_append,List.nil_append,rowsShr,rowsShrC,rwS,rwT,hlt,hry,hk0,hcc,h50,bkR,VT.c,hk0,hkl,hk,hTD,hL0,hL1,hL2,hL3,Nat.sub_zero,Nat.zero_le,Nat.zero_add,Nat.le_refl,List.drop_zero,Int.toNat_natCast,List.length_append,List.length_cons,List.length_nil,List.length_take,List.length_drop,List.map_append,List.map_cons,List.map_nil,← List.map_take,← List.map_drop,LIM]
    exact ⟨_,rfl,fin⟩
  by_cases n1:q.number < y.number
  ·simp only [rA,seval,e83,e91,VCa.c,VSa.c,VBook.c,VBook.m,zB,h91,hb2,List.length_map,List.cons_append,List.nil_append,rowsShr,rowsShrC,rwS,rwT,hlt,hry,hk0,hcc,n1]
   exact ⟨_,rfl,ret ⟨8,0,false⟩⟩
  by_cases n2:y.number = q.number
  ·by_cases n3:y.print = u
   ·simp only [rA,seval,e83,e91,VCa.c,VSa.c,VBook.c,VBook.m,zB,h91,hb2,List.length_map,List.cons_append,List.nil_append,rowsShr,rowsShrC,rwS,rwT,hlt,hry,hk0,hcc,n1,n2,n3]
    exact ⟨_,rfl,ret ⟨y.code,y.version,true⟩⟩
   ·simp only [rA,seval,e83,e91,VCa.c,VSa.c,VBook.c,VBook.m,zB,h91,hb2,List.length_map,List.cons_append,List.nil_append,rowsShr,rowsShrC,rwS,rwT,hlt,hry,hk0,hcc,n1,n2,n3]
    exact ⟨_,rfl,ret ⟨7,0,false⟩⟩
  have st:SmT ⟨q.client,q.number,u,c,v⟩ :=⟨hcl,by simp only; omega,by simp only; omega,by simp only; omega,hc.1,hc.2,hv.1,hv.2⟩
  have hTD:List.take (b.tickets.length - k) (List.drop k b.tickets) = List.drop k b.tickets :=List.take_of_length_le (by simp)
  have hTE:List.take (b.tickets.length - k - 1) (List.drop 1 (List.drop k b.tickets)) = List.drop 1 (List.drop k b.tickets) :=List.take_of_length_le (by simp only [List.length_drop]; omega)
  have hk2:1≤b.tickets.length - k :=by omega
  have hT1:Int.toNat 1 = 1 :=rfl
  have hL1:min k b.tickets.length < 4294967296 :=by omega
  have hL0:0 + min k b.tickets.length < 4294967296 :=by omega
  have hL2:min k b.tickets.length + 1 < 4294967296 :=by omega
  have hL3:min k b.tickets.length + 1 + (b.tickets.length - k - 1) < 4294967296 :=by omega
  have tk:∀ t ∈ b.tickets.take k ++ [⟨q.client,q.number,u,c,v⟩] ++ (b.tickets.drop k).drop 1,SmT t :=by
   intro t ht
   rcases List.mem_append.1 ht with ht | ht
   ·rcases List.mem_append.1 ht with ht | ht
    ·exact hb.tick t (List.mem_of_mem_take ht)
    ·simp at ht; subst ht; exact st
   ·exact hb.tick t (List.mem_of_mem_drop (List.mem_of_mem_drop ht))
  have tkl:(b.tickets.take k ++ [(⟨q.client,q.number,u,c,v⟩:VT)] ++ (b.tickets.drop k).drop 1).length≤50 :=by
   simp only [List.length_append,List.length_take,List.length_drop,List.length_cons,List.length_nil]
   omega
  have g5x:DrB (n + 10) ⟨z.now,z.floor,z.objects,z.history,b.tickets.take k ++ [⟨q.client,q.number,u,c,v⟩] ++ (b.tickets.drop k).drop 1⟩ :={ g5 with tick :=tk,tl :=tkl }
  have fin:Post83 (n + 10) ⟨[(true,bkR ⟨z.now,z.floor,z.objects,z.history,b.tickets.take k ++ [⟨q.client,q.number,u,c,v⟩] ++ (b.tickets.drop k).drop 1⟩ .own .own hr),(true,VSa.c ⟨c,v,false⟩)],[]⟩ :=⟨_,.own,.own,_,⟨c,v,false⟩,⟨⟨g5x,g6,.inr rfl⟩,.inr rfl⟩,rfl⟩
  simp only [bkR,VSa.c,VT.c,List.map_append,List.map_cons,List.map_nil] at fin
  simp only [rA,seval,e83,e91,VCa.c,VSa.c,VBook.c,VBook.m,zB,h91,hb2,List.length_map,List.cons_append,List.nil_append,rowsShr,rowsShrC,rwS,rwT,hlt,hry,hcc,n1,n2,bkR,VT.c,hk0,hkl,hk,hTD,hTE,hk2,hT1,hL0,hL1,hL2,hL3,Nat.sub_zero,Nat.zero_le,Nat.zero_add,Nat.le_refl,List.drop_zero,Int.toNat_natCast,List.length_append,List.length_cons,List.length_nil,List.length_take,List.length_drop,List.map_append,List.map_cons,List.map_nil,← List.map_take,← List.map_drop,LIM]
  exact ⟨_,rfl,fin⟩
end Go.Proofs.Ytgekblcbdhjmfaa
