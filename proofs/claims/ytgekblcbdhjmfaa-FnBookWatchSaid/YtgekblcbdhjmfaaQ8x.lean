/- A watch goes on in steps (plain). -/
import Derived.Test.YtgekblcbdhjmfaaQ6
import Derived.Test.YtgekblcbdhjmfaaQ5
import Derived.Test.YtgekblcbdhjmfaaN13m
namespace Go.Proofs.Ytgekblcbdhjmfaa
open Go.Sx
set_option maxRecDepth 100000
set_option maxHeartbeats 16000000
set_option linter.unusedVariables false
set_option linter.unusedSimpArgs false
theorem nxt_stop (w:VWa) (most:Int):∀ (l acc:List VC),(acc.length:Int)≤most →
  (nxt w most l acc = (acc ++ l.filter (passB w),none)∧((acc ++ l.filter (passB w)).length:Int)≤most) ∨
  ∃ j,j≤l.length∧nxt w most l acc = (acc ++ (l.take j).filter (passB w),some (lastV (acc ++ (l.take j).filter (passB w))))∧((acc ++ (l.take j).filter (passB w)).length:Int) = most∧(j = 0∨∃ c,l[j - 1]? = some c∧passB w c = true)
 | [],acc,h =>.inl ⟨by simp [nxt],by simpa using h⟩
 | c :: r,acc,h =>by
  rw [nxt]
  by_cases hp:passB w c = true
  ·rw [if_pos hp]
   by_cases hm:(acc.length:Int) = most
   ·rw [if_pos hm]
    exact .inr ⟨0,Nat.zero_le _,by simp,by simpa using hm,.inl rfl⟩
   ·rw [if_neg hm]
    have e:acc ++ (c :: r).filter (passB w) = acc ++ [c] ++ r.filter (passB w) :=by rw [List.filter_cons,if_pos hp]; simp
    rcases nxt_stop w most r (acc ++ [c]) (by simp; omega) with ⟨h1,h2⟩ | ⟨j,h1,h2,h3,h4⟩
    ·rw [e]; exact .inl ⟨h1,h2⟩
    ·right
     have e2:acc ++ ((c :: r).take (j + 1)).filter (passB w) = acc ++ [c] ++ (r.take j).filter (passB w) :=by rw [List.take_succ_cons,List.filter_cons,if_pos hp]; simp
     refine ⟨j + 1,by simp; omega,by rw [e2]; exact h2,by rw [e2]; exact h3,.inr ?_⟩
     rcases h4 with rfl | ⟨d,h4,h5⟩
     ·exact ⟨c,rfl,hp⟩
     ·cases j with
      | zero =>exact ⟨c,rfl,hp⟩
      | succ j =>exact ⟨d,by simpa using h4,h5⟩
  ·rw [if_neg hp]
   have e:(c :: r).filter (passB w) = r.filter (passB w) :=by rw [List.filter_cons,if_neg hp]
   rcases nxt_stop w most r acc h with ⟨h1,h2⟩ | ⟨j,h1,h2,h3,h4⟩
   ·rw [e]; exact .inl ⟨h1,h2⟩
   ·right
    rcases h4 with rfl | ⟨d,h4,h5⟩
    ·exact ⟨0,Nat.zero_le _,h2,h3,.inl rfl⟩
    ·cases j with
     | zero =>exact ⟨0,Nat.zero_le _,h2,h3,.inl rfl⟩
     | succ j =>
      have e2:((c :: r).take (j + 1 + 1)).filter (passB w) = (r.take (j + 1)).filter (passB w) :=by rw [List.take_succ_cons,List.filter_cons,if_neg hp]
      exact ⟨j + 1 + 1,by simp; omega,by rw [e2]; exact h2,by rw [e2]; exact h3,.inr ⟨d,by simpa using h4,h5⟩⟩
theorem lastV_snoc (l:List VC) (c:VC):lastV (l ++ [c]) = c.version :=by
 unfold lastV
 simp
def told (b:VBook) (w:VWa) (u:Nat):List VC :=(b.history.take u).filter (passB w)
theorem pass_later {w:VWa} {f:Int} {c:VC} (h:w.from_≤f) (h2:f < c.version):passB ⟨w.kind,w.prefix_,f⟩ c = passB w c :=by
 unfold passB
 rw [decide_eq_false (show ¬ c.version≤f by omega),decide_eq_false (show ¬ c.version≤w.from_ by omega)]
theorem drop_pass {b:VBook} (h:implB b = true) {w:VWa} {u:Nat} (hw:w.from_≤b.floor + u) (l:List VC) (hl:∀ x ∈ l,x ∈ b.history.drop u):l.filter (passB ⟨w.kind,w.prefix_,b.floor + u⟩) = l.filter (passB w) :=by
 obtain ⟨v1,v2,v3,v4,v5,v6⟩ :=valid_facts h
 apply List.filter_congr
 intro x hx
 obtain ⟨i,hi,hg⟩ :=List.mem_iff_getElem.1 (hl x hx)
 rw [List.length_drop] at hi
 rw [List.getElem_drop] at hg
 have :=(v6 (u + i) x (by rw [← hg]; exact List.getElem?_eq_getElem (by omega))).1
 exact pass_later hw (by omega)
theorem nxt_skip (w:VWa) (most:Int) (acc:List VC):∀ (l r:List VC),(∀ x ∈ l,passB w x = false)→nxt w most (l ++ r) acc = nxt w most r acc
 | [],_,_ =>rfl
 | c :: l,r,h =>by
  rw [List.cons_append,nxt,if_neg (by rw [h c (by simp)]; simp)]
  exact nxt_skip w most acc l r (fun x hx =>h x (by simp [hx]))
theorem next_step {b:VBook} (h:implB b = true) {w:VWa} {u:Nat} (hw:w.from_≤b.floor + u) (hu:u < b.history.length) {most:Int} (hm:1≤most) :
  ∃ (u':Nat) (T:List VC),nextB b ⟨w.kind,w.prefix_,b.floor + u⟩ most = ⟨0,T,b.floor + u'⟩∧u < u'∧u'≤b.history.length∧(T.length:Int)≤most∧told b w u ++ T = told b w u' :=by
 obtain ⟨v1,v2,v3,v4,v5,v6⟩ :=valid_facts h
 have hi:inR (b.floor + u) 0 b.now = true :=by simp only [inR,Bool.and_eq_true,decide_eq_true_eq]; omega
 have e1:nextB b ⟨w.kind,w.prefix_,b.floor + u⟩ most = ⟨0,(nxt ⟨w.kind,w.prefix_,b.floor + u⟩ most (b.history.drop u) []).1,(nxt ⟨w.kind,w.prefix_,b.floor + u⟩ most (b.history.drop u) []).2.getD b.now⟩ :=by
  unfold nextB
  rw [if_pos h,if_neg (by rw [hi]; simp; omega),if_neg (by simp only; omega)]
  have e:nxt ⟨w.kind,w.prefix_,b.floor + u⟩ most b.history [] = nxt ⟨w.kind,w.prefix_,b.floor + u⟩ most (b.history.drop u) [] :=by
   conv =>lhs; rw [← List.take_append_drop u b.history]
   refine nxt_skip _ _ _ _ _ fun x hx =>?_
   obtain ⟨i,hi,hg⟩ :=List.mem_iff_getElem.1 hx
   rw [List.length_take] at hi
   rw [List.getElem_take] at hg
   have :=(v6 i x (by rw [← hg]; exact List.getElem?_eq_getElem (by omega))).1
   unfold passB
   rw [decide_eq_true (by simp only; omega)]
   rfl
  rw [e]
 rw [e1]
 rcases nxt_stop ⟨w.kind,w.prefix_,b.floor + u⟩ most (b.history.drop u) [] (by simp; omega) with ⟨h1,h2⟩ | ⟨j,h1,h2,h3,h4⟩
 ·rw [h1]
  rw [List.nil_append] at h2 ⊢
  rw [drop_pass h hw _ (fun x hx =>hx)] at h2 ⊢
  refine ⟨b.history.length,_,by simp only [Option.getD_none]; rw [show b.floor + (b.history.length:Int) = b.now by omega],hu,Nat.le_refl _,h2,?_⟩
  unfold told
  rw [← List.filter_append,List.take_append_drop,List.take_length]
 ·rw [h2]
  simp only [List.nil_append] at h3 ⊢
  rw [drop_pass h hw _ (fun x hx =>List.mem_of_mem_take hx)] at h3 ⊢
  rcases h4 with rfl | ⟨c,h4,h5⟩
  ·simp at h3; omega
  have hj:0 < j :=by
   cases j with
   | zero =>simp at h3; omega
   | succ j =>omega
  rw [List.length_drop] at h1
  rw [List.getElem?_drop] at h4
  have hv :=(v6 (u + (j - 1)) c h4).1
  have hpc:passB w c = true :=by rw [← pass_later (f :=b.floor + u) hw (by omega)]; exact h5
  have et:(b.history.drop u).take j = (b.history.drop u).take (j - 1) ++ [c] :=by
   have :=take_snoc (l :=b.history.drop u) (i :=j - 1) (x :=c) (by rw [List.getElem?_drop]; exact h4)
   rw [show j - 1 + 1 = j by omega] at this
   exact this
  have el:lastV (((b.history.drop u).take j).filter (passB w)) = c.version :=by
   rw [et,List.filter_append,List.filter_cons,if_pos hpc,List.filter_nil]
   exact lastV_snoc _ _
  rw [el]
  refine ⟨u + j,_,by simp only [Option.getD_some]; rw [show c.version = b.floor + ((u + j:Nat):Int) by omega],by omega,by omega,by omega,?_⟩
  unfold told
  rw [← List.filter_append,List.take_add]
theorem told_get {b:VBook} {w:VWa} {i:Nat} {c:VC} (h:b.history[i]? = some c) (hp:passB w c = true):(b.history.filter (passB w))[(told b w i).length]? = some c :=by
 have hl :=(List.getElem?_eq_some_iff.1 h).1
 have e:b.history.filter (passB w) = told b w i ++ (b.history.drop i).filter (passB w) :=by unfold told; rw [← List.filter_append,List.take_append_drop]
 have hd:b.history.drop i = c :: b.history.drop (i + 1) :=by rw [List.drop_eq_getElem_cons hl]; rw [(List.getElem?_eq_some_iff.1 h).2]
 rw [e,List.getElem?_append_right (Nat.le_refl _),hd,List.filter_cons,if_pos hp,Nat.sub_self]
 rfl
theorem told_succ {b:VBook} {w:VWa} {i:Nat} {c:VC} (h:b.history[i]? = some c):told b w (i + 1) = if passB w c = true then told b w i ++ [c] else told b w i :=by
 unfold told
 rw [take_snoc h,List.filter_append,List.filter_cons,List.filter_nil]
 split
 ·rfl
 ·simp
theorem told_all (b:VBook) (w:VWa):told b w b.history.length = b.history.filter (passB w) :=by unfold told; rw [List.take_length]
theorem told_len (b:VBook) (w:VWa) (u:Nat):(told b w u).length≤b.history.length :=by
 unfold told
 exact Nat.le_trans (List.length_filter_le _ _) (by rw [List.length_take]; omega)
theorem k10 (l:List VO) (k p:ByteArray) (hl:l.length≤4194304):EV Try.prog E 10 [.val 0 false [.sl .shr 7 (l.map (VO.c .shr))],.val 0 false [.p (.string k)],.val 0 false [.p (.string p)]] =
  some ⟨[(false,[.sl .own 7 ((lst k p l).map (VO.c .shr))])],[]⟩ :=by
 refine eVi Try.func10 rfl ?_
 simp only [rA,seval,e10,Try.f10,rowsShr]
 rw [for_block l (fun i (_:Unit) =>⟨5,[(0,.val 0 false [.sl .shr 7 (l.map (VO.c .shr))]),(1,.val 1 false [.p (.string k)]),(2,.val 2 false [.p (.string p)]),(7,.val 3 false [.sl .own 7 ((lst k p (l.take i)).map (VO.c .shr))]),(8,.val 4 false [.p (.int .i64 i)])]⟩) (fun _ _ =>True)
  (fun r i a =>.norm ⟨1,[(7,.val 0 false [.sl .own 7 ((lst k p l).map (VO.c .shr))])]⟩) ?_ ?_ (a :=()) trivial (by simp only [rA,seval,e10,lst,List.take_zero,List.filter_nil,List.map_nil] <;> rfl)]
 ·simp only [rA,seval,e10,rowsShr]
 ·intro i x r a hd hi _
  have hlen :=(List.getElem?_eq_some_iff.1 hi).1
  have hlt:((i:Int) < (l.length:Int)) :=by omega
  have hr :=getElem?_map_some (f :=VO.c .shr) hi
  have hi0:(0:Int)≤(i:Int) :=by omega
  have hwi :=wrap64 (n :=(i:Int) + 1) (by omega) (by omega)
  have hll :=lst_len k p l i
  have hs :=lst_snoc k p hi
  simp only [VO.c] at hr
  left
  refine ⟨(),?_,trivial,rfl⟩
  have hL1:(lst k p (l.take i)).length + 1 < 4294967296 :=by omega
  have hp0:(0:Int)≤(p.size:Int) :=by omega
  by_cases c1:k = ⟨#[]⟩∨x.kind = k
  case neg =>
   have c2:¬ k = ⟨#[]⟩ :=fun h =>c1 (.inl h)
   have c3:¬ x.kind = k :=fun h =>c1 (.inr h)
   have d:looksB k p x = false :=by unfold looksB; rw [decide_eq_false c2,decide_eq_false c3]; rfl
   rw [if_neg (by rw [d]; simp)] at hs
   simp only [rA,seval,e10,VO.c,hlt,hlen,hr,hi0,hwi,c2,c3,hs,i64c,rwS,rowsShr]
  by_cases c4:(p.size:Int)≤(x.name.size:Int)
  case neg =>
   have d:looksB k p x = false :=by unfold looksB preB; rw [decide_eq_false c4,Bool.false_and,Bool.and_false]
   rw [if_neg (by rw [d]; simp)] at hs
   by_cases c2:k = ⟨#[]⟩
   ·have c2' :=eq_true c2
    simp only [rA,seval,e10,VO.c,hlt,hlen,hr,hi0,hwi,c2',c4,hs,i64c,rwS,rowsShr]
   ·have c3 :=c1.resolve_left c2
    simp only [rA,seval,e10,VO.c,hlt,hlen,hr,hi0,hwi,c2,c3,c4,hs,i64c,rwS,rowsShr]
  have c4n:p.size≤x.name.size :=by omega
  by_cases c5:x.name.extract 0 p.size = p
  case neg =>
   have d:looksB k p x = false :=by unfold looksB preB; rw [decide_eq_false c5,Bool.and_false,Bool.and_false]
   rw [if_neg (by rw [d]; simp)] at hs
   by_cases c2:k = ⟨#[]⟩
   ·have c2' :=eq_true c2
    simp only [rA,seval,e10,VO.c,hlt,hlen,hr,hi0,hwi,c2',c4,c4n,c5,hp0,hs,i64c,rwS,rowsShr,Nat.zero_le]
   ·have c3 :=c1.resolve_left c2
    simp only [rA,seval,e10,VO.c,hlt,hlen,hr,hi0,hwi,c2,c3,c4,c4n,c5,hp0,hs,i64c,rwS,rowsShr,Nat.zero_le]
  have c5' :=eq_true c5
  by_cases c2:k = ⟨#[]⟩
  ·have d:looksB k p x = true :=by unfold looksB preB; rw [decide_eq_true c2,decide_eq_true c4,decide_eq_true c5]; rfl
   rw [if_pos d] at hs
   have c2' :=eq_true c2
   simp only [rA,seval,e10,VO.c,hlt,hlen,hr,hi0,hwi,c2',c4,c4n,c5',hp0,hs,i64c,LIM,hL1,rwS,rowsShr,Nat.zero_le,List.map_append,List.map_cons,List.map_nil]
  ·have c3 :=c1.resolve_left c2
   have d:looksB k p x = true :=by unfold looksB preB; rw [decide_eq_true c3,decide_eq_true c4,decide_eq_true c5]; simp
   rw [if_pos d] at hs
   have c3' :=eq_true c3
   simp only [rA,seval,e10,VO.c,hlt,hlen,hr,hi0,hwi,c2,c3',c4,c4n,c5',hp0,hs,i64c,LIM,hL1,rwS,rowsShr,Nat.zero_le,List.map_append,List.map_cons,List.map_nil]
 ·intro a _
  simp only [rA,seval,e10,List.take_length]
def KW:List ByteArray :=[⟨#[]⟩,⟨#[98,101,114,116,104]⟩,⟨#[106,111,98]⟩,⟨#[97,46,98]⟩,⟨#[110,111,110,101]⟩]
def PW:List ByteArray :=[⟨#[]⟩,⟨#[]⟩,⟨#[120]⟩,⟨#[122,45]⟩,⟨#[113]⟩]
theorem KW_sz:∀ s ∈ KW,s.size≤20 :=by decide
theorem PW_sz:∀ s ∈ PW,s.size≤20 :=by decide
theorem k29 {l:List Int} (hl:l.length≤2097152) (hb:∀ x ∈ l,0≤x∧x≤255):∃ (z:VBook) (kd pf:ByteArray),DrS z∧(kd.size≤20∧pf.size≤20)∧EV Try.prog E 29 [.val 0 false [.sl .shr 1 (l.map byC)]] = some ⟨[(true,z.c .shr),(false,[.p (.string kd)]),(false,[.p (.string pf)])],[]⟩ :=by
 obtain ⟨bs,hbs,h28⟩ :=k28 hl hb
 obtain ⟨z,p,d,h1,h2,h35⟩ :=k35 hbs 0 (by omega)
 obtain ⟨k1,⟨k1a,k1b⟩,hk1⟩ :=k30 hbs p (by omega) 5
 obtain ⟨k2,⟨k2a,k2b⟩,hk2⟩ :=k30 hbs (p + 1) (by omega) 5
 have k1c:k1 < 5 :=by omega
 have k2c:k2 < 5 :=by omega
 have k1n:k1.toNat < 5 :=by omega
 have k2n:k2.toNat < 5 :=by omega
 obtain ⟨kd,hkd,hr1⟩ :=pickL KW k1a (by simpa [KW] using k1c)
 obtain ⟨pf,hpf,hr2⟩ :=pickL PW k2a (by simpa [PW] using k2c)
 have skd :=KW_sz kd hkd
 have spf :=PW_sz pf hpf
 refine ⟨z,kd,pf,d,⟨skd,spf⟩,eVi Try.func29 rfl ?_⟩
 simp only [KW,PW,List.map_cons,List.map_nil,strC] at hr1 hr2
 simp only [rdC,VBook.c,seval] at h28 h35 hk1 hk2
 simp only [rA,seval,e29,e28,e35,e30,Try.f29,VBook.c,rdC,h28,h35,hk1,hk2,k1a,k1c,k1n,k2a,k2c,k2n,hr1,hr2,rowsBy,rwO,rwC,rwT]
theorem k6 {l:List Int} (hl:l.length≤2097152) (hb:∀ x ∈ l,0≤x∧x≤255):∃ (z:VBook) (w:VWa) (most:Int),DrS z∧((w.kind.size≤20∧w.prefix_.size≤20)∧-3≤w.from_∧w.from_≤1001000∧0≤most∧most≤5)∧EV Try.prog E 6 [.val 0 false [.sl .shr 1 (l.map byC)]] = some ⟨[(true,z.c .shr),(true,w.c),(false,[.p (.int .i64 most)])],[]⟩ :=by
 obtain ⟨bs,hbs,h28⟩ :=k28 hl hb
 obtain ⟨z,kd,pf,d,hs,h29⟩ :=k29 hl hb
 have df0 :=d.f0
 have df1 :=d.f1
 have dhl :=d.hl
 obtain ⟨k1,⟨k1a,k1b⟩,hk1⟩ :=k30 hbs 0 (by omega) ((z.history.length:Int) + 3)
 obtain ⟨k2,⟨k2a,k2b⟩,hk2⟩ :=k30 hbs 1 (by omega) 6
 have w1 :=wrap64 (n :=(z.history.length:Int) + 3) (by omega) (by omega)
 have w2 :=wrap64 (n :=z.floor + k1) (by omega) (by omega)
 have w3 :=wrap64 (n :=z.floor + k1 - 1) (by omega) (by omega)
 refine ⟨z,⟨kd,pf,z.floor + k1 - 1⟩,k2,d,⟨hs,by simp only; omega,by simp only; omega,by omega,by omega⟩,eVi Try.func6 rfl ?_⟩
 simp only [rdC,VBook.c,seval] at h28 h29 hk1 hk2
 simp only [rA,seval,e6,e28,e29,e30,Try.f6,VBook.c,VWa.c,rdC,h28,h29,hk1,hk2,w1,w2,w3,rowsBy,rwO,rwC,rwT,List.length_map]
theorem next_cases (b:VBook) (w:VWa) (most:Int):(∃ c,¬ c = 0∧nextB b w most = ⟨c,[],0⟩)∨((nextB b w most).code = 0∧implB b = true∧1≤most∧b.floor≤w.from_∧w.from_≤b.now) :=by
 unfold nextB
 split
 ·split
  ·exact .inl ⟨1,by decide,rfl⟩
  ·rename_i h
   split
   ·exact .inl ⟨2,by decide,rfl⟩
   ·rename_i h2
    right
    have h3:inR w.from_ 0 b.now = true :=by
     cases e:inR w.from_ 0 b.now
     ·exact absurd (.inr (by rw [e]; simp)) h
     ·rfl
    simp only [inR,Bool.and_eq_true,decide_eq_true_eq] at h3
    refine ⟨rfl,‹_›,?_,by omega,h3.2⟩
    have:¬ most < 1 :=fun e =>h (.inl e)
    omega
 ·exact .inl ⟨1,by decide,rfl⟩
theorem c0N:((0:Nat):Int) = 0 :=rfl
theorem c1N:((1:Nat):Int) = 1 :=rfl
def LW (z:VBook) (w:VWa) (most:Int) (q:Nat × Nat):St :=⟨6,[(3,.box 0 0 (z.c .shr)),(4,.box 1 1 w.c),(5,.val 2 false [.p (.int .i64 most)]),(8,.val 3 false [.sl .own 9 ((told z w q.2).map (VC.c .own))]),(9,.box 4 4 (VWa.c ⟨w.kind,w.prefix_,z.floor + (q.2:Nat)⟩)),(10,.val 5 false [.p (.int .i64 (q.1:Nat))])]⟩
theorem law3 {l:List Int} (hl:l.length≤maxLen) (hb:∀ x ∈ l,0≤x∧x≤255):EV Try.prog E 3 [.val 0 false [.sl .shr 1 (l.map byC)]] = some ⟨[(false,[.p (.bool true)])],[]⟩ :=by
 refine eVi Try.func3 rfl ?_
 by_cases c1:(1048576:Int) < (l.length:Int)
 ·simp only [rA,seval,e3,Try.f3,c1,List.length_map,rowsBy]
 obtain ⟨z,w,most,d,⟨hws,hf1,hf2,hm1,hm2⟩,h6⟩ :=k6 (l :=l) (by omega) hb
 have hzw :=d.w
 have hhl :=d.hl
 have hi:i64ok most :=by unfold i64ok; omega
 have h7 :=k7 z w most (by omega) hi
 have h8 :=k8 z w most (by omega) hi
 rcases next_cases z w most with ⟨c,hc,e⟩ | ⟨hc,hv,hm3,hf3,hf4⟩
 ·have h9 :=k9 [] (by decide) (fun x h =>by cases h)
  rw [e] at h7 h8
  simp only [VBook.c,VWa.c,VNe.c,List.map_nil] at h6 h7 h8 h9
  simp only [rA,seval,e3,e6,e7,e8,e9,Try.f3,VWa.c,c1,h6,h7,h8,h9,hc,List.length_map,rowsBy,rwO,rwC,rwT,List.length_nil,c0N,c1N,Int.zero_add]
 obtain ⟨v1,v2,v3,v4,v5,v6⟩ :=valid_facts hv
 obtain ⟨hmem,hlen⟩ :=next_mem z w most
 have h9 :=k9 (nextB z w most).changes (by omega) (fun x h =>d.hh x (hmem x h))
 have h7c :=k7 z w 1000 (by omega) (by unfold i64ok; omega)
 rw [nextB_all hv hf3 hf4 (by decide)] at h7c
 have hfl:(z.history.filter (passB w)).length≤z.history.length :=List.length_filter_le _ _
 have h9c :=k9 (z.history.filter (passB w)) (by omega) (d.hf w)
 generalize nextB z w most = N at *
 obtain ⟨Nc,Nl,Nf⟩ :=N
 simp only at hc
 subst hc
 have hu0:w.from_ = z.floor + ((w.from_ - z.floor).toNat:Int) :=by omega
 have hu1:(w.from_ - z.floor).toNat≤z.history.length :=by omega
 generalize (w.from_ - z.floor).toNat = u0 at hu0 hu1
 have ht0:told z w u0 = [] :=by
  unfold told
  rw [List.filter_eq_nil_iff]
  intro x hx
  obtain ⟨i,hi,hg⟩ :=List.mem_iff_getElem.1 hx
  rw [List.length_take] at hi
  rw [List.getElem_take] at hg
  have :=(v6 i x (by rw [← hg]; exact List.getElem?_eq_getElem (by omega))).1
  unfold passB
  rw [decide_eq_true (by omega)]
  simp
 simp only [VBook.c,VWa.c,VNe.c] at h6 h7 h8 h7c
 simp only [rA,seval,e3,e6,e7,e8,e9,Try.f3,VWa.c,VNe.c,c1,h6,h7,h8,h9,List.length_map,rowsBy,rwO,rwC,rwT]
 rw [while_block (LW z w most) (fun q =>u0≤q.2∧q.2≤z.history.length∧q.1≤q.2)
  (fun q =>.norm ⟨4,[(3,.box 0 0 (z.c .shr)),(4,.box 1 1 w.c),(8,.val 2 false [.sl .own 9 ((z.history.filter (passB w)).map (VC.c .own))]),(9,.box 3 3 (VWa.c ⟨w.kind,w.prefix_,z.now⟩))]⟩) (fun q =>z.history.length - q.2) ?_ (i :=(0,u0)) ⟨Nat.le_refl _,hu1,Nat.zero_le _⟩
  (by simp only [rA,seval,e3,LW,VBook.c,VWa.c,ht0,List.map_nil,← hu0] <;> rfl)]
 ·have hkl:((told z w z.history.length).length:Int) = ((z.history.filter (passB w)).length:Int) :=by rw [told_all]
  simp only [rA,seval,e3,e7,e9,VBook.c,VWa.c,VNe.c,h7c,h9c,rwO,rwC,rwT]
  rw [for_block z.history (fun i (_:Unit) =>⟨5,[(3,.box 0 0 (z.c .shr)),(4,.box 1 1 w.c),(8,.val 2 false [.sl .own 9 ((z.history.filter (passB w)).map (VC.c .own))]),(13,.val 3 false [.p (.int .i64 ((told z w i).length:Nat))]),(14,.val 4 false [.p (.int .i64 i)])]⟩) (fun _ _ =>True)
   (fun _ _ _ =>.norm ⟨2,[(8,.val 0 false [.sl .own 9 ((z.history.filter (passB w)).map (VC.c .own))]),(13,.val 1 false [.p (.int .i64 ((told z w z.history.length).length:Nat))])]⟩) ?_ ?_ (a :=()) trivial (by simp only [rA,seval,e3,VBook.c,VWa.c,told,List.take_zero,List.filter_nil,List.length_nil,c0N])]
  ·simp only [rA,seval,e3,hkl,List.length_map]
  ·intro i x r a hd hi _
   have hlen :=(List.getElem?_eq_some_iff.1 hi).1
   have hlt:((i:Int) < (z.history.length:Int)) :=by omega
   have hr :=getElem?_map_some (f :=VC.c .shr) hi
   have hi0:(0:Int)≤(i:Int) :=by omega
   have hwi :=wrap64 (n :=(i:Int) + 1) (by omega) (by omega)
   have hxm :=List.mem_of_getElem? hi
   have hs :=told_succ (w :=w) hi
   have h10 :=k10 [x.object] w.kind w.prefix_ (by simp)
   simp only [VO.c,VC.c,List.map_cons,List.map_nil] at hr h10
   left
   refine ⟨(),?_,trivial,rfl⟩
   by_cases c2:x.version≤w.from_
   ·have c2':¬ w.from_ < x.version :=by omega
    have hp:passB w x = false :=by unfold passB; rw [decide_eq_true c2]; rfl
    rw [hp] at hs
    simp only [Bool.false_eq_true,if_false] at hs
    simp only [rA,seval,e3,VBook.c,VWa.c,VC.c,VO.c,hlt,hlen,hr,hi0,hwi,c2',hs,rwO,rwC,rwT,rwS,i64c,List.length_map]
   have c2':w.from_ < x.version :=by omega
   cases c3:looksB w.kind w.prefix_ x.object
   ·have hp:passB w x = false :=by unfold passB; rw [c3,Bool.and_false]
    rw [hp] at hs
    simp only [Bool.false_eq_true,if_false] at hs
    have el:lst w.kind w.prefix_ [x.object] = [] :=by unfold lst; rw [List.filter_cons,if_neg (by rw [c3]; simp),List.filter_nil]
    rw [el] at h10
    simp only [List.map_nil] at h10
    simp only [rA,seval,e3,e10,VBook.c,VWa.c,VC.c,VO.c,hlt,hlen,hr,hi0,hwi,c2',h10,hs,rwO,rwC,rwT,rwS,i64c,List.length_map,List.length_nil,c0N,c1N,Int.zero_add]
   ·have hp:passB w x = true :=by unfold passB; rw [c3,decide_eq_false c2]; rfl
    rw [hp] at hs
    simp only [if_true] at hs
    have el:lst w.kind w.prefix_ [x.object] = [x.object] :=by unfold lst; rw [List.filter_cons,if_pos c3,List.filter_nil]
    rw [el] at h10
    simp only [List.map_cons,List.map_nil,VO.c] at h10
    have hg :=told_get hi hp
    have hgl :=(List.getElem?_eq_some_iff.1 hg).1
    have hgr :=getElem?_map_some (f :=VC.c .own) hg
    have hgi:¬ ((z.history.filter (passB w)).length:Int)≤((told z w i).length:Int) :=by omega
    have hgj:((told z w i).length:Int) < ((z.history.filter (passB w)).length:Int) :=by omega
    have hg0:(0:Int)≤((told z w i).length:Int) :=by omega
    have h11 :=k11 x (d.hh x hxm)
    have hwk :=wrap64 (n :=((told z w i).length:Int) + 1) (by omega) (by have :=told_len z w i; omega)
    have e1:(told z w (i + 1)).length = (told z w i).length + 1 :=by rw [hs]; simp
    simp only [VC.c] at h11 hgr
    simp only [rA,seval,e3,e10,e11,VBook.c,VWa.c,VC.c,VO.c,hlt,hlen,hr,hi0,hwi,c2',h10,h11,hgr,hgi,hgj,hgl,hg0,hwk,e1,rwO,rwC,rwT,rwS,i64c,List.length_map,List.length_cons,List.length_nil,c0N,c1N,Int.zero_add]
  ·intro a _
   simp only [rA,seval,e3,VBook.c,VWa.c,List.length_map,rwO,rwC,rwT]
 ·rintro ⟨i,u⟩ ⟨g1,g2,g3⟩
  simp only at g1 g2 g3
  have hi3:(i:Int) < 300 :=by omega
  by_cases hu:u < z.history.length
  ·obtain ⟨u',T,e,g4,g5,g6,g7⟩ :=next_step hv (w :=w) (u :=u) (by omega) hu hm3
   have hS:(told z w u).map (VC.c .own) ++ T.map (VC.c .own) = (told z w u').map (VC.c .own) :=by rw [← List.map_append,g7]
   have h7' :=k7 z ⟨w.kind,w.prefix_,z.floor + (u:Int)⟩ most (by omega) hi
   rw [e] at h7'
   have hlt:z.floor + (u:Int) < z.now :=by omega
   have hlt2:¬ z.floor + (u':Int)≤z.floor + (u:Int) :=by omega
   have hlt3:¬ most < (T.length:Int) :=by omega
   have htl :=told_len z w u'
   have hL:(told z w u).length + T.length < 4294967296 :=by
    have:(told z w u ++ T).length = (told z w u').length :=by rw [g7]
    rw [List.length_append] at this
    omega
   have hwi :=wrap64 (n :=(i:Int) + 1) (by omega) (by omega)
   simp only [VBook.c,VWa.c,VNe.c] at h7'
   left
   refine ⟨(i + 1,u'),?_,⟨by simp only; omega,g5,by simp only; omega⟩,by simp only; omega,rfl⟩
   cases hfr:allFreeRows (T.map (VC.c .own))
   all_goals simp only [rA,seval,e3,e7,LW,VBook.c,VWa.c,VNe.c,hfr,hi3,hlt,hlt2,hlt3,h7',hS,hL,LIM,hwi,rwO,rwC,rwT,i64c,List.length_map]
  ·have hue:u = z.history.length :=by omega
   subst hue
   have e:z.floor + (z.history.length:Int) = z.now :=by omega
   have hlt:¬ z.now < z.now :=by omega
   right
   simp only [rA,seval,e3,LW,VBook.c,VWa.c,hi3,e,hlt,told_all,rwO,rwC,rwT]
end Go.Proofs.Ytgekblcbdhjmfaa
