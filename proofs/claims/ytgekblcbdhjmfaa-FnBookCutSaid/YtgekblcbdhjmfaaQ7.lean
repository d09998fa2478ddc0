/- A book cut stays valid (plain). -/
import Derived.Test.YtgekblcbdhjmfaaQ3
import Derived.Test.YtgekblcbdhjmfaaQ6
import Derived.Test.YtgekblcbdhjmfaaQ5
namespace Go.Proofs.Ytgekblcbdhjmfaa
open Go.Sx
set_option maxRecDepth 100000
set_option maxHeartbeats 16000000
set_option linter.unusedVariables false
set_option linter.unusedSimpArgs false
theorem objsF_cut (b:VBook) (n:Nat):∀ (l:List VO) (i:Nat),objsF (cutB b n) i l = objsF b i l
 | [],_ =>rfl
 | x :: r,i =>by
  rw [objsF,objsF,objsF_cut b n r (i + 1)]
  rfl
theorem lastO_drop (h:List VC) (o:VO) (n:Nat) (hn:n≤h.length):∀ i,i≤(h.drop n).length→lastO h o (n + i) = match lastO (h.drop n) o i with | some d =>some d | none =>lastO h o n
 | 0,_ =>rfl
 | i + 1,hi =>by
  rw [List.length_drop] at hi
  have e:h[n + i]? = (h.drop n)[i]? :=by rw [List.getElem?_drop]
  have ih :=lastO_drop h o n hn i (by rw [List.length_drop]; omega)
  show lastO h o (n + i + 1) = _
  rw [lastO,lastO,e]
  have hx:(h.drop n)[i]? = some ((h.drop n)[i]'(by rw [List.length_drop]; omega)) :=List.getElem?_eq_getElem (by rw [List.length_drop]; omega)
  rw [hx]
  simp only
  split
  ·rfl
  ·exact ih
theorem lastF_drop (h:List VC) (o:VO) (n:Nat):∀ i j,i≤(h.drop n).length→lastF (h.drop n) o i = ((j:Nat):Int)→lastF h o (n + i) = ((n + j:Nat):Int)
 | 0,j,_,hj =>by
  simp only [lastF] at hj
  omega
 | i + 1,j,hi,hj =>by
  rw [List.length_drop] at hi
  have e:h[n + i]? = (h.drop n)[i]? :=by rw [List.getElem?_drop]
  have hx:(h.drop n)[i]? = some ((h.drop n)[i]'(by rw [List.length_drop]; omega)) :=List.getElem?_eq_getElem (by rw [List.length_drop]; omega)
  show lastF h o (n + i + 1) = _
  rw [lastF,e,hx]
  rw [lastF,hx] at hj
  simp only at hj ⊢
  split
  ·rename_i d
   rw [if_pos d] at hj
   omega
  ·rename_i d
   rw [if_neg d] at hj
   exact lastF_drop h o n i j (by rw [List.length_drop]; omega) hj
theorem lastO_some {h:List VC} {o:VO} {d:VC}:∀ {n:Nat},lastO h o n = some d→∃ j,j < n∧h[j]? = some d
 | 0,e =>by cases e
 | n + 1,e =>by
  rw [lastO] at e
  split at e
  ·rename_i c hc
   split at e
   ·cases e; exact ⟨n,by omega,hc⟩
   ·obtain ⟨j,h1,h2⟩ :=lastO_some e
    exact ⟨j,by omega,h2⟩
  ·cases e
theorem hist1F_of {b:VBook}:∀ {l:List VC} {k:Nat},(∀ i x,l[i]? = some x→hist1 b (k + i) x = true)→hist1F b k l = true
 | [],_,_ =>rfl
 | y :: r,k,h =>by
  rw [hist1F,Bool.and_eq_true]
  refine ⟨h 0 y rfl,hist1F_of fun i x hx =>?_⟩
  have :=h (i + 1) x (by simpa using hx)
  rw [show k + (i + 1) = k + 1 + i by omega] at this
  exact this
theorem hist3F_of {b:VBook}:∀ {l:List VC} {k:Nat},(∀ i x,l[i]? = some x→hist3 b (k + i) x = true)→hist3F b k l = true
 | [],_,_ =>rfl
 | y :: r,k,h =>by
  rw [hist3F,Bool.and_eq_true]
  refine ⟨h 0 y rfl,hist3F_of fun i x hx =>?_⟩
  have :=h (i + 1) x (by simpa using hx)
  rw [show k + (i + 1) = k + 1 + i by omega] at this
  exact this
theorem hist3_at {b:VBook}:∀ {l:List VC} {k:Nat},hist3F b k l = true→∀ i x,l[i]? = some x→hist3 b (k + i) x = true
 | [],k,h,i,x,hx =>by simp at hx
 | y :: r,k,h,i,x,hx =>by
  rw [hist3F,Bool.and_eq_true] at h
  cases i with
  | zero =>simp at hx; subst hx; exact h.1
  | succ i =>
   have :=hist3_at h.2 i x (by simpa using hx)
   rw [show k + (i + 1) = k + 1 + i by omega]
   exact this
theorem lastOk_cut {b:VBook} {n i:Nat} {x:VC} (v6:∀ (i:Nat) (x:VC),b.history[i]? = some x→x.version = b.floor + 1 + i∧x.object.version = x.version)
  (hb:∀ (i:Nat) (x:VC),b.history[i]? = some x→x.object.born≤x.object.version) (hn:n≤b.history.length) (hi:i≤(b.history.drop n).length) (h:lastOk b (n + i) x = true):lastOk (cutB b n) i x = true :=by
 have hd :=lastO_drop b.history x.object n hn i hi
 unfold lastOk at h ⊢
 rw [hd] at h
 show (match lastO (b.history.drop n) x.object i with
  | none =>creaB x || decide (x.object.born≤b.floor + (n:Int))
  | some d =>(creaB x == d.gone) && (creaB x || decide (x.object.born = d.object.born))) = true
 cases e:lastO (b.history.drop n) x.object i with
 | some d =>rw [e] at h; exact h
 | none =>
  rw [e] at h
  simp only at h ⊢
  cases e2:lastO b.history x.object n with
  | none =>
   rw [e2] at h
   simp only [Bool.or_eq_true,decide_eq_true_eq] at h ⊢
   rcases h with h | h
   ·exact .inl h
   ·right; omega
  | some d =>
   rw [e2] at h
   simp only [Bool.and_eq_true,Bool.or_eq_true,decide_eq_true_eq] at h ⊢
   rcases h.2 with h | h
   ·exact .inl h
   ·right
    obtain ⟨j,h1,h2⟩ :=lastO_some e2
    have h3 :=v6 j d h2
    have h4 :=hb j d h2
    omega
theorem cut_valid {b:VBook} (h:implB b = true) {n:Nat} (hn:n≤b.history.length):implB (cutB b n) = true :=by
 obtain ⟨v1,v2,v3,v4,v5,v6⟩ :=valid_facts h
 rw [← valid_eq] at h ⊢
 simp only [Bool.and_eq_true,decide_eq_true_eq] at h ⊢
 obtain ⟨h1,h2,⟨h3,h4⟩,⟨h5,h6,h7,h8,h9⟩,h10,h11⟩ :=h
 have hlen:(b.history.drop n).length = b.history.length - n :=List.length_drop
 have hb:∀ (i:Nat) (x:VC),b.history[i]? = some x→x.object.born≤x.object.version :=by
  intro i x hx
  have :=hist_at h7 i x hx
  simp only [hist1,partsB,inR,Bool.and_eq_true,decide_eq_true_eq] at this
  exact this.2.2.1.2.2.2.1.2
 refine ⟨h1,?_,⟨h3,?_⟩,⟨?_,?_,?_,?_,?_⟩,h10,h11⟩
 ·show (decide (0≤b.floor + (n:Int)) && decide (b.floor + (n:Int)≤b.now)) = true
  simp only [Bool.and_eq_true,decide_eq_true_eq]; omega
 ·show objsF (cutB b n) 0 b.objects = true
  rw [objsF_cut]; exact h4
 ·show ((b.history.drop n).length:Int)≤200; omega
 ·show ((b.history.drop n).length:Int) = b.now - (b.floor + (n:Int)); omega
 ·refine hist1F_of fun i x hx =>?_
  have hx':b.history[n + i]? = some x :=by rw [← List.getElem?_drop]; exact hx
  have hil :=(List.getElem?_eq_some_iff.1 hx).1
  have :=hist_at h7 (n + i) x hx'
  rw [Nat.zero_add] at this ⊢
  simp only [hist1,Bool.and_eq_true,decide_eq_true_eq] at this ⊢
  refine ⟨?_,this.2.1,this.2.2.1,this.2.2.2.1,lastOk_cut v6 hb hn (Nat.le_of_lt hil) this.2.2.2.2⟩
  show x.version = b.floor + (n:Int) + 1 + i
  have :=this.1
  omega
 ·show b.objects.all (hist2 (cutB b n)) = true
  rw [List.all_eq_true] at h8 ⊢
  intro o ho
  have :=h8 o ho
  have hd :=lastO_drop b.history o n hn (b.history.drop n).length (Nat.le_refl _)
  rw [show n + (b.history.drop n).length = b.history.length by omega] at hd
  unfold hist2 at this ⊢
  rw [hd] at this
  show (match lastO (b.history.drop n) o (b.history.drop n).length with
   | none =>decide (o.version≤b.floor + (n:Int))
   | some d =>!d.gone && sameB d.object o) = true
  cases e:lastO (b.history.drop n) o (b.history.drop n).length with
  | some d =>rw [e] at this; exact this
  | none =>
   rw [e] at this
   simp only at this ⊢
   cases e2:lastO b.history o n with
   | none =>
    rw [e2] at this
    simp only [decide_eq_true_eq] at this ⊢
    omega
   | some d =>
    rw [e2] at this
    obtain ⟨j,h1,h2⟩ :=lastO_some e2
    have h3 :=v6 j d h2
    simp only [sameB,Bool.and_eq_true,decide_eq_true_eq] at this ⊢
    have :=this.2.2.2.1
    omega
 ·refine hist3F_of fun i x hx =>?_
  have hx':b.history[n + i]? = some x :=by rw [← List.getElem?_drop]; exact hx
  have :=hist3_at h9 (n + i) x hx'
  rw [Nat.zero_add] at this ⊢
  unfold hist3 at this ⊢
  show (!decide (lastF (b.history.drop n) x.object (b.history.drop n).length = (i:Int)) || (x.gone || (bfind b.objects x.object.kind x.object.name).2)) = true
  by_cases e:lastF (b.history.drop n) x.object (b.history.drop n).length = (i:Int)
  ·have e2 :=lastF_drop b.history x.object n (b.history.drop n).length i (Nat.le_refl _) e
   rw [show n + (b.history.drop n).length = b.history.length by omega] at e2
   rw [decide_eq_true e2] at this
   rw [decide_eq_true e]
   exact this
  ·rw [decide_eq_false e]; rfl
theorem cutN_le {b:VBook} (h:implB b = true) (fl:Int):cutN b fl≤b.history.length :=by
 obtain ⟨v1,v2,v3,v4,v5,v6⟩ :=valid_facts h
 unfold cutN; omega
theorem bcut_valid {b:VBook} (h:implB b = true) (fl:Int):implB (bcut b fl) = true :=by
 unfold bcut
 rw [if_pos h]
 exact cut_valid h (cutN_le h fl)
theorem k12 {l:List Int} (hl:l.length≤2097152) (hb:∀ x ∈ l,0≤x∧x≤255):∃ (z:VBook) (v:Int),DrS z∧(-1≤v∧v≤29)∧EV Try.prog E 12 [.val 0 false [.sl .shr 1 (l.map byC)]] = some ⟨[(true,z.c .shr),(false,[.p (.int .i64 v)])],[]⟩ :=by
 obtain ⟨bs,hbs,h28⟩ :=k28 hl hb
 obtain ⟨z,p,d,h1,h2,h35⟩ :=k35 hbs 0 (by omega)
 obtain ⟨k,⟨ka,kb⟩,hk⟩ :=k30 hbs p (by omega) 30
 have w1 :=wrap64 (n :=k - 1) (by omega) (by omega)
 refine ⟨z,k - 1,d,⟨by omega,by omega⟩,eVi Try.func12 rfl ?_⟩
 simp only [rdC,VBook.c,seval] at h28 h35 hk
 simp only [rA,seval,e12,e28,e35,e30,Try.f12,VBook.c,rdC,h28,h35,hk,w1,rowsBy,rwO,rwC,rwT]
theorem law4 {l:List Int} (hl:l.length≤maxLen) (hb:∀ x ∈ l,0≤x∧x≤255):EV Try.prog E 4 [.val 0 false [.sl .shr 1 (l.map byC)]] = some ⟨[(false,[.p (.bool true)])],[]⟩ :=by
 refine eVi Try.func4 rfl ?_
 by_cases c1:(1048576:Int) < (l.length:Int)
 ·simp only [rA,seval,e4,Try.f4,c1,List.length_map,rowsBy]
 obtain ⟨z,v,d,hv,h12⟩ :=k12 (l :=l) (by omega) hb
 have hw :=d.w
 have hw2 :=(d.cut v).w
 have h13 :=k13 z v (by omega)
 have h15 :=k15 z v (by omega)
 have h14 :=k14 (bcut z v) (by omega) (d.cut v).ho (d.cut v).hh
 have h16 :=kS z (by omega)
 cases dv:implB z
 ·rw [dv] at h16
  have e:bcut z v = nilB :=by unfold bcut; rw [if_neg (by rw [dv]; decide)]
  rw [e] at h13 h15 h14
  simp only [VBook.c,nilB,List.map_nil] at h12 h13 h14 h15 h16
  simp only [rA,seval,e4,e12,e13,e14,e15,e16,Try.f4,c1,h12,h13,h14,h15,h16,List.length_map,rowsBy,rwO,rwC,rwT]
 rw [dv] at h16
 obtain ⟨v1,v2,v3,v4,v5,v6⟩ :=valid_facts dv
 have hx :=bcut_valid dv v
 have e:bcut z v = cutB z (cutN z v) :=by unfold bcut; rw [if_pos dv]
 have hF:z.floor + (cutN z v:Int) = min (max v z.floor) z.now :=by unfold cutN; omega
 have h17 :=k17 (bcut z v) (by omega)
 rw [hx] at h17
 have h7a :=k7 (bcut z v) ⟨⟨#[]⟩,⟨#[]⟩,z.floor + (cutN z v:Int)⟩ 1000 (by omega) (by unfold i64ok; omega)
 have h7b :=k7 z ⟨⟨#[]⟩,⟨#[]⟩,z.floor + (cutN z v:Int)⟩ 1000 (by omega) (by unfold i64ok; omega)
 rw [nextB_all hx (by rw [e]; exact Int.le_refl _) (by rw [e]; show z.floor + (cutN z v:Int)≤z.now; omega) (by decide)] at h7a
 rw [nextB_all dv (by show z.floor≤z.floor + (cutN z v:Int); omega) (by show z.floor + (cutN z v:Int)≤z.now; omega) (by decide)] at h7b
 rw [e] at h13 h14 h15 h17 h7a
 rw [show (cutB z (cutN z v)).history.filter (passB ⟨⟨#[]⟩,⟨#[]⟩,z.floor + (cutN z v:Int)⟩) = z.history.filter (passB ⟨⟨#[]⟩,⟨#[]⟩,z.floor + (cutN z v:Int)⟩) from filter_cut dv rfl] at h7a
 have h18 :=k18 z.objects (Nat.le_trans d.ol (by omega)) d.ho
 have hfl:(z.history.filter (passB ⟨⟨#[]⟩,⟨#[]⟩,z.floor + (cutN z v:Int)⟩)).length≤4194304 :=Nat.le_trans (List.length_filter_le _ _) (Nat.le_trans d.hl (by omega))
 have h9 :=k9 _ hfl (d.hf ⟨⟨#[]⟩,⟨#[]⟩,z.floor + (cutN z v:Int)⟩)
 generalize z.history.filter (passB ⟨⟨#[]⟩,⟨#[]⟩,z.floor + (cutN z v:Int)⟩) = ch at *
 have c2:z.floor≤z.floor + (cutN z v:Int) :=by omega
 by_cases c3:v≤z.floor + (cutN z v:Int)
 ·simp only [VBook.c,VWa.c,VNe.c,cutB] at h7a h7b h12 h13 h14 h15 h16 h17
  generalize z.floor + (cutN z v:Int) = F at *
  simp only [rA,seval,e4,e7,e9,e12,e13,e14,e15,e16,e17,e18,Try.f4,VWa.c,VNe.c,c1,c2,c3,h7a,h7b,h9,h12,h13,h14,h15,h16,h17,h18,List.length_map,rowsBy,rwO,rwC,rwT]
 ·have c4:z.floor + (cutN z v:Int) = z.now :=by omega
  simp only [VBook.c,VWa.c,VNe.c,cutB] at h7a h7b h12 h13 h14 h15 h16 h17
  generalize z.floor + (cutN z v:Int) = F at *
  subst c4
  simp only [rA,seval,e4,e7,e9,e12,e13,e14,e15,e16,e17,e18,Try.f4,VWa.c,VNe.c,c1,c2,c3,h7a,h7b,h9,h12,h13,h14,h15,h16,h17,h18,List.length_map,rowsBy,rwO,rwC,rwT]
end Go.Proofs.Ytgekblcbdhjmfaa
