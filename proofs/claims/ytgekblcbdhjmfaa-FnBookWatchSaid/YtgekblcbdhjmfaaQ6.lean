/- Draws: any book. -/
import Derived.Test.YtgekblcbdhjmfaaQ4
import Derived.Test.YtgekblcbdhjmfaaQ5
import Derived.Test.YtgekblcbdhjmfaaQ3
namespace Go.Proofs.Ytgekblcbdhjmfaa
open Go.Sx
set_option maxRecDepth 100000
set_option maxHeartbeats 16000000
set_option linter.unusedVariables false
set_option linter.unusedSimpArgs false
theorem k35 {bs:List Int} (hb:Bytes bs) (p:Nat) (hp:p≤500000):∃ (z:VBook) (p':Nat),DrS z∧p≤p'∧p'≤p + 20030∧EV Try.prog E 35 [.box 0 0 (rdC bs p)] = some ⟨[(true,z.c .shr)],[rdC bs p']⟩ :=by
 obtain ⟨y,p1,g,h1,h2,h60⟩ :=k60 hb p hp
 obtain ⟨k,⟨ka,kb⟩,hk⟩ :=k30 hb p1 (by omega) 16
 by_cases c:k = 0
 ·obtain ⟨z,p2,cs,d,h3,h4,hc,h61⟩ :=k61 hb (p1 + 1) (by omega) y (g.mono (by omega))
  refine ⟨z,p2,d,by omega,by omega,eVi Try.func35 rfl ?_⟩
  simp only [rdC,VBook.c] at h60 hk hc h61
  simp only [rA,seval,e35,e30,e60,e61,Try.f35,VBook.c,rdC,h60,hk,c,h61,hc,rwO,rwC,rwT]
 ·refine ⟨y,p1 + 1,g.so (by omega),by omega,by omega,eVi Try.func35 rfl ?_⟩
  simp only [rdC,VBook.c] at h60 hk
  simp only [rA,seval,e35,e30,e60,Try.f35,VBook.c,rdC,h60,hk,c,rwO,rwC,rwT]
theorem nxt_all (w:VWa) (most:Int):∀ (l acc:List VC),(acc.length:Int) + l.length≤most→nxt w most l acc = (acc ++ l.filter (passB w),none)
 | [],acc,_ =>by simp [nxt]
 | c :: r,acc,h =>by
  simp only [List.length_cons] at h
  rw [nxt]
  by_cases hp:passB w c = true
  ·rw [if_pos hp,if_neg (by omega),nxt_all w most r _ (by rw [List.length_append]; simp; omega),List.filter_cons,if_pos hp]
   simp
  ·rw [if_neg hp,nxt_all w most r acc (by omega),List.filter_cons,if_neg hp]
theorem nextB_all {b:VBook} (h:implB b = true) {w:VWa} (h1:b.floor≤w.from_) (h2:w.from_≤b.now) {most:Int} (hm:200≤most):nextB b w most = ⟨0,b.history.filter (passB w),b.now⟩ :=by
 obtain ⟨v1,v2,v3,v4,v5,v6⟩ :=valid_facts h
 have hl:b.history.length≤200 :=by
  have h' :=h
  simp only [implB,Bool.and_eq_true,decide_eq_true_eq] at h'
  have :=h'.2.2.2.1
  omega
 unfold nextB
 have hi:inR w.from_ 0 b.now = true :=by
  simp only [inR,Bool.and_eq_true,decide_eq_true_eq]; omega
 rw [if_pos h,if_neg (by rw [hi]; simp; omega),if_neg (by omega),nxt_all w most b.history [] (by simp; omega)]
 rfl
theorem filter_cut {b:VBook} (h:implB b = true) {w:VWa} {n:Nat} (hw:w.from_ = b.floor + (n:Int)):(b.history.drop n).filter (passB w) = b.history.filter (passB w) :=by
 obtain ⟨v1,v2,v3,v4,v5,v6⟩ :=valid_facts h
 have e:b.history.filter (passB w) = (b.history.take n).filter (passB w) ++ (b.history.drop n).filter (passB w) :=by rw [← List.filter_append,List.take_append_drop]
 have e2:(b.history.take n).filter (passB w) = [] :=by
  rw [List.filter_eq_nil_iff]
  intro x hx
  obtain ⟨i,hi,hg⟩ :=List.mem_iff_getElem.1 hx
  rw [List.length_take] at hi
  rw [List.getElem_take] at hg
  have :=(v6 i x (by rw [← hg]; exact List.getElem?_eq_getElem (by omega))).1
  unfold passB
  rw [decide_eq_true (by omega)]
  simp
 rw [e,e2,List.nil_append]
theorem DrS.cut {b:VBook} (d:DrS b) (fl:Int):DrS (bcut b fl) :=by
 unfold bcut
 split
 ·rename_i h
  obtain ⟨v1,v2,v3,v4,v5,v6⟩ :=valid_facts h
  have hn:b.floor + (cutN b fl:Int)≤b.now :=by unfold cutN; omega
  have dd :=d.outH (i :=cutN b fl)
  refine ⟨d.lo,d.hi,?_,?_,d.objs,d.ol,dd.hist,dd.hl,d.tick,d.tl⟩
  ·show -1≤b.floor + (cutN b fl:Int); omega
  ·show b.floor + (cutN b fl:Int)≤1000001; omega
 ·exact ⟨by decide,by decide,by decide,by decide,(fun _ h =>by cases h),Nat.zero_le _,(fun _ h =>by cases h),Nat.zero_le _,(fun _ h =>by cases h),Nat.zero_le _⟩
theorem DrS.ho {b:VBook} (d:DrS b):∀ x ∈ b.objects,x.holds.length≤4194304 :=fun x hx =>Nat.le_trans (d.objs x hx).holds (by omega)
theorem DrS.hh {b:VBook} (d:DrS b):∀ x ∈ b.history,x.object.holds.length≤4194304 :=fun x hx =>Nat.le_trans (d.hist x hx).1.holds (by omega)
theorem DrS.hf {b:VBook} (d:DrS b) (w:VWa):∀ x ∈ b.history.filter (passB w),x.object.holds.length≤4194304 :=fun x hx =>d.hh x (List.mem_filter.1 hx).1
end Go.Proofs.Ytgekblcbdhjmfaa
