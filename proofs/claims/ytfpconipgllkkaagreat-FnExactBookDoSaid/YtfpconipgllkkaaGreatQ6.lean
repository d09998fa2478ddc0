/- A write: the two sides make the same change (plain). -/
import Derived.Test.YtfpconipgllkkaaGreatD6d
import Derived.Test.YtfpconipgllkkaaGreatKS6
namespace Go.Proofs.YtfpconipgllkkaaGreat
open Go.Sx
set_option linter.unusedVariables false
set_option linter.unusedSimpArgs false
def bookS (b : VBook) (w : VW) (o : VO) (t : Bool) : VBook :=if chC b w o t = 0 then bookC b (chG insS delS w (b.now + 1) o) else b
abbrev fO (b : VBook) (w : VW) : VO :=(bfind b.objects w.kind w.name).1
abbrev fT (b : VBook) (w : VW) : Bool :=(bfind b.objects w.kind w.name).2
def AscO (b : VBook) : Prop :=∀ o ∈ b.objects,Asc o.holds
theorem objs_mem (b : VBook) : ∀ (l : List VO) (i : Nat),objsF b i l = true → ∀ o ∈ l,partsB o b.now = true
  | [],_,_,o,ho =>by cases ho
  | x :: r,i,h,o,ho =>by
    simp only [objsF,Bool.and_eq_true] at h
    rcases List.mem_cons.1 ho with rfl | ho
    · have :=h.1
      simp only [objAt,Bool.and_eq_true] at this
      exact this.1
    · exact objs_mem b r (i + 1) h.2 o ho
theorem valid_now {b : VBook} (h : implB b = true) : 0 ≤ b.now ∧ b.now ≤ 1000000 :=by
  simp only [implB,inR,Bool.and_eq_true,decide_eq_true_eq] at h
  exact h.1
theorem valid_parts {b : VBook} (h : implB b = true) : ∀ o ∈ b.objects,partsB o b.now = true :=by
  simp only [implB,Bool.and_eq_true] at h
  exact objs_mem b _ 0 h.2.2.2.2.2.2.1
theorem valid_asc {b : VBook} (h : implB b = true) : AscO b :=by
  intro o ho
  have :=valid_parts h o ho
  simp only [partsB,Bool.and_eq_true] at this
  exact (ascF_asc _ _ this.2.2.2.2.2.2).1
theorem find_asc {b : VBook} (h : AscO b) (k n : ByteArray) : Asc (bfind b.objects k n).1.holds :=by
  unfold bfind
  cases e : b.objects.find? (isKey k n) with
  | none =>exact List.Pairwise.nil
  | some o =>exact h o (List.mem_of_find?_eq_some e)
theorem chO_eq {b : VBook} {w : VW} {o : VO} {t : Bool} (ha : Asc o.holds) (h0 : chC b w o t = 0) (h5 : w.op ≤ 5) (h1 : 1 ≤ w.op) (v : Int) : chO insI delI w v o = chO insS delS w v o :=by
  unfold chO
  by_cases o1 : w.op = 1
  · rw [if_pos o1,if_pos o1]
  by_cases o2 : w.op = 2
  · rw [if_neg o1,if_neg o1,if_pos o2,if_pos o2]
  by_cases o3 : w.op = 3
  · rw [if_neg o1,if_neg o1,if_neg o2,if_neg o2,if_pos o3,if_pos o3]
  by_cases o4 : w.op = 4
  · have hn : hasF w.hold o.holds = false :=by
      cases e : hasF w.hold o.holds with
      | false =>rfl
      | true =>
        exfalso
        unfold chC at h0
        split at h0
        · omega
        split at h0
        · omega
        split at h0
        · omega
        split at h0
        · omega
        split at h0
        · omega
        · rename_i hx
          exact hx ⟨o4,e⟩
    rw [if_neg o1,if_neg o1,if_neg o2,if_neg o2,if_neg o3,if_neg o3,if_pos o4,if_pos o4,ins_eq ha hn]
  · have o5 : w.op = 5 :=by omega
    have hn : hasF w.hold o.holds = true :=by
      cases e : hasF w.hold o.holds with
      | true =>rfl
      | false =>
        exfalso
        unfold chC at h0
        split at h0
        · omega
        split at h0
        · omega
        split at h0
        · omega
        split at h0
        · omega
        split at h0
        · omega
        split at h0
        · omega
        split at h0
        · omega
        · rename_i hx
          exact hx ⟨o5,e⟩
    rw [if_neg o1,if_neg o1,if_neg o2,if_neg o2,if_neg o3,if_neg o3,if_neg o4,if_neg o4,del_eq ha hn]
theorem wrB_op {w : VW} (h : wrB w = true) : 1 ≤ w.op ∧ w.op ≤ 5 :=by
  simp only [wrB,inR,Bool.and_eq_true,decide_eq_true_eq] at h
  omega
theorem book_eq {b : VBook} {w : VW} (ha : AscO b) (hw : wrB w = true) : bookI b w (fO b w) (fT b w) = bookS b w (fO b w) (fT b w) :=by
  unfold bookI bookS
  split
  · rename_i h0
    unfold chG
    rw [chO_eq (find_asc ha _ _) h0 (wrB_op hw).2 (wrB_op hw).1]
  · rfl
theorem chO_w (w : VW) (v : Int) (o : VO) : (chO insS delS w v o).w ≤ o.w + w.w + 1 :=by
  have hd : sumWString (delS o.holds w.hold) ≤ sumWString o.holds ∧ (delS o.holds w.hold).length ≤ o.holds.length :=by
    unfold delS
    generalize o.holds = l
    induction l with
    | nil =>exact ⟨Nat.le_refl _,Nat.le_refl _⟩
    | cons x r ih =>
      by_cases e : x = w.hold
      · rw [List.filter_cons_of_neg (by simp [e])]
        simp only [sumWString,List.length_cons]
        omega
      · rw [List.filter_cons_of_pos (by simp [e])]
        simp only [sumWString,List.length_cons]
        omega
  have hsum : ∀ a c : List ByteArray,sumWString (a ++ c) = sumWString a + sumWString c :=by
    intro a c
    induction a with
    | nil =>simp [sumWString]
    | cons x r ih =>simp only [List.cons_append,sumWString,ih]; omega
  have hi : sumWString (insS o.holds w.hold) = sumWString o.holds + w.hold.size ∧ (insS o.holds w.hold).length = o.holds.length + 1 :=by
    unfold insS
    have h :=hsum (o.holds.take (cntT w.hold o.holds)) (o.holds.drop (cntT w.hold o.holds))
    rw [List.take_append_drop] at h
    have h2 :=congrArg List.length (List.take_append_drop (cntT w.hold o.holds) o.holds)
    rw [List.length_append] at h2
    refine ⟨?_,?_⟩
    · rw [hsum,hsum,h]
      simp only [sumWString]
      omega
    · simp only [List.length_append,List.length_cons,List.length_nil]
      omega
  unfold chO
  repeat' split
  all_goals simp only [VO.w,VW.w,wSString,List.length_nil,List.length_cons,sumWString,hi.1,hi.2] <;> omega
theorem sumC_append : ∀ a b : List VC,sumWBookChange (a ++ b) = sumWBookChange a + sumWBookChange b
  | [],b =>by simp [sumWBookChange]
  | x :: a,b =>by simp only [List.cons_append,sumWBookChange,sumC_append a b]; omega
theorem bookC_w (b : VBook) (c : VC) : (bookC b c).w ≤ b.w + 2 * (c.w + 1) :=by
  have h1 :=putR_w c.object c.gone b.objects
  have h2 :=sumC_append b.history [c]
  unfold bookC VBook.w VC.w wSBookChange
  simp only [sumWBookChange,VC.w] at h2
  split
  · simp only [List.length_append,List.length_cons,List.length_nil,h2]
    omega
  · cases b.history with
    | nil =>simp only [List.nil_append,List.drop_succ_cons,List.drop_zero,List.length_nil,sumWBookChange]; omega
    | cons x r =>
      have h3 :=sumC_append r [c]
      simp only [sumWBookChange,VC.w] at h3
      simp only [List.cons_append,List.drop_succ_cons,List.drop_zero,List.length_append,List.length_cons,List.length_nil,h3,sumWBookChange]
      omega
theorem bookS_w (b : VBook) (w : VW) : (bookS b w (fO b w) (fT b w)).w ≤ b.w + 2 * (b.w + w.w + 2) :=by
  unfold bookS
  split
  · have h1 :=bookC_w b (chG insS delS w (b.now + 1) (fO b w))
    have h2 :=chO_w w (b.now + 1) (fO b w)
    have h3 : (fO b w).w ≤ b.w :=bfind_w b w.kind w.name
    simp only [chG,VC.w] at h1 h2 h3 ⊢
    omega
  · omega
end Go.Proofs.YtfpconipgllkkaaGreat

