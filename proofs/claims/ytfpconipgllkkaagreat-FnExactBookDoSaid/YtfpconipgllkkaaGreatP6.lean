/- Texts in order: one more,one less. -/
import Derived.Test.YtfpconipgllkkaaGreatW6
namespace Go.Proofs.YtfpconipgllkkaaGreat
open Go.Sx
set_option linter.unusedVariables false
set_option linter.unusedSimpArgs false
theorem idxT_spec (h : ByteArray) : ∀ (l : List ByteArray) (k : Nat),(hasF h l = false ∧ idxT h l k = -1) ∨ (hasF h l = true ∧ ∃ i,i < l.length ∧ idxT h l k = ((k + i : Nat) : Int))
  | [],k =>.inl ⟨rfl,rfl⟩
  | x :: r,k =>by
    by_cases d : h = x
    · subst d
      exact .inr ⟨by simp [hasF],0,by simp,by simp [idxT]⟩
    · have d' : ¬ x = h :=fun e =>d e.symm
      rcases idxT_spec h r (k + 1) with ⟨h1,h2⟩ | ⟨h1,i,hi,h2⟩
      · exact .inl ⟨by simp [hasF,d',h1],by simp [idxT,d,h2]⟩
      · exact .inr ⟨by simp [hasF,h1],i + 1,by simp; omega,by simp only [idxT,if_neg d,h2]; omega⟩
theorem hasF_mem (h : ByteArray) : ∀ l : List ByteArray,hasF h l = true ↔ h ∈ l
  | [] =>by simp [hasF]
  | x :: r =>by
    simp only [hasF,Bool.or_eq_true,decide_eq_true_eq,List.mem_cons,hasF_mem h r]
    exact ⟨fun e =>e.imp Eq.symm id,fun e =>e.imp Eq.symm id⟩
def insI (l : List ByteArray) (h : ByteArray) : List ByteArray :=sortT (l ++ [h])
def delI (l : List ByteArray) (h : ByteArray) : List ByteArray :=l.take (idxT h l 0).toNat ++ l.drop ((idxT h l 0).toNat + 1)
def cntT (h : ByteArray) : List ByteArray → Nat
  | [] =>0
  | x :: r =>if Op.bytesLess x.toList h.toList = true then cntT h r + 1 else 0
def insS (l : List ByteArray) (h : ByteArray) : List ByteArray :=l.take (cntT h l) ++ [h] ++ l.drop (cntT h l)
def delS (l : List ByteArray) (h : ByteArray) : List ByteArray :=l.filter fun x =>!decide (x = h)

theorem less_lt : ∀ a b : List UInt8,Op.bytesLess a b = true ↔ a < b
  | [],[] =>by simp [Op.bytesLess]
  | [],b :: s =>by simp [Op.bytesLess]
  | a :: r,[] =>by simp [Op.bytesLess]
  | a :: r,b :: s =>by
    rw [List.cons_lt_cons_iff,← less_lt r s]
    simp [Op.bytesLess]
theorem toList_data (x : ByteArray) : x.toList = x.data.toList :=ByteArray.toList_eq x
theorem toList_inj {x y : ByteArray} (h : x.toList = y.toList) : x = y :=by
  rw [toList_data,toList_data] at h
  exact ByteArray.ext (Array.toList_inj.1 h)
def ltT (x y : ByteArray) : Prop :=x.toList < y.toList
theorem ltT_irrefl (x : ByteArray) : ¬ ltT x x :=List.lt_irrefl _
theorem ltT_trans {x y z : ByteArray} (h : ltT x y) (k : ltT y z) : ltT x z :=List.lt_trans h k
theorem ltT_total {x y : ByteArray} (h : ¬ ltT x y) (k : x ≠ y) : ltT y x :=by
  rcases List.le_total x.toList y.toList with q | q
  · exfalso
    have : ¬ y.toList < x.toList :=q
    exact k (toList_inj (List.le_antisymm q (List.not_lt.1 h)))
  · rcases Classical.em (ltT y x) with r | r
    · exact r
    · exact absurd (toList_inj (List.le_antisymm (List.not_lt.1 r) q)) k
abbrev Asc (l : List ByteArray) : Prop :=List.Pairwise ltT l

theorem cnt_spec (h : ByteArray) : ∀ l : List ByteArray,Asc l → (∀ x ∈ l.take (cntT h l),ltT x h) ∧ ∀ x ∈ l.drop (cntT h l),¬ ltT x h
  | [],_ =>by simp [cntT]
  | x :: r,ha =>by
    obtain ⟨h1,h2⟩ :=List.pairwise_cons.1 ha
    by_cases d : Op.bytesLess x.toList h.toList = true
    · obtain ⟨a,b⟩ :=cnt_spec h r h2
      simp only [cntT,if_pos d,List.take_succ_cons,List.drop_succ_cons,List.mem_cons]
      refine ⟨fun y hy =>?_,b⟩
      rcases hy with rfl | hy
      · exact (less_lt _ _).1 d
      · exact a y hy
    · simp only [cntT,if_neg d,List.take_zero,List.drop_zero]
      refine ⟨fun y hy =>(by cases hy),fun y hy =>?_⟩
      have hx : ¬ ltT x h :=fun e =>d ((less_lt _ _).2 e)
      rcases List.mem_cons.1 hy with rfl | hy
      · exact hx
      · exact fun e =>hx (ltT_trans (h1 y hy) e)
theorem insS_asc {l : List ByteArray} (ha : Asc l) {h : ByteArray} (hn : hasF h l = false) : Asc (insS l h) :=by
  obtain ⟨a,b⟩ :=cnt_spec h l ha
  have hd : ∀ x ∈ l.drop (cntT h l),ltT h x :=fun x hx =>ltT_total (b x hx) fun e =>by
    subst e
    have :=(hasF_mem x l).2 (List.mem_of_mem_drop hx)
    rw [hn] at this
    cases this
  have hsp :=ha
  rw [← List.take_append_drop (cntT h l) l] at hsp
  obtain ⟨p1,p2,p3⟩ :=List.pairwise_append.1 hsp
  unfold insS
  rw [List.append_assoc]
  refine List.pairwise_append.2 ⟨p1,List.pairwise_cons.2 ⟨hd,p2⟩,fun x hx y hy =>?_⟩
  rcases List.mem_cons.1 hy with rfl | hy
  · exact a x hx
  · exact p3 x hx y hy
theorem insS_perm (l : List ByteArray) (h : ByteArray) : (insS l h).Perm (l ++ [h]) :=by
  unfold insS
  have e : l.take (cntT h l) ++ [h] ++ l.drop (cntT h l) = l.take (cntT h l) ++ ([h] ++ l.drop (cntT h l)) :=List.append_assoc _ _ _
  rw [e]
  refine (List.Perm.append_left _ (List.perm_append_comm)).trans ?_
  rw [← List.append_assoc,List.take_append_drop]
theorem sort_eq {l m : List ByteArray} (hp : m.Perm l) (ha : Asc m) : sortT l = m :=by
  have h1 : (l.map fun b =>b.data.toList).mergeSort (fun x y =>decide (x ≤ y)) = m.map fun b =>b.data.toList :=by
    refine List.Perm.eq_of_pairwise (le :=fun a b =>a ≤ b) (fun a b _ _ h1 h2 =>List.le_antisymm h1 h2) ?_ ?_ ((List.mergeSort_perm _ _).trans (hp.symm.map _))
    · refine (List.pairwise_mergeSort (le :=fun x y : List UInt8 =>decide (x ≤ y)) (fun a b c h1 h2 =>?_) (fun a b =>?_) _).imp fun h =>of_decide_eq_true h
      · exact decide_eq_true (List.le_trans (of_decide_eq_true h1) (of_decide_eq_true h2))
      · rcases List.le_total a b with h | h
        · simp [h]
        · simp [h]
    · refine List.pairwise_map.2 (ha.imp fun {x y} h =>?_)
      have h : x.toList < y.toList :=h
      rw [toList_data,toList_data] at h
      exact List.le_of_lt h
  unfold sortT
  rw [h1,List.map_map]
  have e : ((fun l : List UInt8 =>(⟨l.toArray⟩ : ByteArray)) ∘ fun b : ByteArray =>b.data.toList) = id :=by funext b; rfl
  rw [e,List.map_id]
theorem ins_eq {l : List ByteArray} (ha : Asc l) {h : ByteArray} (hn : hasF h l = false) : insI l h = insS l h :=sort_eq (insS_perm l h) (insS_asc ha hn)

theorem asc_ne {x : ByteArray} {r : List ByteArray} (h : ∀ y ∈ r,ltT x y) : r.filter (fun y =>!decide (y = x)) = r :=by
  refine List.filter_eq_self.2 fun y hy =>?_
  have :=h y hy
  simp
  rintro rfl
  exact ltT_irrefl _ this
theorem idxT_shift (h : ByteArray) : ∀ (l : List ByteArray) (k : Nat),hasF h l = true → (idxT h l (k + 1)).toNat = (idxT h l k).toNat + 1
  | [],k,hh =>by simp [hasF] at hh
  | x :: r,k,hh =>by
    by_cases d : h = x
    · simp only [idxT,if_pos d]; omega
    · have d' : ¬ x = h :=fun e =>d e.symm
      simp only [idxT,if_neg d]
      exact idxT_shift h r (k + 1) (by simpa [hasF,d'] using hh)
theorem del_eq : ∀ {l : List ByteArray},Asc l → ∀ {h : ByteArray},hasF h l = true → delI l h = delS l h
  | [],_,h,hh =>by simp [hasF] at hh
  | x :: r,ha,h,hh =>by
    obtain ⟨h1,h2⟩ :=List.pairwise_cons.1 ha
    by_cases d : h = x
    · subst d
      simp only [delI,delS,idxT,if_true,Int.toNat_natCast,List.take_zero,List.nil_append,Nat.zero_add,List.drop_succ_cons,List.drop_zero,decide_true,Bool.not_true]
      rw [List.filter_cons_of_neg (by simp),asc_ne h1]
    · have d' : ¬ x = h :=fun e =>d e.symm
      have hr : hasF h r = true :=by simpa [hasF,d'] using hh
      have ih :=del_eq h2 hr
      have hs :=idxT_shift h r 0 hr
      simp only [delI,delS] at ih ⊢
      simp only [idxT,if_neg d]
      rw [hs,List.take_succ_cons,List.drop_succ_cons,List.filter_cons_of_pos (by simp [d']),← ih]
      rfl
theorem ascF_asc : ∀ (l : List ByteArray) (p : Option ByteArray),ascF p l = true → Asc l ∧ ∀ q,p = some q → ∀ x ∈ l,ltT q x
  | [],_,_ =>⟨List.Pairwise.nil,fun _ _ x hx =>by cases hx⟩
  | x :: r,none,h =>by
    simp only [ascF,Bool.and_eq_true] at h
    obtain ⟨h1,h2⟩ :=ascF_asc r (some x) h.2
    exact ⟨List.pairwise_cons.2 ⟨h2 x rfl,h1⟩,fun q hq =>by cases hq⟩
  | x :: r,some p,h =>by
    simp only [ascF,Bool.and_eq_true] at h
    obtain ⟨h1,h2⟩ :=ascF_asc r (some x) h.2.2
    have hp : ltT p x :=(less_lt _ _).1 h.2.1
    refine ⟨List.pairwise_cons.2 ⟨h2 x rfl,h1⟩,fun q hq y hy =>?_⟩
    cases hq
    rcases List.mem_cons.1 hy with rfl | hy
    · exact hp
    · exact ltT_trans hp (h2 x rfl y hy)
end Go.Proofs.YtfpconipgllkkaaGreat

