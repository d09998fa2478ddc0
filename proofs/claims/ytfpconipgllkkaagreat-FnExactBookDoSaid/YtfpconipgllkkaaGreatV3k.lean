/- The two BookValids are the same. -/
import Derived.Test.YtfpconipgllkkaaGreatV3j
namespace Go.Proofs.YtfpconipgllkkaaGreat
open Go.Sx
set_option linter.unusedVariables false
theorem cmp_neg (a b : ByteArray) : cmpS a b < 0 ↔ a.toList < b.toList :=by
  unfold cmpS
  rw [bytesLess_eq,bytesLess_eq]
  by_cases h : a.toList < b.toList
  · simp [h]
  · by_cases h2 : b.toList < a.toList <;> simp [h,h2]
theorem cmp_trans {a b c : ByteArray} (h1 : cmpS a b < 0) (h2 : cmpS b c < 0) : cmpS a c < 0 :=by
  rw [cmp_neg] at *
  exact List.lt_trans h1 h2
theorem key_trans {x y z : VO} (h1 : keyO x y < 0) (h2 : keyO y z < 0) : keyO x z < 0 :=by
  unfold keyO keyI at *
  by_cases e1 : cmpS x.kind y.kind = 0
  · rw [if_pos e1] at h1
    have k1 :=(cmp_zero _ _).1 e1
    rw [k1]
    by_cases e2 : cmpS y.kind z.kind = 0
    · rw [if_pos e2] at h2 ⊢
      exact cmp_trans h1 h2
    · rw [if_neg e2] at h2 ⊢
      exact h2
  · rw [if_neg e1] at h1
    by_cases e2 : cmpS y.kind z.kind = 0
    · have k2 :=(cmp_zero _ _).1 e2
      rw [← k2,if_neg e1]
      exact h1
    · rw [if_neg e2] at h2
      have h3 :=cmp_trans h1 h2
      rw [if_neg (by omega)]
      exact h3
theorem objsF_at {b : VBook} : ∀ {l : List VO} {k : Nat},objsF b k l = true → ∀ i x,l[i]? = some x → objAt b (k + i) x = true
  | [],_,_,i,x,h =>by simp at h
  | y :: r,k,hF,i,x,h =>by
    rw [objsF,Bool.and_eq_true] at hF
    cases i with
    | zero =>simp at h; subst h; exact hF.1
    | succ i =>
      have :=objsF_at hF.2 i x (by simpa using h)
      rw [show k + (i + 1) = k + 1 + i by omega]
      exact this
theorem objs_lt {b : VBook} (hF : objsF b 0 b.objects = true) : ∀ (d j : Nat) (x y : VO),b.objects[j]? = some x → b.objects[j + d + 1]? = some y → keyO x y < 0
  | 0,j,x,y,hx,hy =>by
    have h :=objsF_at hF (j + 1) y hy
    rw [Nat.zero_add] at h
    simp only [objAt,prevO,hx,Bool.and_eq_true,decide_eq_true_eq] at h
    exact h.2.2.1
  | d + 1,j,x,y,hx,hy =>by
    have hl :=(List.getElem?_eq_some_iff.1 hy).1
    have hz : b.objects[j + 1]? = some (b.objects[j + 1]'(by omega)) :=List.getElem?_eq_getElem (by omega)
    have h1 :=objs_lt hF 0 j x _ hx hz
    have h2 :=objs_lt hF d (j + 1) _ y hz (by rw [show j + 1 + d + 1 = j + (d + 1) + 1 by omega]; exact hy)
    exact key_trans h1 h2
theorem mput_new {β : Type} {p : β → Bool} {x : β} : ∀ {l : List β},(∀ y ∈ l,p y = false) → mput p x l = l ++ [x]
  | [],_ =>rfl
  | z :: l,h =>by
    rw [mput_cons,if_neg (by rw [h z List.mem_cons_self]; simp),mput_new fun y hy =>h y (List.mem_cons_of_mem _ hy)]
    rfl
theorem isO_key (o c : VO) : isO o.kind o.name c = decide (keyO c o = 0) :=by
  rw [Bool.eq_iff_iff]
  simp only [isO,Bool.and_eq_true,decide_eq_true_eq,key_zero]
  exact ⟨fun h =>⟨h.1.symm,h.2.symm⟩,fun h =>⟨h.1.symm,h.2.symm⟩⟩
theorem osF_self {b : VBook} (hF : objsF b 0 b.objects = true) : osF b.objects = b.objects :=by
  have key : ∀ i,i ≤ b.objects.length → osF (b.objects.take i) = b.objects.take i :=by
    intro i
    induction i with
    | zero =>intro _; rfl
    | succ i ih =>
      intro hi
      have hx : b.objects[i]? = some (b.objects[i]'(by omega)) :=List.getElem?_eq_getElem (by omega)
      rw [osF_snoc hx,ih (by omega),take_snoc hx,oput,mput_new]
      intro y hy
      obtain ⟨j,hj,rfl⟩ :=List.getElem_of_mem hy
      rw [List.length_take] at hj
      have hy2 : b.objects[j]? = some (b.objects[j]'(by omega)) :=List.getElem?_eq_getElem (by omega)
      have h :=objs_lt hF (i - j - 1) j _ (b.objects[i]'(by omega)) hy2 (by rw [show j + (i - j - 1) + 1 = i by omega]; exact hx)
      rw [isO_key,List.getElem_take]
      exact decide_eq_false (by omega)
  have :=key b.objects.length (Nat.le_refl _)
  rwa [List.take_length] at this
theorem objs_uniq {b : VBook} (hF : objsF b 0 b.objects = true) {x y : VO} (hx : x ∈ b.objects) (hy : y ∈ b.objects) (e : x.kind = y.kind ∧ x.name = y.name) : x = y :=by
  obtain ⟨i,hi,rfl⟩ :=List.getElem_of_mem hx
  obtain ⟨j,hj,rfl⟩ :=List.getElem_of_mem hy
  have hi2 : b.objects[i]? = some b.objects[i] :=List.getElem?_eq_getElem hi
  have hj2 : b.objects[j]? = some b.objects[j] :=List.getElem?_eq_getElem hj
  have e2 :=(key_zero _ _).2 e
  have e3 :=(key_zero b.objects[j] b.objects[i]).2 ⟨e.1.symm,e.2.symm⟩
  rcases Nat.lt_trichotomy i j with h | h | h
  · have :=objs_lt hF (j - i - 1) i _ _ hi2 (by rw [show i + (j - i - 1) + 1 = j by omega]; exact hj2)
    omega
  · subst h; rfl
  · have :=objs_lt hF (i - j - 1) j _ _ hj2 (by rw [show j + (i - j - 1) + 1 = i by omega]; exact hi2)
    omega
def same (a c : VC) : Prop :=a.object.kind = c.object.kind ∧ a.object.name = c.object.name
theorem isC_same (a c : VC) : isC a.object.kind a.object.name c = true ↔ same a c :=by
  simp only [isC,Bool.and_eq_true,decide_eq_true_eq,same]
theorem cput_dist {l : List VC} {x : VC} (h : l.Pairwise fun a c =>¬ same a c) : (cput l x).Pairwise fun a c =>¬ same a c :=by
  unfold cput
  induction l with
  | nil =>simp [mput]
  | cons z l ih =>
    rw [mput_cons]
    rw [List.pairwise_cons] at h
    split
    · rename_i hz
      rw [isC_same] at hz
      rw [List.pairwise_cons]
      refine ⟨fun y hy =>?_,h.2⟩
      have :=h.1 y hy
      intro e
      exact this ⟨hz.1.symm.trans e.1,hz.2.symm.trans e.2⟩
    · rename_i hz
      rw [isC_same] at hz
      rw [List.pairwise_cons]
      refine ⟨fun y hy =>?_,ih h.2⟩
      rcases mem_mput hy with rfl | hy
      · exact fun e =>hz ⟨e.1.symm,e.2.symm⟩
      · exact h.1 y hy
theorem csF_dist (l : List VC) : (csF l).Pairwise fun a c =>¬ same a c :=by
  have key : ∀ (l a : List VC),(a.Pairwise fun a c =>¬ same a c) → (l.foldl cput a).Pairwise fun a c =>¬ same a c :=by
    intro l
    induction l with
    | nil =>intro a h; exact h
    | cons x l ih =>intro a h; exact ih _ (cput_dist h)
  exact key l [] List.Pairwise.nil
theorem find_self : ∀ {l : List VC} {c : VC},(l.Pairwise fun a c =>¬ same a c) → c ∈ l → l.find? (isC c.object.kind c.object.name) = some c
  | [],_,_,h =>by cases h
  | z :: l,c,hp,h =>by
    rw [List.pairwise_cons] at hp
    rw [List.find?_cons]
    rcases List.mem_cons.1 h with rfl | h
    · have : isC c.object.kind c.object.name c = true :=(isC_same c c).2 ⟨rfl,rfl⟩
      rw [this]
    · have : isC c.object.kind c.object.name z = false :=by
        cases e : isC c.object.kind c.object.name z with
        | false =>rfl
        | true =>
          have e2 :=(isC_same c z).1 e
          exact absurd ⟨e2.1.symm,e2.2.symm⟩ (hp.1 c h)
      rw [this]
      exact find_self hp.2 h
theorem csF_all (b : VBook) (o : VO) : (csF b.history).find? (isC o.kind o.name) = lastO b.history o b.history.length :=by
  have :=csF_find b.history o b.history.length (Nat.le_refl _)
  rwa [List.take_length] at this
theorem last_self {b : VBook} {c : VC} (h : c ∈ csF b.history) : lastO b.history c.object b.history.length = some c :=by
  rw [← csF_all]
  exact find_self (csF_dist _) h
theorem last_mem {b : VBook} {o : VO} {c : VC} (h : lastO b.history o b.history.length = some c) : c ∈ csF b.history ∧ o.kind = c.object.kind ∧ o.name = c.object.name :=by
  rw [← csF_all] at h
  have h2 :=List.find?_some h
  simp only [isC,Bool.and_eq_true,decide_eq_true_eq] at h2
  exact ⟨List.mem_of_find?_eq_some h,h2⟩
theorem same_comm (x y : VO) : sameB x y = sameB y x :=by
  rw [Bool.eq_iff_iff]
  simp only [sameB,Bool.and_eq_true,decide_eq_true_eq,beq_iff_eq]
  constructor <;> (rintro ⟨h1,h2,h3,h4,h5,h6,h7⟩; exact ⟨h1.symm,h2.symm,h3.symm,h4.symm,h5.symm,h6.symm,h7.symm⟩)
theorem isKey_isO (k n : ByteArray) : isKey k n = isO k n :=by
  funext o
  rw [Bool.eq_iff_iff]
  simp only [isKey,isO,Bool.and_eq_true,decide_eq_true_eq]
  exact ⟨fun h =>⟨h.1.symm,h.2.symm⟩,fun h =>⟨h.1.symm,h.2.symm⟩⟩
theorem bfind_some (l : List VO) (k n : ByteArray) : (bfind l k n).2 = (l.find? (isO k n)).isSome :=by
  unfold bfind
  rw [isKey_isO]
  cases l.find? (isO k n) <;> rfl
theorem hist3F_all (b : VBook) : ∀ (l : List VC) (k : Nat),hist3F b k l = true ↔ ∀ i c,l[i]? = some c → hist3 b (k + i) c = true
  | [],k =>by simp [hist3F]
  | x :: r,k =>by
    rw [hist3F,Bool.and_eq_true,hist3F_all b r (k + 1)]
    constructor
    · rintro ⟨h1,h2⟩ i c hc
      cases i with
      | zero =>simp at hc; subst hc; exact h1
      | succ i =>
        have :=h2 i c (by simpa using hc)
        rwa [show k + 1 + i = k + (i + 1) by omega] at this
    · intro h
      refine ⟨h 0 x rfl,fun i c hc =>?_⟩
      have :=h (i + 1) c (by simpa using hc)
      rwa [show k + (i + 1) = k + 1 + i by omega] at this
theorem valid_maps {b : VBook} (hF : objsF b 0 b.objects = true) : (b.objects.all (hist2 b) && hist3F b 0 b.history) = ((csF b.history).all (chk3 b) && (osF b.objects).all (chk4 b)) :=by
  rw [Bool.eq_iff_iff]
  simp only [Bool.and_eq_true,List.all_eq_true,hist3F_all]
  rw [osF_self hF]
  constructor
  · rintro ⟨h2,h3⟩
    refine ⟨fun c hc =>?_,fun o ho =>?_⟩
    · have hL :=last_self hc
      unfold chk3
      rw [osF_self hF]
      cases hf : b.objects.find? (isO c.object.kind c.object.name) with
      | some o =>
        have ho :=List.mem_of_find?_eq_some hf
        have hk :=List.find?_some hf
        simp only [isO,Bool.and_eq_true,decide_eq_true_eq] at hk
        have h :=h2 o ho
        unfold hist2 at h
        rw [← csF_all,← hk.1,← hk.2,csF_all,hL] at h
        simp only at h ⊢
        rw [same_comm]
        exact h
      | none =>
        rcases last_cases b.history c.object b.history.length (Nat.le_refl _) with ⟨l1,l2⟩ | ⟨j,q,l1,l2,l3,l4,l5⟩
        · rw [hL] at l2; cases l2
        · rw [hL] at l5
          cases l5
          have h :=h3 j c l3
          rw [Nat.zero_add] at h
          unfold hist3 at h
          rw [l1,bfind_some,hf] at h
          simpa using h
    · have h :=h2 o ho
      unfold hist2 at h
      unfold chk4
      rw [csF_all]
      cases hl : lastO b.history o b.history.length with
      | some d =>simp
      | none =>rw [hl] at h; simpa using h
  · rintro ⟨h3,h4⟩
    refine ⟨fun o ho =>?_,fun j c hc =>?_⟩
    · unfold hist2
      cases hl : lastO b.history o b.history.length with
      | none =>
        have h :=h4 o ho
        unfold chk4 at h
        rw [csF_all,hl] at h
        simpa using h
      | some d =>
        obtain ⟨hm,hk⟩ :=last_mem hl
        have h :=h3 d hm
        unfold chk3 at h
        rw [osF_self hF] at h
        have hne : ∃ o',b.objects.find? (isO d.object.kind d.object.name) = some o' :=by
          cases hf : b.objects.find? (isO d.object.kind d.object.name) with
          | some o' =>exact ⟨o',rfl⟩
          | none =>
            have :=List.find?_eq_none.1 hf o ho
            simp only [isO,Bool.and_eq_true,decide_eq_true_eq] at this
            exact absurd ⟨hk.1.symm,hk.2.symm⟩ this
        obtain ⟨o',hf⟩ :=hne
        have ho' :=List.mem_of_find?_eq_some hf
        have hk' :=List.find?_some hf
        simp only [isO,Bool.and_eq_true,decide_eq_true_eq] at hk'
        have : o = o' :=objs_uniq hF ho ho' ⟨hk.1.trans hk'.1,hk.2.trans hk'.2⟩
        subst this
        rw [hf] at h
        simp only at h ⊢
        rw [same_comm]
        exact h
    · rw [Nat.zero_add]
      unfold hist3
      by_cases hl : lastF b.history c.object b.history.length = (j : Int)
      · cases hg : c.gone
        · rcases last_cases b.history c.object b.history.length (Nat.le_refl _) with ⟨l1,l2⟩ | ⟨i,q,l1,l2,l3,l4,l5⟩
          · rw [l1] at hl; omega
          · rw [l1] at hl
            have : i = j :=by omega
            subst this
            rw [hc] at l3
            cases l3
            have hm :=(last_mem l5).1
            have h :=h3 c hm
            unfold chk3 at h
            rw [osF_self hF] at h
            rw [bfind_some]
            cases hf : b.objects.find? (isO c.object.kind c.object.name) with
            | some o =>simp
            | none =>rw [hf,hg] at h; cases h
        · simp
      · simp [hl]
theorem valid_eq (b : VBook) : (inR b.now 0 1000000 && (inR b.floor 0 b.now && ((decide ((b.objects.length : Int) ≤ 100) && objsF b 0 b.objects) && ((decide ((b.history.length : Int) ≤ 200) && (decide ((b.history.length : Int) = b.now - b.floor) && (hist1F b 0 b.history && (b.objects.all (hist2 b) && hist3F b 0 b.history)))) && (decide ((b.tickets.length : Int) ≤ 50) && tickF b.now none b.tickets))))) = implB b :=by
  unfold implB
  cases hF : objsF b 0 b.objects
  · simp
  · rw [valid_maps hF]
    generalize inR b.now 0 1000000 = a1
    generalize inR b.floor 0 b.now = a2
    generalize decide ((b.objects.length : Int) ≤ 100) = a3
    generalize decide ((b.history.length : Int) ≤ 200) = a4
    generalize decide ((b.history.length : Int) = b.now - b.floor) = a5
    generalize hist1F b 0 b.history = a6
    generalize (csF b.history).all (chk3 b) = a7
    generalize (osF b.objects).all (chk4 b) = a8
    generalize decide ((b.tickets.length : Int) ≤ 50) = a9
    generalize tickF b.now none b.tickets = a10
    cases a1 <;> cases a2 <;> cases a3 <;> cases a4 <;> cases a5 <;> cases a6 <;> cases a7 <;> cases a8 <;> cases a9 <;> rfl
end Go.Proofs.YtfpconipgllkkaaGreat

