/- Sorted lists of objects; what there was at a version: the plain model. -/
import Derived.Test.YtdjapblnmkghoaaT4k
import Derived.Test.YtdjapblnmkghoaaCu4
namespace Go.Proofs.Ytdjapblnmkghoaa
open Go.Sx
set_option maxRecDepth 100000
set_option maxHeartbeats 4000000
set_option linter.unusedVariables false
set_option linter.unusedSimpArgs false
theorem cmp_anti (a b : ByteArray) : cmpS a b = - cmpS b a := by
  unfold cmpS
  have h := bytesLess_total a.toList b.toList
  cases h1 : Op.bytesLess a.toList b.toList <;> cases h2 : Op.bytesLess b.toList a.toList
  · simp
  · simp
  · simp
  · rw [h1, h2] at h
    simp at h
theorem key_anti (x y : VBookObject) : keyO x y = - keyO y x := by
  unfold keyO keyI
  have h1 := cmp_anti x.kind y.kind
  have h2 := cmp_anti x.name y.name
  by_cases e : cmpS x.kind y.kind = 0
  · rw [if_pos e, if_pos (by omega)]; exact h2
  · rw [if_neg e, if_neg (by omega)]; exact h1
theorem key_self (x : VBookObject) : keyO x x = 0 := (key_zero x x).2 ⟨rfl, rfl⟩
theorem key_congL {x y : VBookObject} (h : keyO x y = 0) (z : VBookObject) : keyO x z = keyO y z := by
  obtain ⟨h1, h2⟩ := (key_zero x y).1 h
  unfold keyO
  rw [h1, h2]
theorem key_congR {x y : VBookObject} (h : keyO x y = 0) (z : VBookObject) : keyO z x = keyO z y := by
  obtain ⟨h1, h2⟩ := (key_zero x y).1 h
  unfold keyO
  rw [h1, h2]
def Sorted (l : List VBookObject) : Prop := l.Pairwise fun x y => keyO x y < 0
def lookO (l : List VBookObject) (p : VBookObject) : Option VBookObject := l.find? fun x => decide (keyO x p = 0)
theorem look_consO (x : VBookObject) (l : List VBookObject) (p : VBookObject) : lookO (x :: l) p = if keyO x p = 0 then some x else lookO l p := by
  unfold lookO
  rw [List.find?_cons]
  by_cases h : keyO x p = 0 <;> simp [h]
theorem look_lt {l : List VBookObject} {p : VBookObject} (h : ∀ y ∈ l, 0 < keyO y p) : lookO l p = none := by
  unfold lookO
  rw [List.find?_eq_none]
  intro y hy
  have := h y hy
  simp
  omega
theorem sorted_eq : ∀ {l m : List VBookObject}, Sorted l → Sorted m → (∀ p, lookO l p = lookO m p) → l = m
  | [], [], _, _, _ => rfl
  | [], y :: s, _, _, h => by
    have := h y
    rw [look_consO, if_pos (key_self y)] at this
    cases this
  | x :: r, [], _, _, h => by
    have := h x
    rw [look_consO, if_pos (key_self x)] at this
    cases this
  | x :: r, y :: s, hl, hm, h => by
    obtain ⟨l1, l2⟩ := List.pairwise_cons.1 hl
    obtain ⟨m1, m2⟩ := List.pairwise_cons.1 hm
    have above : ∀ {a : VBookObject} {t : List VBookObject} {p : VBookObject}, (∀ z ∈ t, keyO a z < 0) → keyO p a ≤ 0 → lookO t p = none := by
      intro a t p ht hp
      refine look_lt (fun z hz => ?_)
      have h1 := ht z hz
      have h2 : keyO p z < 0 := by
        rcases Int.lt_or_eq_of_le hp with h3 | h3
        · exact key_trans h3 h1
        · rw [key_congL h3]; exact h1
      have := key_anti z p
      omega
    have hxy : keyO x y = 0 := by
      apply Classical.byContradiction
      intro hne
      have ha := key_anti x y
      rcases Int.lt_or_gt_of_ne hne with h3 | h3
      · have h1 := h x
        rw [look_consO, if_pos (key_self x), look_consO, if_neg (by omega), above m1 (by omega)] at h1
        cases h1
      · have h1 := h y
        rw [look_consO, if_neg (by omega), look_consO, if_pos (key_self y), above l1 (by omega)] at h1
        cases h1
    have hx : x = y := by
      have h1 := h x
      rw [look_consO, if_pos (key_self x), look_consO, if_pos (by have := key_anti x y; omega)] at h1
      exact Option.some.inj h1
    subst hx
    congr 1
    refine sorted_eq l2 m2 (fun p => ?_)
    by_cases hp : keyO x p = 0
    · have hpx : keyO p x ≤ 0 := by have := key_anti p x; omega
      rw [above l1 hpx, above m1 hpx]
    · have h1 := h p
      rw [look_consO, look_consO, if_neg hp, if_neg hp] at h1
      exact h1
theorem filter_sorted {l : List VBookObject} (p : VBookObject → Bool) (h : Sorted l) : Sorted (l.filter p) := List.Pairwise.filter p h
theorem look_filter {l : List VBookObject} (o p : VBookObject) (h : Sorted l) : lookO (l.filter (neK o)) p = if keyO o p = 0 then none else lookO l p := by
  induction l with
  | nil => simp [lookO]
  | cons x r ih =>
    obtain ⟨h1, h2⟩ := List.pairwise_cons.1 h
    rw [List.filter_cons]
    by_cases hx : keyO x o = 0
    · have e : neK o x = false := by unfold neK; rw [decide_eq_true hx]; rfl
      rw [e, if_neg (by simp), ih h2, look_consO]
      by_cases hp : keyO o p = 0
      · rw [if_pos hp, if_pos hp]
      · rw [if_neg hp, if_neg hp, if_neg (by rw [key_congL hx]; exact hp)]
    · have e : neK o x = true := by unfold neK; rw [decide_eq_false hx]; rfl
      rw [e, if_pos rfl, look_consO, ih h2, look_consO]
      by_cases hp : keyO o p = 0
      · rw [if_pos hp, if_pos hp, if_neg (by rw [← key_congR hp]; exact hx)]
      · rw [if_neg hp, if_neg hp]
theorem put_mem {o y : VBookObject} : ∀ {d : Bool} {l : List VBookObject}, y ∈ putR o d l → y = o ∨ y ∈ l
  | d, [], h => by cases d <;> simp [putR] at h; exact .inl h
  | d, x :: r, h => by
    rw [putR] at h
    rcases List.mem_append.1 h with h | h
    · split at h
      · simp at h; exact .inl h
      · cases h
    · rcases List.mem_append.1 h with h | h
      · split at h
        · simp at h; exact .inr (by simp [h])
        · cases h
      · rcases put_mem h with h | h
        · exact .inl h
        · exact .inr (List.mem_cons_of_mem _ h)
theorem put_sorted (o : VBookObject) : ∀ {d : Bool} {l : List VBookObject}, Sorted l → Sorted (putR o d l)
  | true, l, h => by rw [putR_done]; exact filter_sorted _ h
  | false, [], _ => by simp [putR, Sorted]
  | false, x :: r, h => by
    obtain ⟨h1, h2⟩ := List.pairwise_cons.1 h
    rw [putR]
    by_cases hg : 0 ≤ keyO x o
    · have e : geK o x = true := decide_eq_true hg
      rw [e, Bool.or_true, putR_done]
      have hox : keyO o x ≤ 0 := by have := key_anti o x; omega
      have hor : ∀ z ∈ r, keyO o z < 0 := fun z hz => by
        rcases Int.lt_or_eq_of_le hox with h3 | h3
        · exact key_trans h3 (h1 z hz)
        · rw [key_congL h3]; exact h1 z hz
      simp only [Bool.not_false, Bool.and_self, if_true, List.singleton_append]
      refine List.pairwise_cons.2 ⟨fun z hz => ?_, ?_⟩
      · rcases List.mem_append.1 hz with hz | hz
        · split at hz
          · rename_i hn
            simp at hz
            subst hz
            have hne : keyO z o ≠ 0 := by
              unfold neK at hn
              simpa using hn
            have := key_anti o z
            omega
          · cases hz
        · exact hor z (List.mem_filter.1 hz).1
      · split
        · rw [List.singleton_append]
          exact List.pairwise_cons.2 ⟨fun z hz => h1 z (List.mem_filter.1 hz).1, filter_sorted _ h2⟩
        · exact filter_sorted _ h2
    · have e : geK o x = false := decide_eq_false hg
      have hn : neK o x = true := by unfold neK; rw [decide_eq_false (by omega)]; rfl
      rw [e, hn, Bool.or_false]
      simp only [Bool.and_false, Bool.false_eq_true, if_false, List.nil_append, if_true, List.singleton_append]
      refine List.pairwise_cons.2 ⟨fun z hz => ?_, put_sorted o h2⟩
      rcases put_mem hz with rfl | hz
      · omega
      · exact h1 z hz
theorem look_put (o p : VBookObject) : ∀ {l : List VBookObject}, Sorted l → lookO (putR o false l) p = if keyO o p = 0 then some o else lookO l p
  | [], _ => by simp [putR, lookO]
  | x :: r, h => by
    obtain ⟨h1, h2⟩ := List.pairwise_cons.1 h
    rw [putR]
    by_cases hg : 0 ≤ keyO x o
    · have e : geK o x = true := decide_eq_true hg
      rw [e, Bool.or_true, putR_done]
      simp only [Bool.not_false, Bool.and_self, if_true, List.singleton_append]
      rw [look_consO]
      by_cases hp : keyO o p = 0
      · rw [if_pos hp, if_pos hp]
      · rw [if_neg hp, if_neg hp]
        have := look_filter o p h
        rw [List.filter_cons, if_neg hp] at this
        rw [← this]
        split <;> simp
    · have e : geK o x = false := decide_eq_false hg
      have hn : neK o x = true := by unfold neK; rw [decide_eq_false (by omega)]; rfl
      rw [e, hn, Bool.or_false]
      simp only [Bool.and_false, Bool.false_eq_true, if_false, List.nil_append, if_true, List.singleton_append]
      rw [look_consO, look_put o p h2, look_consO]
      by_cases hp : keyO o p = 0
      · rw [if_pos hp, if_pos hp, if_neg (by rw [← key_congR hp]; omega)]
      · rw [if_neg hp, if_neg hp]
def apC (l : List VBookObject) (c : VBookChange) : List VBookObject := if c.gone = true then putR c.object true l else putR c.object false (putR c.object true l)
def updC (c : VBookChange) (p : VBookObject) (x : Option VBookObject) : Option VBookObject := if keyO c.object p = 0 then (if c.gone = true then none else some c.object) else x
theorem apC_ok {l : List VBookObject} (h : Sorted l) (c : VBookChange) : Sorted (apC l c) ∧ ∀ p, lookO (apC l c) p = updC c p (lookO l p) := by
  unfold apC updC
  cases hg : c.gone
  · refine ⟨by simp only [Bool.false_eq_true, if_false]; exact put_sorted _ (put_sorted _ h), fun p => ?_⟩
    simp only [Bool.false_eq_true, if_false]
    rw [look_put _ _ (put_sorted _ h), putR_done, look_filter _ _ h]
    split <;> rfl
  · refine ⟨by simp only [if_true]; exact put_sorted _ h, fun p => ?_⟩
    simp only [if_true]
    rw [putR_done, look_filter _ _ h]
theorem putC_ok {l : List VBookObject} (h : Sorted l) (c : VBookChange) : Sorted (putR c.object c.gone l) ∧ ∀ p, lookO (putR c.object c.gone l) p = updC c p (lookO l p) := by
  unfold updC
  cases hg : c.gone
  · exact ⟨put_sorted _ h, fun p => by rw [look_put _ _ h]; simp⟩
  · exact ⟨put_sorted _ h, fun p => by rw [putR_done, look_filter _ _ h]; simp⟩
def hS (v : Int) (l : List VBookObject) (c : VBookChange) : List VBookObject := if c.version ≤ v then putR c.object c.gone l else l
def hI (v : Int) (l : List VBookObject) (c : VBookChange) : List VBookObject := if v < c.version then l else apC l c
def oP (fl : Int) (l : List VBookObject) (o : VBookObject) : List VBookObject := if o.version ≤ fl then putR o false l else l
def hF (v : Int) (p : VBookObject) (x : Option VBookObject) (c : VBookChange) : Option VBookObject := if c.version ≤ v then updC c p x else x
def oF (fl : Int) (p : VBookObject) (x : Option VBookObject) (o : VBookObject) : Option VBookObject := if o.version ≤ fl then (if keyO o p = 0 then some o else x) else x
theorem hS_ok (v : Int) : ∀ (cs : List VBookChange) {l : List VBookObject}, Sorted l → Sorted (cs.foldl (hS v) l) ∧ ∀ p, lookO (cs.foldl (hS v) l) p = cs.foldl (hF v p) (lookO l p)
  | [], l, h => ⟨h, fun _ => rfl⟩
  | c :: cs, l, h => by
    have h1 : Sorted (hS v l c) ∧ ∀ p, lookO (hS v l c) p = hF v p (lookO l p) c := by
      unfold hS hF
      by_cases hc : c.version ≤ v
      · rw [if_pos hc]
        exact ⟨(putC_ok h c).1, fun p => by rw [if_pos hc, (putC_ok h c).2]⟩
      · rw [if_neg hc]
        exact ⟨h, fun p => by rw [if_neg hc]⟩
    obtain ⟨i1, i2⟩ := hS_ok v cs h1.1
    exact ⟨i1, fun p => by rw [List.foldl_cons, i2, h1.2, List.foldl_cons]⟩
theorem hI_ok (v : Int) : ∀ (cs : List VBookChange) {l : List VBookObject}, Sorted l → Sorted (cs.foldl (hI v) l) ∧ ∀ p, lookO (cs.foldl (hI v) l) p = cs.foldl (hF v p) (lookO l p)
  | [], l, h => ⟨h, fun _ => rfl⟩
  | c :: cs, l, h => by
    have h1 : Sorted (hI v l c) ∧ ∀ p, lookO (hI v l c) p = hF v p (lookO l p) c := by
      unfold hI hF
      by_cases hc : v < c.version
      · rw [if_pos hc]
        exact ⟨h, fun p => by rw [if_neg (by omega)]⟩
      · rw [if_neg hc]
        exact ⟨(apC_ok h c).1, fun p => by rw [if_pos (by omega), (apC_ok h c).2]⟩
    obtain ⟨i1, i2⟩ := hI_ok v cs h1.1
    exact ⟨i1, fun p => by rw [List.foldl_cons, i2, h1.2, List.foldl_cons]⟩
theorem oP_ok (fl : Int) : ∀ (os : List VBookObject) {l : List VBookObject}, Sorted l → Sorted (os.foldl (oP fl) l) ∧ ∀ p, lookO (os.foldl (oP fl) l) p = os.foldl (oF fl p) (lookO l p)
  | [], l, h => ⟨h, fun _ => rfl⟩
  | o :: os, l, h => by
    have h1 : Sorted (oP fl l o) ∧ ∀ p, lookO (oP fl l o) p = oF fl p (lookO l p) o := by
      unfold oP oF
      by_cases hc : o.version ≤ fl
      · rw [if_pos hc]
        exact ⟨put_sorted _ h, fun p => by rw [if_pos hc, look_put _ _ h]⟩
      · rw [if_neg hc]
        exact ⟨h, fun p => by rw [if_neg hc]⟩
    obtain ⟨i1, i2⟩ := oP_ok fl os h1.1
    exact ⟨i1, fun p => by rw [List.foldl_cons, i2, h1.2, List.foldl_cons]⟩
theorem hF_none {v : Int} {p : VBookObject} : ∀ {cs : List VBookChange} {x : Option VBookObject}, (∀ c ∈ cs, keyO c.object p ≠ 0) → cs.foldl (hF v p) x = x
  | [], x, _ => rfl
  | c :: cs, x, h => by
    rw [List.foldl_cons, hF_none (fun c hc => h c (List.mem_cons_of_mem _ hc))]
    unfold hF updC
    rw [if_neg (h c (by simp))]
    split <;> rfl
theorem oF_none {fl : Int} {p : VBookObject} : ∀ {os : List VBookObject} {x : Option VBookObject}, (∀ o ∈ os, o.version ≤ fl → keyO o p ≠ 0) → os.foldl (oF fl p) x = x
  | [], x, _ => rfl
  | o :: os, x, h => by
    rw [List.foldl_cons, oF_none (fun c hc => h c (List.mem_cons_of_mem _ hc))]
    unfold oF
    by_cases ho : o.version ≤ fl
    · rw [if_pos ho, if_neg (h o (by simp) ho)]
    · rw [if_neg ho]
theorem last_none {h : List VBookChange} {o : VBookObject} (hn : lastO h o h.length = none) : ∀ c ∈ h, keyO c.object o ≠ 0 := by
  intro c hc
  obtain ⟨i, hi, rfl⟩ := List.getElem_of_mem hc
  have key : ∀ n, n ≤ h.length → lastO h o n = none → ∀ i, i < n → ∀ c, h[i]? = some c → keyO c.object o ≠ 0 := by
    intro n
    induction n with
    | zero => intro _ _ i hi; omega
    | succ n ih =>
      intro hn2 hl i hi c hci
      have hx : h[n]? = some (h[n]'(by omega)) := List.getElem?_eq_getElem (by omega)
      generalize h[n]'(by omega) = d at hx
      simp only [lastO, hx] at hl
      split at hl
      · cases hl
      · rename_i hne
        by_cases hin : i = n
        · subst hin
          rw [hx] at hci
          simp at hci
          subst hci
          exact hne
        · exact ih (by omega) hl i (by omega) c hci
  exact key h.length (Nat.le_refl _) hn i hi _ (List.getElem?_eq_getElem hi)
theorem old_apart {b : VBook} (h : implB b = true) {o : VBookObject} (ho : o ∈ b.objects) (hv : o.version ≤ b.floor) {c : VBookChange} (hc : c ∈ b.history) : keyO c.object o ≠ 0 := by
  intro hk
  have hfacts := valid_facts h
  simp only [implB, Bool.and_eq_true] at h
  obtain ⟨_, _, _, _, _, _, hF, _, h3, _⟩ := h
  obtain ⟨i, hi, hci⟩ := List.getElem_of_mem hc
  rcases last_cases b.history o b.history.length (Nat.le_refl _) with ⟨h1, h2⟩ | ⟨j, c', h1, hj, hjc, h4, h5⟩
  · -- there is one
    have := csF_all b o
    rw [h2] at this
    have hm : c ∈ b.history := hc
    exact absurd hk (last_none h2 c hc)
  · have hm := (last_mem h5).1
    have h6 := List.all_eq_true.1 h3 c' hm
    unfold chk3 at h6
    rw [osF_self hF] at h6
    have hf : b.objects.find? (isO c'.object.kind c'.object.name) = some o := by
      cases hx : b.objects.find? (isO c'.object.kind c'.object.name) with
      | none =>
        have := List.find?_eq_none.1 hx o ho
        rw [isO_key] at this
        have h7 := key_anti o c'.object
        simp at this
        omega
      | some o' =>
        have h7 := List.find?_some hx
        rw [isO_key] at h7
        have h8 : keyO o' c'.object = 0 := by simpa using h7
        have h9 : keyO o' o = 0 := by rw [← key_congR h4]; exact h8
        rw [objs_uniq hF (List.mem_of_find?_eq_some hx) ho ((key_zero _ _).1 h9)]
    rw [hf] at h6
    simp only [Bool.and_eq_true] at h6
    have h7 := h6.2
    unfold sameB at h7
    simp only [Bool.and_eq_true, decide_eq_true_eq] at h7
    have h8 := hfacts.2.2.2.2.2 j c' hjc
    omega
def atS (b : VBook) (v : Int) : List VBookObject := b.history.foldl (hS v) (b.objects.foldl (oP b.floor) [])
def atI (b : VBook) (v : Int) : List VBookObject := b.objects.foldl (oP b.floor) (b.history.foldl (hI v) [])
theorem at_eq {b : VBook} (h : implB b = true) (v : Int) : atI b v = atS b v := by
  have s0 : Sorted [] := List.Pairwise.nil
  have o1 := oP_ok b.floor b.objects s0
  have h1 := hS_ok v b.history o1.1
  have h2 := hI_ok v b.history s0
  have o2 := oP_ok b.floor b.objects h2.1
  refine sorted_eq o2.1 h1.1 (fun p => ?_)
  unfold atI atS
  rw [o2.2, h2.2, h1.2, o1.2]
  by_cases hp : ∃ o ∈ b.objects, o.version ≤ b.floor ∧ keyO o p = 0
  · obtain ⟨o, ho, hv, hk⟩ := hp
    have hno : ∀ c ∈ b.history, keyO c.object p ≠ 0 := fun c hc => by
      rw [← key_congR hk]
      exact old_apart h ho hv hc
    rw [hF_none hno, hF_none hno]
  · have hno : ∀ o ∈ b.objects, o.version ≤ b.floor → keyO o p ≠ 0 := fun o ho hv hk => hp ⟨o, ho, hv, hk⟩
    rw [oF_none hno, oF_none hno]
end Go.Proofs.Ytdjapblnmkghoaa

