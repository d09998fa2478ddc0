/- Slots that most disks have: the plain model; fixed places. -/
import Derived.Test.YtnhgopjnnedhdaaW2Wm
import Derived.Test.YtnhgopjnnedhdaaSxD
namespace Go.Proofs.Ytnhgopjnnedhdaa
open Go.Sx
set_option maxRecDepth 100000
set_option maxHeartbeats 4000000
set_option linter.unusedVariables false
set_option linter.unusedSimpArgs false
def eS : ByteArray := ⟨#[]⟩
def fixd (l : List VRecFix) (k : Int) : ByteArray × Bool := match l.find? (fun f => decide (f.index = k)) with
  | some f => (f.text, true)
  | none => (eS, false)
def slotK (k : Int) (r : VRecorder) : Option VRecSlot := if 1 ≤ k ∧ k ≤ r.safe.slots.length then r.safe.slots[(k - 1).toNat]? else none
def eqS (s t : VRecSlot) : Bool := decide (s.ballot = t.ballot) && decide (s.text = t.text)
theorem eqS_iff {s t : VRecSlot} : eqS s t = true ↔ s = t := by
  obtain ⟨a, b⟩ := s
  obtain ⟨c, d⟩ := t
  simp [eqS]
instance instSl : DecidableEq VRecSlot := fun a b => decidable_of_iff (eqS a b = true) eqS_iff
def hasK (k : Int) (s : VRecSlot) (r : VRecorder) : Bool := match slotK k r with
  | some t => eqS t s
  | none => false
def cntS (k : Int) (s : VRecSlot) (l : List VRecorder) : Nat := (l.filter (hasK k s)).length
def majS (k : Int) (all : List VRecorder) : List VRecorder → ByteArray × Bool
  | [] => (eS, false)
  | r :: q => match slotK k r with
    | none => majS k all q
    | some s => if s.ballot = 0 then majS k all q else if ((all.length : Int) < 2 * (cntS k s all : Int)) then (s.text, true) else majS k all q
def cntM (M : List (VRecSlot × Int)) (s : VRecSlot) : Int := match M.find? (fun q => eqS s q.1) with
  | some q => q.2
  | none => 0
def addM (M : List (VRecSlot × Int)) (s : VRecSlot) : List (VRecSlot × Int) := mput (fun q => eqS s q.1) (s, cntM M s + 1) M
def majI (k : Int) (n : Nat) : List VRecorder → List (VRecSlot × Int) → ByteArray × Bool
  | [], _ => (eS, false)
  | r :: q, M => match slotK k r with
    | none => majI k n q M
    | some s => if 0 < s.ballot ∧ (n : Int) < 2 * (cntM M s + 1) then (s.text, true) else majI k n q (addM M s)
theorem find_append {α : Type} (p : α → Bool) (l : List α) (x : α) : (l ++ [x]).find? p = (l.find? p).or (if p x = true then some x else none) := by
  rw [List.find?_append]
  cases h : p x <;> simp [h]
theorem cntM_add (M : List (VRecSlot × Int)) (s t : VRecSlot) : cntM (addM M s) t = if s = t then cntM M s + 1 else cntM M t := by
  have hset : ∀ (M : List (VRecSlot × Int)) (i : Nat) (c : Int), M.findIdx? (fun q => eqS s q.1) = some i → (M.set i (s, c)).find? (fun q => eqS t q.1) = if s = t then some (s, c) else M.find? (fun q => eqS t q.1) := by
    intro M
    induction M with
    | nil => intro i c h; simp at h
    | cons q M ih =>
      intro i c h
      rw [List.findIdx?_cons] at h
      by_cases hq : eqS s q.1 = true
      · rw [if_pos hq] at h
        simp at h
        subst h
        have e := eqS_iff.1 hq
        rw [List.set_cons_zero, List.find?_cons, List.find?_cons]
        by_cases hst : s = t
        · subst hst
          simp [eqS_iff.2 rfl]
        · have h1 : eqS t s = false := by
            rw [Bool.eq_false_iff]
            exact fun h => hst (eqS_iff.1 h).symm
          rw [if_neg hst]
          simp only [h1]
          rw [← e, h1]
      · rw [if_neg hq] at h
        cases hx : M.findIdx? (fun q => eqS s q.1) with
        | none => rw [hx] at h; simp at h
        | some j =>
          rw [hx] at h
          simp at h
          subst h
          rw [List.set_cons_succ, List.find?_cons, List.find?_cons, ih j c hx]
          by_cases hst : s = t
          · subst hst
            simp only [if_true]
            have : eqS s q.1 = false := by simpa using hq
            rw [this]
          · simp only [if_neg hst]
  unfold addM mput
  cases hx : M.findIdx? (fun q => eqS s q.1) with
  | none =>
    show cntM (M ++ [(s, cntM M s + 1)]) t = _
    have hno : M.find? (fun q => eqS s q.1) = none := by
      rw [List.find?_eq_none]
      intro q hq
      have := List.findIdx?_eq_none_iff.1 hx q hq
      simp [this]
    unfold cntM
    rw [find_append]
    by_cases hst : s = t
    · subst hst
      rw [hno]
      simp [eqS_iff.2 rfl]
    · have h1 : eqS t s = false := by
        rw [Bool.eq_false_iff]
        exact fun h => hst (eqS_iff.1 h).symm
      simp [h1, hst]
  | some i =>
    show cntM (M.set i (s, cntM M s + 1)) t = _
    have := hset M i (cntM M s + 1) hx
    by_cases hst : s = t
    · rw [if_pos hst] at this ⊢
      rw [cntM, this]
    · rw [if_neg hst] at this ⊢
      rw [cntM, this]
      rfl
theorem hasK_slot {k : Int} {r : VRecorder} {s : VRecSlot} (h : slotK k r = some s) (t : VRecSlot) : hasK k t r = true ↔ s = t := by
  unfold hasK
  rw [h]
  exact eqS_iff
theorem cntS_append (k : Int) (s : VRecSlot) (a b : List VRecorder) : cntS k s (a ++ b) = cntS k s a + cntS k s b := by
  unfold cntS
  rw [List.filter_append, List.length_append]
theorem cntS_two (k : Int) {s t : VRecSlot} (h : s ≠ t) : ∀ l : List VRecorder, cntS k s l + cntS k t l ≤ l.length
  | [] => by simp [cntS]
  | r :: q => by
    have ih := cntS_two k h q
    have e : ∀ u, cntS k u (r :: q) = (if hasK k u r = true then 1 else 0) + cntS k u q := by
      intro u
      unfold cntS
      rw [List.filter_cons]
      split <;> simp <;> omega
    rw [e s, e t]
    have : ¬ (hasK k s r = true ∧ hasK k t r = true) := by
      rintro ⟨h1, h2⟩
      cases hx : slotK k r with
      | none => unfold hasK at h1; rw [hx] at h1; cases h1
      | some u => exact h (((hasK_slot hx s).1 h1).symm.trans ((hasK_slot hx t).1 h2))
    simp only [List.length_cons]
    by_cases h1 : hasK k s r = true
    · have h2 : ¬ hasK k t r = true := fun h2 => this ⟨h1, h2⟩
      rw [if_pos h1, if_neg h2]
      omega
    · rw [if_neg h1]
      split <;> omega
def IsMaj (k : Int) (all : List VRecorder) (s : VRecSlot) : Prop := s.ballot ≠ 0 ∧ (all.length : Int) < 2 * (cntS k s all : Int)
theorem maj_one {k : Int} {all : List VRecorder} {s t : VRecSlot} (h1 : IsMaj k all s) (h2 : IsMaj k all t) : s = t := by
  apply Classical.byContradiction
  intro h
  have := cntS_two k h all
  obtain ⟨_, h1⟩ := h1
  obtain ⟨_, h2⟩ := h2
  omega
theorem majS_spec (k : Int) (all : List VRecorder) : ∀ q : List VRecorder, (∃ s, IsMaj k all s ∧ majS k all q = (s.text, true)) ∨ (majS k all q = (eS, false) ∧ ∀ r ∈ q, ∀ s, slotK k r = some s → ¬ IsMaj k all s)
  | [] => .inr ⟨rfl, by simp⟩
  | r :: q => by
    have ih := majS_spec k all q
    cases hx : slotK k r with
    | none =>
      have e : majS k all (r :: q) = majS k all q := by rw [majS, hx]
      rw [e]
      rcases ih with h | ⟨h1, h2⟩
      · exact .inl h
      · refine .inr ⟨h1, fun r' hr' s hs => ?_⟩
        rcases List.mem_cons.1 hr' with rfl | hr'
        · rw [hx] at hs; cases hs
        · exact h2 r' hr' s hs
    | some s =>
      have e : majS k all (r :: q) = if s.ballot = 0 then majS k all q else if ((all.length : Int) < 2 * (cntS k s all : Int)) then (s.text, true) else majS k all q := by rw [majS, hx]
      by_cases hm : IsMaj k all s
      · rw [e, if_neg hm.1, if_pos hm.2]
        exact .inl ⟨s, hm, rfl⟩
      · have e2 : majS k all (r :: q) = majS k all q := by
          rw [e]
          by_cases h0 : s.ballot = 0
          · rw [if_pos h0]
          · rw [if_neg h0, if_neg (fun h => hm ⟨h0, h⟩)]
        rw [e2]
        rcases ih with h | ⟨h1, h2⟩
        · exact .inl h
        · refine .inr ⟨h1, fun r' hr' t ht => ?_⟩
          rcases List.mem_cons.1 hr' with rfl | hr'
          · rw [hx] at ht
            simp at ht
            rw [← ht]
            exact hm
          · exact h2 r' hr' t ht
theorem majI_spec (k : Int) (all : List VRecorder) : ∀ (q p : List VRecorder) (M : List (VRecSlot × Int)), all = p ++ q → (∀ s, cntM M s = (cntS k s p : Int)) → (∀ s : VRecSlot, 0 < s.ballot → ¬ ((all.length : Int) < 2 * (cntS k s p : Int))) →
    (∃ s, IsMaj k all s ∧ majI k all.length q M = (s.text, true)) ∨ (majI k all.length q M = (eS, false) ∧ ∀ s : VRecSlot, 0 < s.ballot → ¬ ((all.length : Int) < 2 * (cntS k s all : Int)))
  | [], p, M, ha, hM, hp => .inr ⟨rfl, by rw [List.append_nil] at ha; rw [ha] at hp ⊢; exact hp⟩
  | r :: q, p, M, ha, hM, hp => by
    have ha' : all = (p ++ [r]) ++ q := by rw [ha]; simp
    cases hx : slotK k r with
    | none =>
      have e : majI k all.length (r :: q) M = majI k all.length q M := by rw [majI, hx]
      have hc : ∀ s, cntS k s (p ++ [r]) = cntS k s p := fun s => by
        rw [cntS_append]
        have : cntS k s [r] = 0 := by unfold cntS hasK; simp [hx]
        omega
      rw [e]
      exact majI_spec k all q (p ++ [r]) M ha' (fun s => by rw [hc]; exact hM s) (fun s hs => by rw [hc]; exact hp s hs)
    | some s =>
      have hcs : cntS k s (p ++ [r]) = cntS k s p + 1 := by
        rw [cntS_append]
        have : cntS k s [r] = 1 := by unfold cntS; simp [(hasK_slot hx s).2 rfl]
        omega
      have hct : ∀ t, s ≠ t → cntS k t (p ++ [r]) = cntS k t p := fun t ht => by
        rw [cntS_append]
        have : cntS k t [r] = 0 := by
          unfold cntS
          have : ¬ hasK k t r = true := fun h => ht ((hasK_slot hx t).1 h)
          simp [this]
        omega
      have e : majI k all.length (r :: q) M = if 0 < s.ballot ∧ (all.length : Int) < 2 * (cntM M s + 1) then (s.text, true) else majI k all.length q (addM M s) := by rw [majI, hx]
      rw [e]
      by_cases hb : 0 < s.ballot ∧ (all.length : Int) < 2 * (cntM M s + 1)
      · rw [if_pos hb]
        refine .inl ⟨s, ⟨by omega, ?_⟩, rfl⟩
        have : cntS k s all = cntS k s (p ++ [r]) + cntS k s q := by rw [ha', cntS_append]
        have h2 := hM s
        omega
      · rw [if_neg hb]
        refine majI_spec k all q (p ++ [r]) (addM M s) ha' (fun t => ?_) (fun t ht => ?_)
        · rw [cntM_add]
          by_cases hst : s = t
          · subst hst
            rw [if_pos rfl, hM, hcs]
            omega
          · rw [if_neg hst, hM, hct t hst]
        · by_cases hst : s = t
          · subst hst
            rw [hcs]
            have h2 := hM s
            intro h3
            exact hb ⟨ht, by omega⟩
          · rw [hct t hst]
            exact hp t ht
theorem cnt_mem {k : Int} {s : VRecSlot} {l : List VRecorder} (h : 0 < cntS k s l) : ∃ r ∈ l, slotK k r = some s := by
  unfold cntS at h
  obtain ⟨r, hr⟩ := List.exists_mem_of_length_pos h
  obtain ⟨h1, h2⟩ := List.mem_filter.1 hr
  refine ⟨r, h1, ?_⟩
  unfold hasK at h2
  cases hx : slotK k r with
  | none => rw [hx] at h2; cases h2
  | some t => rw [hx] at h2; rw [eqS_iff.1 h2]
theorem maj_eq (k : Int) (all : List VRecorder) (h0 : ∀ r ∈ all, ∀ s, slotK k r = some s → 0 ≤ s.ballot) : majI k all.length all [] = majS k all all := by
  rcases majI_spec k all all [] [] rfl (fun s => rfl) (fun s _ => by simp [cntS]) with ⟨s, hs, e⟩ | ⟨e, hno⟩
  · rcases majS_spec k all all with ⟨t, ht, e2⟩ | ⟨_, hno⟩
    · rw [e, e2, maj_one hs ht]
    · obtain ⟨r, hr, hsl⟩ := cnt_mem (k := k) (s := s) (l := all) (by have := hs.2; omega)
      exact absurd hs (hno r hr s hsl)
  · rcases majS_spec k all all with ⟨t, ht, e2⟩ | ⟨e2, _⟩
    · obtain ⟨r, hr, hsl⟩ := cnt_mem (k := k) (s := t) (l := all) (by have := ht.2; omega)
      have := h0 r hr t hsl
      have h1 := ht.1
      exact absurd ht.2 (hno t (by omega))
    · rw [e, e2]
end Go.Proofs.Ytnhgopjnnedhdaa

