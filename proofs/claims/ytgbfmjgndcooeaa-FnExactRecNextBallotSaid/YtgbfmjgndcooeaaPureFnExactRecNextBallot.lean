/- The law FnExactRecNextBallot answers true at every three whole numbers: the least ballot above a bound that leaves the number's remainder, found by counting up, is the one that the closed formula gives. No condition. -/
import Derived.Test.YtgbfmjgndcooeaaPFnExactRecNextBallotx1
namespace Go.Proofs.Ytgbfmjgndcooeaa.Pure
open Go.RowKit Go.Proofs.Ytgbfmjgndcooeaa.PFnExactRecNextBallot Go.Proofs.YtgbfmjgndcooeaaW.PrintWords Go.Proofs.YtgbfmjgndcooeaaW.PrintLast

theorem wrap_id {x : Int} (h0 : -9000000000 ≤ x) (h1 : x ≤ 9000000000) : wrap64 x = x := by
  unfold wrap64
  omega

/-- Counting up from i finds the target b, when no number from i to b leaves the remainder. -/
theorem count_finds (n o b : Int) (h1 : 1 ≤ o) (hb1 : b ≤ 1000000) (hm : Int.tmod b o = Int.tmod n o) (d : Nat) :
    ∀ (k : Nat) (i : Int), 0 ≤ i → b - i = d → d < k → (∀ j, i ≤ j → j < b → Int.tmod j o ≠ Int.tmod n o) →
      impl_RecNextBallot.l0 k n o i = some b := by
  induction d with
  | zero =>
    intro k i h0 hd hk _
    obtain ⟨k, rfl⟩ : ∃ m, k = m + 1 := ⟨k - 1, by omega⟩
    obtain rfl : i = b := by omega
    simp only [impl_RecNextBallot.l0]
    rw [if_pos hb1, if_neg (by omega), if_pos hm]
  | succ d ih =>
    intro k i h0 hd hk hn
    obtain ⟨k, rfl⟩ : ∃ m, k = m + 1 := ⟨k - 1, by omega⟩
    simp only [impl_RecNextBallot.l0]
    rw [if_pos (by omega), if_neg (by omega), if_neg (hn i (by omega) (by omega)), wrap_id (by omega) (by omega)]
    exact ih k (i + 1) (by omega) (by omega) (by omega) (fun j h2 h3 => hn j (by omega) h3)

/-- Counting up finds nothing, when no number from i to the greatest ballot leaves the remainder. -/
theorem count_fails (n o : Int) (h1 : 1 ≤ o) (d : Nat) :
    ∀ (k : Nat) (i : Int), 0 ≤ i → i ≤ 1000001 → 1000001 - i = d → d < k → (∀ j, i ≤ j → j ≤ 1000000 → Int.tmod j o ≠ Int.tmod n o) →
      impl_RecNextBallot.l0 k n o i = some 0 := by
  induction d with
  | zero =>
    intro k i h0 hi hd hk _
    obtain ⟨k, rfl⟩ : ∃ m, k = m + 1 := ⟨k - 1, by omega⟩
    simp only [impl_RecNextBallot.l0]
    rw [if_neg (by omega)]
  | succ d ih =>
    intro k i h0 hi hd hk hn
    obtain ⟨k, rfl⟩ : ∃ m, k = m + 1 := ⟨k - 1, by omega⟩
    simp only [impl_RecNextBallot.l0]
    rw [if_pos (by omega), if_neg (by omega), if_neg (hn i (by omega) (by omega)), wrap_id (by omega) (by omega)]
    exact ih k (i + 1) (by omega) (by omega) (by omega) (by omega) (fun j h2 h3 => hn j (by omega) h3)

/-- The closed formula's value. -/
def target (a n o : Int) : Int := if a / o * o + n ≤ a then a / o * o + n + o else a / o * o + n

theorem target_facts (a n o : Int) (ha : 0 ≤ a) (h1 : 1 ≤ n) (h2 : n ≤ o) (h5 : o ≤ 5) :
    a < target a n o ∧ target a n o ≤ a + o ∧ Int.tmod (target a n o) o = Int.tmod n o ∧
      ∀ j, a < j → j < target a n o → Int.tmod j o ≠ Int.tmod n o := by
  have ho : o = 1 ∨ o = 2 ∨ o = 3 ∨ o = 4 ∨ o = 5 := by omega
  have e1 : ∀ x : Int, 0 ≤ x → Int.tmod x o = x % o := fun x hx => Int.tmod_eq_emod_of_nonneg hx
  have h : a < target a n o ∧ target a n o ≤ a + o ∧ (target a n o) % o = n % o ∧
      ∀ j, a < j → j < target a n o → j % o ≠ n % o := by
    unfold target
    rcases ho with rfl | rfl | rfl | rfl | rfl <;> (split <;> (refine ⟨by omega, by omega, by omega, ?_⟩; intro j h3 h4; omega))
  refine ⟨h.1, h.2.1, ?_, ?_⟩
  · rw [e1 _ (by omega), e1 _ (by omega)]; exact h.2.2.1
  · intro j h3 h4
    rw [e1 _ (by omega), e1 _ (by omega)]; exact h.2.2.2 j h3 h4

theorem spec_tells (k : Nat) (a n o : Int) (ha : 0 ≤ a) (ha1 : a ≤ 1000000) (h1 : 1 ≤ n) (h2 : n ≤ o) (h5 : o ≤ 5) :
    spec_RecNextBallot.j0 (k + 1) a n o false = some (if target a n o > 1000000 then 0 else target a n o) := by
  have e0 : Int.tdiv a o = a / o := Int.tdiv_eq_ediv_of_nonneg ha
  have b0 : 0 ≤ a / o * o := Int.mul_nonneg (Int.ediv_nonneg ha (by omega)) (by omega)
  have b1 : a / o * o ≤ a := Int.ediv_mul_le a (by omega)
  have b2 : 0 ≤ a / o := Int.ediv_nonneg ha (by omega)
  have b3 : a / o ≤ a := Int.ediv_le_self o ha
  simp only [spec_RecNextBallot.j0]
  rw [if_neg (by decide), if_neg (by omega), e0, wrap_id (x := a / o) (by omega) (by omega), wrap_id (x := a / o * o) (by omega) (by omega),
    wrap_id (x := a / o * o + n) (by omega) (by omega), wrap_id (x := a / o * o + n + o) (by omega) (by omega)]
  unfold target
  by_cases hc : a / o * o + n ≤ a
  · simp only [if_pos hc]; split <;> simp_all
  · simp only [if_neg hc]; split <;> simp_all

theorem within_is (x y z : Int) : impl_within.f x y z = some (decide (y ≤ x ∧ x ≤ z)) := by
  unfold impl_within.f; split <;> simp <;> omega
theorem in_is (x y z : Int) : spec_l12In.f x y z = some (decide (y ≤ x ∧ x ≤ z)) := by
  unfold spec_l12In.f; split <;> simp <;> omega

theorem impl_tells (a n o : Int) (ha : 0 ≤ a) (ha1 : a ≤ 1000000) (h1 : 1 ≤ n) (h2 : n ≤ o) (h5 : o ≤ 5) :
    impl_RecNextBallot.j0 2000000 a n o false = some (if target a n o > 1000000 then 0 else target a n o) := by
  obtain ⟨t1, t2, t3, t4⟩ := target_facts a n o ha h1 h2 h5
  obtain ⟨m, hm⟩ : ∃ m : Nat, m + 1 = 2000000 := ⟨1999999, rfl⟩
  rw [← hm]
  simp only [impl_RecNextBallot.j0]
  rw [if_neg (by decide), wrap_id (by omega) (by omega)]
  by_cases hc : target a n o > 1000000
  · rw [if_pos hc]
    exact count_fails n o (by omega) (1000001 - (a + 1)).toNat m (a + 1) (by omega) (by omega) (by omega) (by omega) (fun j h3 h4 => t4 j (by omega) (by omega))
  · rw [if_neg hc]
    exact count_finds n o (target a n o) (by omega) (by omega) t3 (target a n o - (a + 1)).toNat m (a + 1) (by omega) (by omega) (by omega) (fun j h3 h4 => t4 j (by omega) h4)

theorem FnExactRecNextBallot : laws_FnExactRecNextBallot.Pure := by
  intro a n o _ _ _
  obtain ⟨m, hm⟩ : ∃ m : Nat, m + 1 = 2000000 := ⟨1999999, rfl⟩
  refine ⟨2000000, ?_⟩
  unfold laws_FnExactRecNextBallot.f spec_RecNextBallot.f impl_RecNextBallot.f
  simp only [within_is, in_is, Option.bind_some]
  by_cases ho : 1 ≤ o ∧ o ≤ 5
  · by_cases hn : 1 ≤ n ∧ n ≤ o
    · by_cases ha : 0 ≤ a ∧ a ≤ 1000000
      · have e1 := impl_tells a n o ha.1 ha.2 hn.1 hn.2 ho.2
        have e2 := spec_tells m a n o ha.1 ha.2 hn.1 hn.2 ho.2
        rw [hm] at e2
        simp only [ho, hn, ha, and_self, decide_true, if_true, Bool.not_true, e1, e2, Option.bind_some]
      · simp only [ho, hn, ha, and_self, decide_true, decide_false, if_true, Bool.not_false, Bool.false_eq_true, if_false]
        rw [← hm]
        simp [spec_RecNextBallot.j0, impl_RecNextBallot.j0]
    · rw [← hm]
      by_cases ha : 0 ≤ a ∧ a ≤ 1000000 <;> simp [ho, hn, ha, spec_RecNextBallot.j0, impl_RecNextBallot.j0]
  · rw [← hm]
    by_cases ha : 0 ≤ a ∧ a ≤ 1000000 <;> simp [ho, ha, spec_RecNextBallot.j0, impl_RecNextBallot.j0]

end Go.Proofs.Ytgbfmjgndcooeaa.Pure
