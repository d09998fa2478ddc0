/- FnExactBookNext: what the functions compute. -/
import Derived.Test.YtdjapblnmkghoaaN3
namespace Go.Proofs.Ytdjapblnmkghoaa
open Go.Sx
set_option maxRecDepth 100000
set_option maxHeartbeats 4000000
set_option linter.unusedVariables false
set_option linter.unusedSimpArgs false
theorem nxt_sum (w : VBookWatch) (most : Int) : ∀ l acc : List VBookChange, wSBookChange (nxt w most l acc).1 ≤ wSBookChange acc + wSBookChange l
  | [], acc => Nat.le_add_right _ _
  | c :: r, acc => by
    have h1 := nxt_sum w most r acc
    have h2 := nxt_sum w most r (acc ++ [c])
    have h3 : wSBookChange (acc ++ [c]) = wSBookChange acc + (1 + c.w) := by
      clear h1 h2
      unfold wSBookChange
      rw [List.length_append]
      have : ∀ a : List VBookChange, sumWBookChange (a ++ [c]) = sumWBookChange a + c.w := by
        intro a
        induction a with
        | nil => simp [sumWBookChange]
        | cons x a ih => simp only [List.cons_append, sumWBookChange, ih]; omega
      rw [this]
      simp
      omega
    have h4 : wSBookChange (c :: r) = (1 + c.w) + wSBookChange r := by
      unfold wSBookChange
      simp only [List.length_cons, sumWBookChange]
      omega
    by_cases p : passB w c = true
    · by_cases q : (acc.length : Int) = most
      · rw [show nxt w most (c :: r) acc = (acc, some (lastV acc)) by rw [nxt, if_pos p, if_pos q]]
        exact Nat.le_add_right _ _
      · rw [show nxt w most (c :: r) acc = nxt w most r (acc ++ [c]) by rw [nxt, if_pos p, if_neg q]]
        omega
    · rw [show nxt w most (c :: r) acc = nxt w most r acc by rw [nxt, if_neg p]]
      omega
theorem next_w (b : VBook) (w : VBookWatch) (most : Int) : (nextB b w most).w ≤ b.w := by
  have h := nxt_sum w most b.history []
  have h0 : wSBookChange [] = 0 := rfl
  unfold nextB
  split
  · split
    · exact Nat.zero_le _
    · split
      · exact Nat.zero_le _
      · unfold VBookNews.w VBook.w
        simp only
        omega
  · exact Nat.zero_le _
end Go.Proofs.Ytdjapblnmkghoaa

