/- A book cut: what the functions compute. -/
import Derived.Test.YtdjapblnmkghoaaC4
namespace Go.Proofs.Ytdjapblnmkghoaa
open Go.Sx
set_option maxRecDepth 100000
set_option maxHeartbeats 4000000
set_option linter.unusedVariables false
set_option linter.unusedSimpArgs false
theorem hist_at {b : VBook} : ∀ {l : List VBookChange} {k : Nat}, hist1F b k l = true → ∀ i x, l[i]? = some x → hist1 b (k + i) x = true
  | [], _, _, i, x, h => by simp at h
  | y :: r, k, hF, i, x, h => by
    rw [hist1F, Bool.and_eq_true] at hF
    cases i with
    | zero => simp at h; subst h; exact hF.1
    | succ i =>
      have := hist_at hF.2 i x (by simpa using h)
      rw [show k + (i + 1) = k + 1 + i by omega]
      exact this
theorem valid_facts {b : VBook} (h : implB b = true) : 0 ≤ b.now ∧ b.now ≤ 1000000 ∧ 0 ≤ b.floor ∧ b.floor ≤ b.now ∧ (b.history.length : Int) = b.now - b.floor ∧ ∀ (i : Nat) (x : VBookChange), b.history[i]? = some x → x.version = b.floor + 1 + i ∧ x.object.version = x.version := by
  simp only [implB, inR, Bool.and_eq_true, decide_eq_true_eq] at h
  refine ⟨h.1.1, h.1.2, h.2.1.1, h.2.1.2, h.2.2.2.2.1, fun i x hx => ?_⟩
  have := hist_at h.2.2.2.2.2.2.2.1 i x hx
  simp only [hist1, Bool.and_eq_true, decide_eq_true_eq] at this
  rw [Nat.zero_add] at this
  exact ⟨this.1, this.2.1⟩
def cutB (b : VBook) (n : Nat) : VBook := ⟨b.now, b.floor + n, b.objects, b.history.drop n, b.tickets⟩
def cutN (b : VBook) (fl : Int) : Nat := (min (max fl b.floor) b.now - b.floor).toNat
def nilB : VBook := ⟨0, 0, [], [], []⟩
def bcut (b : VBook) (fl : Int) : VBook := if implB b = true then cutB b (cutN b fl) else nilB
end Go.Proofs.Ytdjapblnmkghoaa

