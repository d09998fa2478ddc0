/- In an ok world both ways find the same. -/
import Derived.Test.YtnhgopjnnedhdaaAi5m
namespace Go.Proofs.Ytnhgopjnnedhdaa
open Go.Sx
set_option maxRecDepth 100000
set_option maxHeartbeats 32000000
set_option linter.unusedVariables false
set_option linter.unusedSimpArgs false
theorem rGo_valid {n : Nat} : ∀ {l : List VRecorder} {i : Nat}, rGo n l i = true → ∀ x ∈ l, valid x = true
  | [], _, _, x, hx => by cases hx
  | r :: q, i, h, x, hx => by
    simp only [rGo, rOk, Bool.and_eq_true] at h
    rcases List.mem_cons.1 hx with rfl | hx
    · exact h.1.1
    · exact rGo_valid h.2 x hx
theorem world_valid {w : VRecWorld} (h : worldOk w = true) : ∀ x ∈ w.recorders, valid x = true := by
  simp only [worldOk, Bool.and_eq_true] at h
  exact rGo_valid h.2.2.1
theorem world_maj {w : VRecWorld} (h : worldOk w = true) (k : Int) : majI k w.recorders.length w.recorders [] = majS k w.recorders w.recorders := by
  refine maj_eq k w.recorders (fun r hr s hs => ?_)
  have hv := world_valid h r hr
  unfold slotK at hs
  split at hs
  · have hm := List.mem_of_getElem? hs
    simp only [valid, diskOk, slotsOk, Bool.and_eq_true] at hv
    have hall : r.safe.slots.all slotOk = true := by
      obtain ⟨_, _, h1, _⟩ := hv
      exact h1.2.1.2
    have := List.all_eq_true.1 hall s hm
    simp only [slotOk, inR, Bool.and_eq_true, decide_eq_true_eq] at this
    exact this.1.1
  · cases hs
end Go.Proofs.Ytnhgopjnnedhdaa

