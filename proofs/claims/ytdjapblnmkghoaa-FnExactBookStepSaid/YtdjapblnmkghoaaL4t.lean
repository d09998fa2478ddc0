/- FnExactBookTake: the law. -/
import Derived.Test.YtdjapblnmkghoaaT4u
import Derived.Test.YtdjapblnmkghoaaM3o
namespace Go.Proofs.Ytdjapblnmkghoaa
open Go.Sx
set_option maxRecDepth 100000
set_option maxHeartbeats 16000000
set_option linter.unusedVariables false
set_option linter.unusedSimpArgs false
theorem addF_same (t : Nat) (x : St) (F : List (Nat × St)) : addF t x F (some x) = some F := by simp [addF]
theorem tks_kind : ∀ (l : List VBookChange) (m : VBookMirror), (tks m l).kind = m.kind ∧ (tks m l).prefix_ = m.prefix_
  | [], m => ⟨rfl, rfl⟩
  | c :: l, m => by
    have e : tks m (c :: l) = tks (tk m c) l := rfl
    obtain ⟨h1, h2⟩ := tks_kind l (tk m c)
    rw [e, h1, h2]
    unfold tk
    split <;> exact ⟨rfl, rfl⟩
theorem takeM_w (m : VBookMirror) (n : VBookNews) : (takeM m n).w ≤ m.w + n.w := by
  unfold takeM
  split
  · omega
  · split
    · omega
    · split
      · have h := tks_w n.changes m
        obtain ⟨h1, h2⟩ := tks_kind n.changes m
        unfold VBookMirror.w VBookNews.w endT
        simp only [h1, h2]
        omega
      · omega
end Go.Proofs.Ytdjapblnmkghoaa

