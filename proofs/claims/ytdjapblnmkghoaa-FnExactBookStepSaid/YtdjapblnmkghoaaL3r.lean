/- FnExactBookRelist: what the functions compute. -/
import Derived.Test.YtdjapblnmkghoaaC4
namespace Go.Proofs.Ytdjapblnmkghoaa
open Go.Sx
set_option maxRecDepth 100000
set_option maxHeartbeats 4000000
set_option linter.unusedVariables false
set_option linter.unusedSimpArgs false
theorem filter_w (p : VBookObject → Bool) : ∀ l : List VBookObject, wSBookObject (l.filter p) ≤ wSBookObject l
  | [] => Nat.le_refl _
  | x :: l => by
    have ih := filter_w p l
    unfold wSBookObject at *
    rw [List.filter_cons]
    split
    · simp only [List.length_cons, sumWBookObject]; omega
    · simp only [List.length_cons, sumWBookObject]; omega
theorem blist_w (b : VBook) (k p : ByteArray) : wSBookObject (blist b k p) ≤ b.w := by
  unfold blist
  split
  · have := filter_w (looksB k p) b.objects
    unfold VBook.w lst
    omega
  · exact Nat.zero_le _
theorem brel_w (b : VBook) (m : VBookMirror) : (brel b m).w ≤ m.w + b.w := by
  have := blist_w b m.kind m.prefix_
  unfold brel VBookMirror.w
  simp only
  omega
end Go.Proofs.Ytdjapblnmkghoaa

