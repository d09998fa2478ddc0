/- What BookValid's small functions compute: names, order, objects. -/
import Derived.Test.YtdjapblnmkghoaaV3
namespace Go.Proofs.Ytdjapblnmkghoaa
open Go.Sx
set_option maxRecDepth 100000
set_option maxHeartbeats 4000000
set_option linter.unusedVariables false
set_option linter.unusedSimpArgs false
/-- Texts in order: the one ahead, those to come. -/
def ascF : Option ByteArray → List ByteArray → Bool
  | _, [] => true
  | none, x :: r => nameB x && ascF (some x) r
  | some p, x :: r => nameB x && (Op.bytesLess p.toList x.toList && ascF (some x) r)
def prevO {α : Type} (l : List α) : Nat → Option α
  | 0 => none
  | i + 1 => l[i]?
end Go.Proofs.Ytdjapblnmkghoaa

