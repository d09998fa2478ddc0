/- What BookValid's functions compute: the specification's objects and tickets. -/
import Derived.Test.YtdjapblnmkghoaaV3d
namespace Go.Proofs.Ytdjapblnmkghoaa
open Go.Sx
set_option maxRecDepth 100000
set_option maxHeartbeats 4000000
set_option linter.unusedVariables false
set_option linter.unusedSimpArgs false
def objAt (b : VBook) (i : Nat) (x : VBookObject) : Bool := partsB x b.now && (!(x.ending && decide ((x.holds.length : Int) = 0)) && ((match prevO b.objects i with | none => true | some p => decide (keyO p x < 0)) && (b.objects.take i).all fun y => !decide (y.version = x.version)))
def objsF (b : VBook) : Nat → List VBookObject → Bool
  | _, [] => true
  | i, x :: r => objAt b i x && objsF b (i + 1) r
end Go.Proofs.Ytdjapblnmkghoaa

