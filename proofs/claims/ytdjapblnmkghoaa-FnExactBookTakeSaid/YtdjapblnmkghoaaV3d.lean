/- What BookValid's small functions compute: the same object, the last change. -/
import Derived.Test.YtdjapblnmkghoaaV3c
namespace Go.Proofs.Ytdjapblnmkghoaa
open Go.Sx
set_option maxRecDepth 100000
set_option maxHeartbeats 4000000
set_option linter.unusedVariables false
set_option linter.unusedSimpArgs false
def sameB (x y : VBookObject) : Bool := decide (x.kind = y.kind) && (decide (x.name = y.name) && (decide (x.version = y.version) && (decide (x.born = y.born) && (decide (x.text = y.text) && ((x.ending == y.ending) && decide (x.holds = y.holds))))))
def creaB (x : VBookChange) : Bool := !x.gone && decide (x.object.born = x.version)
/-- The last change of a key among the first n. -/
def lastF (h : List VBookChange) (o : VBookObject) : Nat → Int
  | 0 => -1
  | n + 1 => match h[n]? with
    | some c => if keyO c.object o = 0 then n else lastF h o n
    | none => -1
end Go.Proofs.Ytdjapblnmkghoaa

