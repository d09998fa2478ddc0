/- Marks on objects (written by a program). -/
import Derived.Test.YtdjapblnmkghoaaM3
namespace Go.Proofs.Ytdjapblnmkghoaa
open Go.Sx
set_option maxRecDepth 100000
set_option maxHeartbeats 4000000
set_option linter.unusedVariables false
set_option linter.unusedSimpArgs false
def moBookObject (x : VBookObject) (k : Int) : VBookObject := ⟨x.kind, x.name, x.version, x.born, x.text, x.ending, mkL mkString mcString x.holds (k)⟩
def ocBookObject (x : VBookObject) : Nat := mcL mcString x.holds
end Go.Proofs.Ytdjapblnmkghoaa

