/- The two BookValids are the same. -/
import Derived.Test.YtdjapblnmkghoaaV3j
namespace Go.Proofs.Ytdjapblnmkghoaa
open Go.Sx
set_option linter.unusedVariables false
def same (a c : VBookChange) : Prop := a.object.kind = c.object.kind ∧ a.object.name = c.object.name
end Go.Proofs.Ytdjapblnmkghoaa

