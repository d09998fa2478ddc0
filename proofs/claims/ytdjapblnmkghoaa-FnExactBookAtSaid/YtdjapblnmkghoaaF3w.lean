/- Watches: views, conversions (written by a program). -/
import Derived.Test.YtdjapblnmkghoaaF3n
namespace Go.Proofs.Ytdjapblnmkghoaa
open Go.Sx
set_option maxRecDepth 100000
set_option maxHeartbeats 4000000
set_option linter.unusedVariables false
set_option linter.unusedSimpArgs false
structure VBookWatch where
  kind : ByteArray
  prefix_ : ByteArray
  from_ : Int
def VBookWatch.c (x : VBookWatch) : List C := [.p (.string x.kind), .p (.string x.prefix_), .p (.int .i64 x.from_)]
def VBookWatch.w (x : VBookWatch) : Nat := x.kind.size + x.prefix_.size
def VBookWatch.ok (x : VBookWatch) : Prop := x.kind.size ≤ maxLen ∧ x.prefix_.size ≤ maxLen ∧ i64ok x.from_
end Go.Proofs.Ytdjapblnmkghoaa

