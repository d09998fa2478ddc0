/- What BookValid's small functions compute. -/
import Derived.Test.YtdjapblnmkghoaaB3
import Derived.Test.YtdjapblnmkghoaaSxD
namespace Go.Proofs.Ytdjapblnmkghoaa
open Go.Sx
set_option maxRecDepth 100000
set_option maxHeartbeats 4000000
set_option linter.unusedVariables false
set_option linter.unusedSimpArgs false
/-- Is it one of a name's bytes? -/
def byteB (c : UInt8) : Bool := decide (97 ≤ (c.toNat : Int)) && decide ((c.toNat : Int) ≤ 122) || decide (48 ≤ (c.toNat : Int)) && decide ((c.toNat : Int) ≤ 57) || decide ((c.toNat : Int) = 45) || decide ((c.toNat : Int) = 46)
def nameB (s : ByteArray) : Bool := decide (1 ≤ s.size) && decide (s.size ≤ 20) && s.data.toList.all byteB
def inR (n a b : Int) : Bool := decide (a ≤ n) && decide (n ≤ b)
end Go.Proofs.Ytdjapblnmkghoaa

