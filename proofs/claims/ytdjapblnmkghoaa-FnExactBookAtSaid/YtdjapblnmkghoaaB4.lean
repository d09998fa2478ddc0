/- Lists of a book's objects: what the functions compute. -/
import Derived.Test.YtdjapblnmkghoaaV3k
namespace Go.Proofs.Ytdjapblnmkghoaa
open Go.Sx
set_option maxRecDepth 100000
set_option maxHeartbeats 4000000
set_option linter.unusedVariables false
set_option linter.unusedSimpArgs false
theorem kS (b : VBook) (hw : b.w ≤ 4194304) : EV Try.prog E 32 [.val 0 true (b.c .shr)] = some ⟨[(false, [.p (.bool (implB b))])], []⟩ := by
  rw [k32 b hw, valid_eq]
def preB (n p : ByteArray) : Bool := decide ((p.size : Int) ≤ (n.size : Int)) && decide (n.extract 0 p.size = p)
def looksB (k p : ByteArray) (o : VBookObject) : Bool := (decide (k = ⟨#[]⟩) || decide (o.kind = k)) && preB o.name p
def lst (k p : ByteArray) (l : List VBookObject) : List VBookObject := l.filter (looksB k p)
def blist (b : VBook) (k p : ByteArray) : List VBookObject := if implB b = true then lst k p b.objects else []
def bnow (b : VBook) : Int := if implB b = true then b.now else 0
end Go.Proofs.Ytdjapblnmkghoaa

