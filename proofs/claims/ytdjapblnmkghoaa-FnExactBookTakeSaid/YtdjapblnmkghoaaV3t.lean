/- What BookValid's functions compute: the specification's tickets. -/
import Derived.Test.YtdjapblnmkghoaaV3e
namespace Go.Proofs.Ytdjapblnmkghoaa
open Go.Sx
set_option maxRecDepth 100000
set_option maxHeartbeats 4000000
set_option linter.unusedVariables false
set_option linter.unusedSimpArgs false
def ahead (p : Option VBookTicket) (x : VBookTicket) : Bool := match p with
  | none => true
  | some p => Op.bytesLess p.client.toList x.client.toList
def tick1 (now : Int) (p : Option VBookTicket) (x : VBookTicket) : Bool := nameB x.client && (ahead p x && (inR x.number 1 1000000 && (decide ((x.print.size : Int) = 8) && (inR x.code 0 9 && inR x.version 0 now))))
def tickF (now : Int) : Option VBookTicket → List VBookTicket → Bool
  | _, [] => true
  | p, x :: r => tick1 now p x && tickF now (some x) r
end Go.Proofs.Ytdjapblnmkghoaa

