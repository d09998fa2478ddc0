/- What BookValid's functions compute: the specification's history. -/
import Derived.Test.YtdjapblnmkghoaaV3t
namespace Go.Proofs.Ytdjapblnmkghoaa
open Go.Sx
set_option maxRecDepth 100000
set_option maxHeartbeats 8000000
set_option linter.unusedVariables false
set_option linter.unusedSimpArgs false
def lastO (h : List VBookChange) (o : VBookObject) : Nat → Option VBookChange
  | 0 => none
  | n + 1 => match h[n]? with
    | some c => if keyO c.object o = 0 then some c else lastO h o n
    | none => none
def endS (c : VBookChange) : Bool := if c.gone = true then c.object.ending && (decide ((c.object.holds.length : Int) = 0) && !decide (c.object.born = c.object.version)) else !(c.object.ending && decide ((c.object.holds.length : Int) = 0))
def lastOk (b : VBook) (i : Nat) (c : VBookChange) : Bool := match lastO b.history c.object i with
  | none => creaB c || decide (c.object.born ≤ b.floor)
  | some d => (creaB c == d.gone) && (creaB c || decide (c.object.born = d.object.born))
def hist1 (b : VBook) (i : Nat) (c : VBookChange) : Bool := decide (c.version = b.floor + 1 + i) && (decide (c.object.version = c.version) && (partsB c.object b.now && (endS c && lastOk b i c)))
def hist1F (b : VBook) : Nat → List VBookChange → Bool
  | _, [] => true
  | i, c :: r => hist1 b i c && hist1F b (i + 1) r
def hist2 (b : VBook) (o : VBookObject) : Bool := match lastO b.history o b.history.length with
  | none => decide (o.version ≤ b.floor)
  | some d => !d.gone && sameB d.object o
def hist3 (b : VBook) (i : Nat) (c : VBookChange) : Bool := !decide (lastF b.history c.object b.history.length = (i : Int)) || (c.gone || (bfind b.objects c.object.kind c.object.name).2)
def hist3F (b : VBook) : Nat → List VBookChange → Bool
  | _, [] => true
  | i, c :: r => hist3 b i c && hist3F b (i + 1) r
end Go.Proofs.Ytdjapblnmkghoaa

