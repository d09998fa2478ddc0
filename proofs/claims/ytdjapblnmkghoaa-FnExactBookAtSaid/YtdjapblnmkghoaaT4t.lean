/- BookTake: what the functions compute. -/
import Derived.Test.YtdjapblnmkghoaaT4k
namespace Go.Proofs.Ytdjapblnmkghoaa
open Go.Sx
set_option maxRecDepth 100000
set_option maxHeartbeats 8000000
set_option linter.unusedVariables false
set_option linter.unusedSimpArgs false
def flB : Bool → Fl
  | true => .own
  | false => .shr
def VBookMirror.m (b : Bool) (x : VBookMirror) : List C := [.p (.string x.kind), .p (.string x.prefix_), .p (.int .i64 x.at_), .sl .own 7 (x.objects.map (VBookObject.c (flB b))), .p (.int .i64 x.seen)]
def nilM : VBookMirror := ⟨⟨#[]⟩, ⟨#[]⟩, 0, [], 0⟩
def tkB (b : Bool) (m : VBookMirror) (c : VBookChange) : Bool := if c.version ≤ m.at_ then b else false
def tksB : Bool → VBookMirror → List VBookChange → Bool
  | b, _, [] => b
  | b, m, c :: r => tksB (tkB b m c) (tk m c) r
def takeB (m : VBookMirror) (n : VBookNews) : Bool := if n.code ≠ 0 then true else if n.from_ < m.at_ then true else if risF none n.changes = true then tksB true m n.changes else true
end Go.Proofs.Ytdjapblnmkghoaa

