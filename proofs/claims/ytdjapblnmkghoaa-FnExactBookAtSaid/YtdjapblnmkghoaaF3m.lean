/- Mirrors: views, conversions, marks (written by a program). -/
import Derived.Test.YtdjapblnmkghoaaM3o
namespace Go.Proofs.Ytdjapblnmkghoaa
open Go.Sx
set_option maxRecDepth 100000
set_option maxHeartbeats 4000000
set_option linter.unusedVariables false
set_option linter.unusedSimpArgs false
structure VBookMirror where
  kind : ByteArray
  prefix_ : ByteArray
  at_ : Int
  objects : List VBookObject
  seen : Int
def VBookMirror.c (f : Fl) (x : VBookMirror) : List C := [.p (.string x.kind), .p (.string x.prefix_), .p (.int .i64 x.at_), .sl f 7 (x.objects.map (VBookObject.c f)), .p (.int .i64 x.seen)]
def VBookMirror.w (x : VBookMirror) : Nat := x.kind.size + x.prefix_.size + wSBookObject x.objects
def VBookMirror.ok (x : VBookMirror) : Prop := x.kind.size ≤ maxLen ∧ x.prefix_.size ≤ maxLen ∧ i64ok x.at_ ∧ (x.objects.length ≤ maxLen ∧ ∀ e ∈ x.objects, e.ok) ∧ i64ok x.seen
def moBookMirror (x : VBookMirror) (k : Int) : VBookMirror := ⟨x.kind, x.prefix_, x.at_, mkL mkBookObject mcBookObject x.objects (k), x.seen⟩
def ocBookMirror (x : VBookMirror) : Nat := mcL mcBookObject x.objects
end Go.Proofs.Ytdjapblnmkghoaa

