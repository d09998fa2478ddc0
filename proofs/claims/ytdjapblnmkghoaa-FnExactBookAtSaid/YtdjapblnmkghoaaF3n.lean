/- News: views, conversions, marks (written by a program). -/
import Derived.Test.YtdjapblnmkghoaaF3m
namespace Go.Proofs.Ytdjapblnmkghoaa
open Go.Sx
set_option maxRecDepth 100000
set_option maxHeartbeats 4000000
set_option linter.unusedVariables false
set_option linter.unusedSimpArgs false
structure VBookNews where
  code : Int
  changes : List VBookChange
  from_ : Int
def VBookNews.c (f : Fl) (x : VBookNews) : List C := [.p (.int .i64 x.code), .sl f 9 (x.changes.map (VBookChange.c f)), .p (.int .i64 x.from_)]
def VBookNews.w (x : VBookNews) : Nat := wSBookChange x.changes
def VBookNews.ok (x : VBookNews) : Prop := i64ok x.code ∧ (x.changes.length ≤ maxLen ∧ ∀ e ∈ x.changes, e.ok) ∧ i64ok x.from_
def moBookNews (x : VBookNews) (k : Int) : VBookNews := ⟨x.code, mkL mkBookChange mcBookChange x.changes (k), x.from_⟩
def ocBookNews (x : VBookNews) : Nat := mcL mcBookChange x.changes
end Go.Proofs.Ytdjapblnmkghoaa

