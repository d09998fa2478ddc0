/- What BookValid computes: the program's own. -/
import Derived.Test.YtdjapblnmkghoaaV3h
import Derived.Sort.Walk0
namespace Go.Proofs.Ytdjapblnmkghoaa
open Go.Sx
set_option maxRecDepth 100000
set_option maxHeartbeats 8000000
set_option linter.unusedVariables false
set_option linter.unusedSimpArgs false
def verC (o : VBookObject) : List C := [.p (.int .i64 o.version), .p (.bool true)]
def objR (o : VBookObject) : List C := keyC o.kind o.name ++ o.c .shr
def chgR (c : VBookChange) : List C := keyC c.object.kind c.object.name ++ c.c .shr
def isO (k n : ByteArray) (o : VBookObject) : Bool := decide (k = o.kind) && decide (n = o.name)
def isC (k n : ByteArray) (c : VBookChange) : Bool := decide (k = c.object.kind) && decide (n = c.object.name)
def oput (l : List VBookObject) (o : VBookObject) : List VBookObject := mput (isO o.kind o.name) o l
def cput (l : List VBookChange) (c : VBookChange) : List VBookChange := mput (isC c.object.kind c.object.name) c l
def osF (l : List VBookObject) : List VBookObject := l.foldl oput []
def csF (l : List VBookChange) : List VBookChange := l.foldl cput []
theorem take_snoc {α : Type} {l : List α} {i : Nat} {x : α} (h : l[i]? = some x) : l.take (i + 1) = l.take i ++ [x] := by
  rw [List.take_add_one, h]; rfl
def chk3 (b : VBook) (c : VBookChange) : Bool := match (osF b.objects).find? (isO c.object.kind c.object.name) with
  | some o => !c.gone && sameB o c.object
  | none => c.gone
def chk4 (b : VBook) (o : VBookObject) : Bool := ((csF b.history).find? (isC o.kind o.name)).isSome || decide (o.version ≤ b.floor)
def implB (b : VBook) : Bool := inR b.now 0 1000000 && (inR b.floor 0 b.now && (decide ((b.objects.length : Int) ≤ 100) && (decide ((b.history.length : Int) ≤ 200) && (decide ((b.history.length : Int) = b.now - b.floor) && (decide ((b.tickets.length : Int) ≤ 50) &&
  (objsF b 0 b.objects && (hist1F b 0 b.history && ((csF b.history).all (chk3 b) && ((osF b.objects).all (chk4 b) && tickF b.now none b.tickets)))))))))
theorem lt_irrefl (a : List UInt8) : Op.bytesLess a a = false := by
  rw [bytesLess_eq]
  exact decide_eq_false (List.lt_irrefl a)
theorem lt_tri {a b : ByteArray} (h1 : Op.bytesLess a.toList b.toList = false) (h2 : Op.bytesLess b.toList a.toList = false) : a = b := by
  rw [bytesLess_eq] at h1 h2
  have e : a.toList = b.toList := List.le_antisymm (List.not_lt.1 (of_decide_eq_false h2)) (List.not_lt.1 (of_decide_eq_false h1))
  rw [Lib.toList_data, Lib.toList_data] at e
  cases a; cases b
  simp only [ByteArray.mk.injEq]
  exact Array.toList_inj.1 e
theorem cmp_zero (a b : ByteArray) : cmpS a b = 0 ↔ a = b := by
  unfold cmpS
  constructor
  · intro h
    split at h
    · cases h
    · split at h
      · cases h
      · rename_i h1 h2
        exact lt_tri (by simpa using h1) (by simpa using h2)
  · rintro rfl
    rw [lt_irrefl]; rfl
theorem key_zero (x y : VBookObject) : keyO x y = 0 ↔ x.kind = y.kind ∧ x.name = y.name := by
  unfold keyO keyI
  by_cases h : cmpS x.kind y.kind = 0
  · rw [if_pos h, cmp_zero]
    exact ⟨fun e => ⟨(cmp_zero _ _).1 h, e⟩, fun e => e.2⟩
  · rw [if_neg h]
    exact ⟨fun e => absurd e h, fun e => absurd ((cmp_zero _ _).2 e.1) h⟩
end Go.Proofs.Ytdjapblnmkghoaa

