/- Lists: one element more taken; the order of texts (plain). -/
import Derived.Test.YtfpconipgllkkaaGreatV3t
import Derived.Sort.Walk0
namespace Go.Proofs.YtfpconipgllkkaaGreat
open Go.Sx
theorem take_snoc {α : Type} {l : List α} {i : Nat} {x : α} (h : l[i]? = some x) : l.take (i + 1) = l.take i ++ [x] :=by
  rw [List.take_add_one,h]; rfl
theorem lt_irrefl (a : List UInt8) : Op.bytesLess a a = false :=by
  rw [bytesLess_eq]
  exact decide_eq_false (List.lt_irrefl a)
theorem lt_tri {a b : ByteArray} (h1 : Op.bytesLess a.toList b.toList = false) (h2 : Op.bytesLess b.toList a.toList = false) : a = b :=by
  rw [bytesLess_eq] at h1 h2
  have e : a.toList = b.toList :=List.le_antisymm (List.not_lt.1 (of_decide_eq_false h2)) (List.not_lt.1 (of_decide_eq_false h1))
  rw [Lib.toList_data,Lib.toList_data] at e
  cases a; cases b
  simp only [ByteArray.mk.injEq]
  exact Array.toList_inj.1 e
theorem cmp_zero (a b : ByteArray) : cmpS a b = 0 ↔ a = b :=by
  unfold cmpS
  constructor
  · intro h
    split at h
    · cases h
    · split at h
      · cases h
      · rename_i h1 h2
        exact lt_tri (by simpa using h1) (by simpa using h2)
  · rintro rfl
    rw [lt_irrefl]; rfl
theorem key_zero (x y : VO) : keyO x y = 0 ↔ x.kind = y.kind ∧ x.name = y.name :=by
  unfold keyO keyI
  by_cases h : cmpS x.kind y.kind = 0
  · rw [if_pos h,cmp_zero]
    exact ⟨fun e =>⟨(cmp_zero _ _).1 h,e⟩,fun e =>e.2⟩
  · rw [if_neg h]
    exact ⟨fun e =>absurd e h,fun e =>absurd ((cmp_zero _ _).2 e.1) h⟩
end Go.Proofs.YtfpconipgllkkaaGreat

