/- What is told stands in the book (plain). -/
import Derived.Test.YtgekblcbdhjmfaaQ5
namespace Go.Proofs.Ytgekblcbdhjmfaa
open Go.Sx
set_option maxRecDepth 100000
set_option linter.unusedVariables false
set_option linter.unusedSimpArgs false
theorem nxt_mem (w:VWa) (most:Int):∀ (l acc:List VC),(∀ x ∈ (nxt w most l acc).1,x ∈ acc∨x ∈ l)∧(nxt w most l acc).1.length≤acc.length + l.length
 | [],acc =>⟨fun x h =>.inl h,Nat.le_refl _⟩
 | c :: r,acc =>by
  rw [nxt]
  split
  ·split
   ·exact ⟨fun x h =>.inl h,by simp⟩
   ·obtain ⟨h1,h2⟩ :=nxt_mem w most r (acc ++ [c])
    refine ⟨fun x hx =>?_,by simp at h2 ⊢; omega⟩
    rcases h1 x hx with h | h
    ·rcases List.mem_append.1 h with h | h
     ·exact .inl h
     ·rw [List.mem_singleton.1 h]; exact .inr (by simp)
    ·exact .inr (by simp [h])
  ·obtain ⟨h1,h2⟩ :=nxt_mem w most r acc
   refine ⟨fun x hx =>?_,by simp; omega⟩
   rcases h1 x hx with h | h
   ·exact .inl h
   ·exact .inr (by simp [h])
theorem next_mem (b:VBook) (w:VWa) (most:Int):(∀ x ∈ (nextB b w most).changes,x ∈ b.history)∧(nextB b w most).changes.length≤b.history.length :=by
 unfold nextB
 split
 ·split
  ·exact ⟨fun x h =>(by cases h),Nat.zero_le _⟩
  ·split
   ·exact ⟨fun x h =>(by cases h),Nat.zero_le _⟩
   ·obtain ⟨h1,h2⟩ :=nxt_mem w most b.history []
    exact ⟨fun x h =>(h1 x h).resolve_left (by simp),by simpa using h2⟩
 ·exact ⟨fun x h =>(by cases h),Nat.zero_le _⟩
end Go.Proofs.Ytgekblcbdhjmfaa

