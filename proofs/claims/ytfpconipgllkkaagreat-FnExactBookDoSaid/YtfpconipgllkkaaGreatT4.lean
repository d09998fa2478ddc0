/- Objects put in their place and taken out,news taken: the plain model. -/
import Derived.Test.YtfpconipgllkkaaGreatC4
namespace Go.Proofs.YtfpconipgllkkaaGreat
open Go.Sx
set_option maxRecDepth 100000
set_option maxHeartbeats 4000000
set_option linter.unusedVariables false
set_option linter.unusedSimpArgs false
def neK (o x : VO) : Bool :=!decide (keyO x o = 0)
def geK (o x : VO) : Bool :=decide (0 ≤ keyO x o)
def putR (o : VO) : Bool → List VO → List VO
  | done,[] =>if done = true then [] else [o]
  | done,x :: r =>(if (!done && geK o x) = true then [o] else []) ++ ((if neK o x = true then [x] else []) ++ putR o (done || geK o x) r)
theorem putR_done (o : VO) : ∀ l,putR o true l = l.filter (neK o)
  | [] =>rfl
  | x :: r =>by
    rw [putR,Bool.true_or,putR_done o r,List.filter_cons]
    simp only [Bool.not_true,Bool.false_and,Bool.false_eq_true,if_false,List.nil_append]
    split <;> simp
def putI (o : VO) (i : Int) : Nat → List VO → List VO
  | _,[] =>[]
  | j,x :: r =>(if (j : Int) = i then [o] else []) ++ ((if neK o x = true then [x] else []) ++ putI o i (j + 1) r)
def endI (o : VO) (i : Int) (n : Nat) : List VO :=if i = (n : Int) then [o] else []
theorem putI_late (o : VO) {i : Int} : ∀ (l : List VO) (j : Nat),i < j → putI o i j l = putR o true l
  | [],_,_ =>rfl
  | x :: r,j,h =>by
    rw [putI,putR,if_neg (by omega),putI_late o r (j + 1) (by omega)]
    simp
def plc (o : VO) (l : List VO) : Int :=if idxF (geK o) l 0 < 0 then (l.length : Int) else idxF (geK o) l 0
theorem idxF_shift (p : VO → Bool) : ∀ (l : List VO) (k : Nat),idxF p l k = if idxF p l 0 < 0 then -1 else idxF p l 0 + k
  | [],k =>by simp [idxF]
  | x :: r,k =>by
    have h1 :=idxF_shift p r (k + 1)
    have h2 :=idxF_shift p r (0 + 1)
    simp only [idxF]
    by_cases hp : p x = true
    · simp [hp]
    · simp only [hp,Bool.false_eq_true,if_false]
      rw [h1,h2]
      have :=(idxF_lt p (l :=r)).2
      by_cases hn : idxF p r 0 < 0
      · simp [hn]
      · simp only [hn,if_false]
        rw [if_neg (by omega)]
        omega
theorem ite_len (b : Bool) (x : VO) : (if b = true then [x] else []).length ≤ 1 :=by cases b <;> simp
theorem ite_sum (b : Bool) (x : VO) : sumWBookObject (if b = true then [x] else []) ≤ x.w :=by cases b <;> simp [sumWBookObject]
theorem put_eq (o : VO) : ∀ (l : List VO) (j : Nat),putI o (plc o l + j) j l ++ endI o (plc o l + j) (j + l.length) = putR o false l
  | [],j =>by
    have : plc o [] = 0 :=by unfold plc idxF; simp
    rw [this]
    simp [putI,putR,endI]
  | x :: r,j =>by
    have ih :=put_eq o r (j + 1)
    have hsh :=idxF_shift (geK o) r 1
    have hlt :=idxF_lt (geK o) (l :=r)
    cases hg : geK o x
    · have hp : plc o (x :: r) = plc o r + 1 :=by
        unfold plc
        rw [show idxF (geK o) (x :: r) 0 = idxF (geK o) r 1 by simp only [idxF,hg]; simp]
        rw [hsh]
        by_cases hn : idxF (geK o) r 0 < 0
        · simp [hn]
        · simp only [hn,if_false]
          rw [if_neg (by omega)]
          omega
      have h0 : 0 ≤ plc o r :=by unfold plc; split <;> omega
      rw [hp,putI,putR,hg,if_neg (by omega)]
      simp only [Bool.and_false,Bool.false_eq_true,if_false,List.nil_append,Bool.or_false,List.append_assoc]
      rw [← ih]
      have e1 : plc o r + 1 + (j : Int) = plc o r + ((j + 1 : Nat) : Int) :=by omega
      have e2 : j + (x :: r).length = j + 1 + r.length :=by simp; omega
      rw [e1,e2]
    · have hp : plc o (x :: r) = 0 :=by
        unfold plc
        rw [show idxF (geK o) (x :: r) 0 = 0 by simp only [idxF,hg]; simp]
        simp
      rw [hp,putI,putR,hg,if_pos (by omega),putI_late o r (j + 1) (by omega)]
      have : endI o (0 + (j : Int)) (j + (x :: r).length) = [] :=by unfold endI; rw [if_neg]; simp; omega
      rw [this]
      simp
theorem putR_eq (o : VO) (l : List VO) : putI o (plc o l) 0 l ++ endI o (plc o l) l.length = putR o false l :=by
  have :=put_eq o l 0
  simpa using this
theorem putR_len (o : VO) : ∀ (d : Bool) (l : List VO),(putR o d l).length ≤ l.length + 1
  | d,[] =>by cases d <;> simp [putR]
  | true,x :: r =>by rw [putR_done]; have :=List.length_filter_le (neK o) (x :: r); omega
  | false,x :: r =>by
    rw [putR,List.length_append,List.length_append]
    have h1 :=ite_len (neK o x) x
    cases hg : geK o x
    · have :=putR_len o false r
      simp only [Bool.and_false,Bool.or_false,Bool.false_eq_true,if_false,List.length_nil,List.length_cons]
      omega
    · rw [Bool.or_true,putR_done]
      have :=List.length_filter_le (neK o) r
      simp only [Bool.and_true,Bool.not_false,if_true,List.length_cons,List.length_nil]
      omega
theorem sumObj_filter (p : VO → Bool) : ∀ l : List VO,sumWBookObject (l.filter p) ≤ sumWBookObject l
  | [] =>by simp
  | x :: r =>by
    have :=sumObj_filter p r
    rw [List.filter_cons]
    split <;> simp only [sumWBookObject] <;> omega
theorem sumObj_append : ∀ a b : List VO,sumWBookObject (a ++ b) = sumWBookObject a + sumWBookObject b
  | [],b =>by simp [sumWBookObject]
  | x :: a,b =>by simp only [List.cons_append,sumWBookObject,sumObj_append a b]; omega
theorem putR_sum (o : VO) : ∀ (d : Bool) (l : List VO),sumWBookObject (putR o d l) ≤ sumWBookObject l + o.w
  | d,[] =>by cases d <;> simp [putR,sumWBookObject]
  | true,x :: r =>by rw [putR_done]; have :=sumObj_filter (neK o) (x :: r); omega
  | false,x :: r =>by
    rw [putR,sumObj_append,sumObj_append]
    have h1 :=ite_sum (neK o x) x
    have e : sumWBookObject (x :: r) = x.w + sumWBookObject r :=rfl
    rw [e]
    cases hg : geK o x
    · have :=putR_sum o false r
      have e0 : sumWBookObject (if (!false && false) = true then [o] else []) = 0 :=rfl
      rw [e0]
      simp only [Bool.or_false]
      omega
    · rw [Bool.or_true,putR_done]
      have :=sumObj_filter (neK o) r
      have e0 : sumWBookObject (if (!false && true) = true then [o] else []) = o.w :=by simp [sumWBookObject]
      rw [e0]
      omega
theorem putR_w (o : VO) (d : Bool) (l : List VO) : wSBookObject (putR o d l) ≤ wSBookObject l + (o.w + 1) :=by
  unfold wSBookObject
  have h1 :=putR_len o d l
  have h2 :=putR_sum o d l
  omega
end Go.Proofs.YtfpconipgllkkaaGreat

