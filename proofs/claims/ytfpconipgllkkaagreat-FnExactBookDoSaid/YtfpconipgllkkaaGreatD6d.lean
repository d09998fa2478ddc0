/- A write done to a book: what impl.do computes. -/
import Derived.Test.YtfpconipgllkkaaGreatP6
import Derived.Test.YtfpconipgllkkaaGreatT4k
namespace Go.Proofs.YtfpconipgllkkaaGreat
open Go.Sx
set_option maxRecDepth 100000
set_option maxHeartbeats 16000000
set_option linter.unusedVariables false
set_option linter.unusedSimpArgs false
def chO (f4 f5 : List ByteArray → ByteArray → List ByteArray) (w : VW) (v : Int) (o : VO) : VO :=
  if w.op = 1 then ⟨w.kind,w.name,v,v,w.text,false,if w.hold = ⟨#[]⟩ then [] else [w.hold]⟩
  else if w.op = 2 then ⟨o.kind,o.name,v,o.born,w.text,o.ending,o.holds⟩
  else if w.op = 3 then ⟨o.kind,o.name,v,o.born,o.text,true,o.holds⟩
  else if w.op = 4 then ⟨o.kind,o.name,v,o.born,o.text,o.ending,f4 o.holds w.hold⟩
  else ⟨o.kind,o.name,v,o.born,o.text,o.ending,f5 o.holds w.hold⟩
def chC (b : VBook) (w : VW) (o : VO) (there : Bool) : Int :=
  if there = decide (w.op = 1) then 3
  else if w.seen ≠ 0 ∧ w.seen ≠ o.version then 4
  else if o.ending = true ∧ w.op ≠ 5 then 5
  else if w.op = 1 ∧ 100 ≤ b.objects.length then 7
  else if w.op = 4 ∧ hasF w.hold o.holds = true then 6
  else if w.op = 4 ∧ 5 ≤ o.holds.length then 7
  else if w.op = 5 ∧ hasF w.hold o.holds = false then 6
  else if 1000000 ≤ b.now then 8
  else 0
def goneO (o : VO) : Bool :=o.ending && decide (o.holds.length = 0)
def bookC (b : VBook) (c : VC) : VBook :=
  ⟨c.version,if b.history.length < 200 then b.floor else ((b.history ++ [c]).head?.map (·.version)).getD 0,putR c.object c.gone b.objects,if b.history.length < 200 then b.history ++ [c] else (b.history ++ [c]).drop 1,b.tickets⟩
def chG (f4 f5 : List ByteArray → ByteArray → List ByteArray) (w : VW) (v : Int) (o : VO) : VC :=⟨v,goneO (chO f4 f5 w v o),chO f4 f5 w v o⟩
def bookI (b : VBook) (w : VW) (o : VO) (t : Bool) : VBook :=if chC b w o t = 0 then bookC b (chG insI delI w (b.now + 1) o) else b
def verI (b : VBook) (w : VW) (o : VO) (t : Bool) : Int :=if chC b w o t = 4 then o.version else if chC b w o t = 0 then b.now + 1 else 0

theorem k92 (l : List ByteArray) (h : ByteArray) (hl : l.length ≤ 4194302) : EV Tryz.prog E 92 [.val 0 false [.sl .own 1 (l.map strC ++ [[.p (.string h)]])]] = some ⟨[],[[.sl .own 1 ((insI l h).map strC)]]⟩ :=by
  refine EV_sum (k :=0) rfl ?_
  have e : l.map strC ++ [[.p (.string h)]] = rowsT (l ++ [h]) :=by simp [rowsT,strC]
  have e2 : (l ++ [h]).length < 4194304 :=by simp; omega
  rw [show sumOf 0 = sumSort from rfl]
  simp only [sumSort,e,textsOf_rowsT,e2,if_true]
  rfl
theorem k93 (l : List ByteArray) (h : ByteArray) (i : Nat) (hi : i < l.length) (h2 : idxT h l 0 = (i : Int)) : EV Tryz.prog E 93 [.val 0 false [.sl .own 1 (l.map strC)],.val 0 false [.p (.int .i64 i)],.val 0 false [.p (.int .i64 ((i : Int) + 1))]] = some ⟨[(false,[.sl .own 1 ((delI l h).map strC)])],[]⟩ :=by
  refine EV_sum (k :=1) rfl ?_
  have e : l.map strC = rowsT l :=rfl
  have e2 : 0 ≤ (i : Int) ∧ (i : Int) < (i : Int) + 1 ∧ (i : Int) + 1 ≤ (l.length : Int) :=by omega
  rw [show sumOf 1 = sumDel from rfl]
  simp only [sumDel,e,textsOf_rowsT,e2,and_self,if_true]
  unfold delI
  rw [h2,Int.toNat_natCast,show ((i : Int) + 1).toNat = i + 1 by omega]
  rfl
theorem z3 : Int.toNat 1 = 1 :=rfl
theorem pos3 (n : Nat) : 1 + n ≤ n + 1 :=by omega
theorem pos2 (n : Nat) : 1 ≤ n + 1 :=by omega
theorem z2 : Int.toNat 0 = 0 :=rfl
theorem c0n : ((0 : Nat) : Int) = 0 :=rfl
theorem pos1 (n : Nat) : 0 < n + 1 :=by omega
theorem len1 (l : List (List C)) (x : List C) : (((l ++ [x]).length : Nat) : Int) = (l.length : Int) + 1 :=by simp
theorem len2 (l : List (List C)) (x : List C) : (((l ++ [x]).length + 1 : Nat) : Int) = (l.length : Int) + 1 + 1 :=by simp
theorem bb : (false == false) = true ∧ (true == true) = true ∧ (true == false) = false ∧ (false == true) = false :=⟨rfl,rfl,rfl,rfl⟩
theorem uf : type_of% (And.intro VBook.c.eq_1 (And.intro VW.c.eq_1 (And.intro VO.c.eq_1 (And.intro VC.c.eq_1 (And.intro nilObj.eq_1 (And.intro bb (And.intro @List.length_map.{0,0} (And.intro @List.map_cons.{0,0} (And.intro @List.map_nil.{0,0} (And.intro @List.length_nil.{0} (And.intro strC.eq_1 (And.intro rowsString (And.intro rowsBookObject (And.intro rowsBookChange rowsBookTicket)))))))))))))) :=And.intro VBook.c.eq_1 (And.intro VW.c.eq_1 (And.intro VO.c.eq_1 (And.intro VC.c.eq_1 (And.intro nilObj.eq_1 (And.intro bb (And.intro @List.length_map.{0,0} (And.intro @List.map_cons.{0,0} (And.intro @List.map_nil.{0,0} (And.intro @List.length_nil.{0} (And.intro strC.eq_1 (And.intro rowsString (And.intro rowsBookObject (And.intro rowsBookChange rowsBookTicket)))))))))))))
theorem ug : type_of% (And.intro len1 (And.intro len2 (And.intro pos1 (And.intro pos2 (And.intro pos3 (And.intro z2 (And.intro z3 (And.intro @Nat.le_refl (And.intro @Nat.add_sub_cancel (And.intro @List.take_length.{0} (And.intro @List.getElem?_cons_zero.{0} (And.intro @List.drop_succ_cons.{0} (And.intro @List.drop_zero.{0} @List.map_append.{0,0}))))))))))))) :=And.intro len1 (And.intro len2 (And.intro pos1 (And.intro pos2 (And.intro pos3 (And.intro z2 (And.intro z3 (And.intro @Nat.le_refl (And.intro @Nat.add_sub_cancel (And.intro @List.take_length.{0} (And.intro @List.getElem?_cons_zero.{0} (And.intro @List.drop_succ_cons.{0} (And.intro @List.drop_zero.{0} @List.map_append.{0,0}))))))))))))
end Go.Proofs.YtfpconipgllkkaaGreat

