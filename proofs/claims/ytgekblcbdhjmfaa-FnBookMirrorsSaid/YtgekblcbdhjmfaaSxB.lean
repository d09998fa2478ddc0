/- An evaluator for the translated code over values that are trees,and that it is sound: part SxB. -/
import Derived.Test.YtgekblcbdhjmfaaSxA
import Derived.Laws.StructEq
import Derived.Laws.Tables
import Derived.Great.BuildSlice
import Derived.Laws.AppendOwn
import Derived.Laws.IdiomStrings
import Derived.Maps.RangeRun
set_option linter.unusedVariables false
set_option linter.unusedSimpArgs false
set_option maxRecDepth 100000
/- Operations that only compute or read. -/
namespace Go.Sx

structure Done (w:World) (Z:CA→Prop) (tm:Tmp→Value) (fp:Tmp→List CA) (w':World) (Z':CA→Prop) (s':St) (fp':Tmp→List CA) (v:Value) (F:List CA) (x:S):Prop where
 goes:Goes w w' (fun c =>∃ t,c ∈ fp t)
 zz:∀ c,Z c→Z' c
 zfrom:∀ c,Z' c→Z c∨(∃ t,c ∈ fp t)∨w.heap.size≤c.1
 inv:Inv w' Z' tm s' fp'
 rep:Rep w' Z' s'.sl tm v F x
 lt:x.linksLt s'.cnt
 nd:F.Nodup
 mine:∀ c ∈ F,Mine w' Z' c
 apart:∀ t,∀ c ∈ F,c ∉ fp' t
 from_:∀ c,(c ∈ F∨∃ t,c ∈ fp' t)→(∃ t,c ∈ fp t)∨w.heap.size≤c.1

def Runs (P:Program) (a:Act) (op:Op) (ty:TypeId) (w:World) (R:Value→World→Prop):Prop :=
 ∃ v w',R v w'∧∀ o:Oper,o.op = op→o.type = ty→((execOp a.eval o).run P w = .ok (.value v) w'∨((execOp a.eval o).run P w = .ok .skip w'∧v = undef))

def Brings (w:World) (Z:CA→Prop) (tm:Tmp→Value) (fp:Tmp→List CA) (s':St) (x:S) (v:Value) (w':World):Prop :=
 ∃ Z' fp' F,Done w Z tm fp w' Z' s' fp' v F x

section
variable {P:Program} {E:Env} {w:World} {Z:CA→Prop} {a:Act} {s:St} {fp:Tmp→List CA} {ty:TypeId}

theorem Done.still (h:Inv w Z (Act.tm a) s fp) {v:Value} {x:S} (hx:Rep w Z s.sl (Act.tm a) v [] x) (hl:x.linksLt s.cnt):Done w Z (Act.tm a) fp w Z s fp v [] x where
 goes :=Goes.refl _ _
 zz :=fun _ h =>h
 zfrom :=fun _ h =>.inl h
 inv :=h
 rep :=hx
 lt :=hl
 nd :=List.nodup_nil
 mine :=by simp
 apart :=by simp
 from_ :=fun c hc =>.inl (by simpa using hc)

theorem runs_still (h:Inv w Z (Act.tm a) s fp) {op:Op} {v:Value} {x:S} (hx:Rep w Z s.sl (Act.tm a) v [] x) (hl:x.linksLt s.cnt)
  (hr:∀ o:Oper,o.op = op→o.type = ty→(execOp a.eval o).run P w = .ok (.value v) w):Runs P a op ty w (Brings w Z (Act.tm a) fp s x) :=
 ⟨v,w,⟨Z,fp,[],Done.still h hx hl⟩,fun o h1 h2 =>.inl (hr o h1 h2)⟩

theorem rep_one {v:Value} (h1:v.oneCell' = true):Rep w Z s.sl (Act.tm a) v [] (ofVal v) :=⟨[v],.inr ⟨rfl,rfl,h1⟩,rfl,v,[],[],rfl,⟨rfl,h1,rfl⟩,rfl,rfl⟩

theorem oneC_eq {cs:List C} {c:C} (h:oneC cs = some c):cs = [c] :=by
 match cs,h with
 | [],h =>simp [oneC] at h
 | [d],h =>simp [oneC] at h; rw [h]
 | _ :: _ :: _,h =>simp [oneC] at h

theorem asP_eq {c:C} {v:Value} (h:asP c = some v):c = .p v :=by
 cases c with
 | p u =>simp [asP] at h; rw [h]
 | sl f sz rows =>simp [asP] at h
 | hole =>simp [asP] at h
 | mp =>simp [asP] at h

theorem one1_eq {b:Bool} {cs:List C} {c:C} (h:one1 b cs = some c):b = false∧cs = [c] :=by
 rcases tE.1 h with ⟨_,h⟩ | ⟨hb,h⟩
 ·cases h
 ·exact ⟨hb,oneC_eq h⟩

theorem packs_one {v:Value} {vs:List Value} {c:C} {F:List CA} (hp:Packs false vs v) (hl:vs.length = [c].length) (hr:RL w Z [c] (fun i =>vs[i]?) F):vs = [v]∧RC w Z c v F :=by
 rcases hp with ⟨h,_⟩ | ⟨_,rfl,_⟩
 ·cases h
 ·obtain ⟨u,F1,F2,h0,hc,hr,hF⟩ :=hr
  simp at h0
  subst h0
  have:F2 = [] :=hr
  subst this
  rw [hF,List.append_nil]
  exact ⟨rfl,hc⟩

theorem prim_val {v u:Value} {x:S} {F:List CA} {l:List (Tmp × S)} {tm:Tmp→Value} (hx:Rep w Z l tm v F x) (hp:x.prim = some u):v = u∧u.oneCell' = true :=by
 cases x with
 | val g b cs =>
  obtain ⟨c,hc,hp⟩ :=bE.1 (show bnd (one1 b cs) asP = some u from hp)
  obtain ⟨rfl,rfl⟩ :=one1_eq hc
  have :=asP_eq hp
  subst this
  obtain ⟨vs,hpk,hl,hr⟩ :=hx
  have :=(packs_one hpk hl hr).2
  exact ⟨this.1,this.2.1⟩
 | _ =>simp [S.prim] at hp

theorem asIdx_eq {u:Value} {i:Nat} (h:asIdx u = some i):∃ k n,u = .int k n∧0≤n∧i = n.toNat :=by
 cases u <;> simp [asIdx] at h
 rename_i k n
 rcases tE.1 h with ⟨h1,h2⟩ | ⟨_,h2⟩
 ·simp at h1 h2
  exact ⟨k,n,rfl,h1,h2.symm⟩
 ·cases h2

theorem asBool_eq {u:Value} {b:Bool} (h:asBool u = some b):u = .bool b :=by
 cases u <;> simp [asBool] at h
 rw [h]
theorem asStr_eq {u:Value} {b:ByteArray} (h:asStr u = some b):u = .string b :=by
 cases u <;> simp [asStr] at h
 rw [h]

/-! ### Operators -/

theorem bytesLess_total:∀ (x y:List UInt8),Op.bytesLess x y = (!Op.bytesLess y x && !(x == y))
 | [],[] =>rfl
 | [],b :: y =>by simp [Op.bytesLess]
 | a :: x,[] =>by simp [Op.bytesLess]
 | a :: x,b :: y =>by
  have ih :=bytesLess_total x y
  simp only [Op.bytesLess]
  by_cases h1:a < b
  ·have h2:¬ b < a :=UInt8.lt_asymm h1
   have h3:a ≠ b :=UInt8.ne_of_lt h1
   have h4:b ≠ a :=fun e =>h3 e.symm
   simp [h1,h2,h4,h3]
  ·by_cases h2:b < a
   ·have h3:a ≠ b :=fun e =>(UInt8.ne_of_lt h2) e.symm
    simp [h1,h2,h3]
   ·have h3:a = b :=UInt8.le_antisymm (UInt8.not_lt.1 h2) (UInt8.not_lt.1 h1)
    subst h3
    simp [h1,ih]

theorem str_eq (x y:ByteArray):(x.toList == y.toList) = decide (x = y) :=by
 rw [Bool.eq_iff_iff]
 simp only [beq_iff_eq,decide_eq_true_eq]
 constructor
 ·intro h
  rw [ByteArray.toList_eq,ByteArray.toList_eq] at h
  obtain ⟨⟨x⟩⟩ :=x
  obtain ⟨⟨y⟩⟩ :=y
  simp at h
  rw [h]
 ·intro h; rw [h]

theorem bytesLess_irrefl:∀ (x:List UInt8),Op.bytesLess x x = false
 | [] =>rfl
 | a :: x =>by simp [Op.bytesLess,bytesLess_irrefl x]

theorem run_strBin {op:BinOp} {x y:ByteArray} {v:Value} (h:strBin op x y = some v):(Op.stringOp op x y).run P w = .ok v w :=by
 have tot :=bytesLess_total x.toList y.toList
 have tot2 :=bytesLess_total y.toList x.toList
 have key:(Op.bytesLess x.toList y.toList || x.toList == y.toList) = !Op.bytesLess y.toList x.toList :=by
  by_cases h:x.toList = y.toList
  ·rw [h,bytesLess_irrefl]; simp
  ·have h':(x.toList == y.toList) = false :=by simpa using h
   have h'':(y.toList == x.toList) = false :=by simpa using fun e =>h e.symm
   rw [h'] at tot ⊢
   rw [tot]
   simp
 cases op <;> simp only [strBin] at h
 case add =>
  rcases tE.1 h with ⟨h1,h2⟩ | ⟨_,h2⟩
  ·simp at h1 h2
   subst h2
   have:¬ ((x.size + y.size:Nat):Int) > IntKind.i64.max :=by
    have:IntKind.i64.max = 9223372036854775807 :=rfl
    rw [this]
    omega
   simp only [Op.stringOp]
   rw [if_neg this]
   rfl
  ·cases h2
 case eql =>simp at h; subst h; simp only [Op.stringOp,Sem.run_pure,str_eq]
 case neq =>simp at h; subst h; simp only [Op.stringOp,Sem.run_pure,str_eq]
 case lss =>simp at h; subst h; rfl
 case leq =>simp at h; subst h; simp only [Op.stringOp,Sem.run_pure,key]
 case gtr =>simp at h; subst h; simp only [Op.stringOp,Sem.run_pure,key,Bool.not_not]
 case geq =>simp at h; subst h; rfl
 all_goals cases h

theorem run_shiftV {op:BinOp} {k m:IntKind} {x y:Int} {v:Value} (h:shiftV op k x y = some v) (t:TypeId):(binOp op t (.int k x) (.int m y)).run P w = .ok v w :=by
 cases op <;> simp only [shiftV] at h
 case shl =>
  rcases tE.1 h with ⟨_,h2⟩ | ⟨h1,h2⟩
  ·cases h2
  ·simp only [decide_eq_false_iff_not] at h1
   simp at h2
   subst h2
   simp [binOp,Op.shift,h1]
 case shr =>
  rcases tE.1 h with ⟨_,h2⟩ | ⟨h1,h2⟩
  ·cases h2
  ·simp only [decide_eq_false_iff_not] at h1
   simp at h2
   subst h2
   simp [binOp,Op.shift,h1]
 all_goals cases h
theorem run_intBin {op:BinOp} {k:IntKind} {x y:Int} {v:Value} (h:intBin op k x y = some v) (t:TypeId):(binOp op t (.int k x) (.int k y)).run P w = .ok v w :=by
 cases op <;> simp only [intBin] at h
 case shl =>exact run_shiftV h t
 case shr =>exact run_shiftV h t
 case xor =>simp at h; subst h; simp [binOp,Op.intBits,xorV,bitsV]
 case and =>simp at h; subst h; simp [binOp,Op.intBits,andV,bitsV]
 case or =>simp at h; subst h; simp [binOp,Op.intBits,orV,bitsV]
 case add =>simp at h; subst h; simp [binOp,Op.intArith]
 case sub =>simp at h; subst h; simp [binOp,Op.intArith]
 case mul =>simp at h; subst h; simp [binOp,Op.intArith]
 case quo =>
  rcases tE.1 h with ⟨_,h2⟩ | ⟨h1,h2⟩
  ·cases h2
  ·simp at h1 h2
   subst h2
   simp [binOp,Op.intDiv,h1]
 case rem =>
  rcases tE.1 h with ⟨_,h2⟩ | ⟨h1,h2⟩
  ·cases h2
  ·simp at h1 h2
   subst h2
   simp [binOp,Op.intDiv,h1]
 case eql =>simp at h; subst h; simp [binOp,Op.intCmp]; rfl
 case neq =>
  simp at h; subst h
  simp [binOp,Op.intCmp]
  by_cases e:x = y <;> simp [e]
 case lss =>simp at h; subst h; simp [binOp,Op.intCmp]
 case leq =>simp at h; subst h; simp [binOp,Op.intCmp]
 case gtr =>simp at h; subst h; simp [binOp,Op.intCmp]
 case geq =>simp at h; subst h; simp [binOp,Op.intCmp]
 all_goals cases h

theorem boolT_eq {t:Option TI} (h:boolT t = true):∃ i b,t = some i∧i.zero = [.p (.bool b)] :=by
 unfold boolT at h
 split at h
 ·rename_i k a b c
  exact ⟨_,c,rfl,rfl⟩
 ·cases h
theorem strT_eq {i:TI} (h:strT i = true):∃ b,i.zero = [.p (.string b)] :=by
 unfold strT at h
 split at h
 ·rename_i k a b c
  exact ⟨c,rfl⟩
 ·cases h
theorem intT_eq {i:TI} {k:IntKind} (h:intT i = some k):∃ n,i.zero = [.p (.int k n)] :=by
 unfold intT at h
 split at h
 ·rename_i q a b c n
  simp at h
  subst h
  exact ⟨n,rfl⟩
 ·cases h

theorem run_eqGuard_plain {op:BinOp} {t:TypeId} {x y:Operand} {u v:Value} (hu:(∃ k n,u = .int k n)∨(∃ b,u = .string b)∨(∃ b,u = .bool b)):(eqGuard op t x y u v).run P w = .ok () w :=by
 rcases hu with ⟨k,n,rfl⟩ | ⟨b,rfl⟩ | ⟨b,rfl⟩ <;> (unfold eqGuard; cases op <;> simp)

theorem run_bin {op:BinOp} {t:TypeId} {u v r:Value} (hT:TOk P E) (hb:okB E t u = true) (h:bin op u v = some r) (x y:Operand) :
  (do eqGuard op t x y u v; binOp op t u v:Sem Value).run P w = .ok r w :=by
 cases u <;> cases v <;> simp only [bin] at h <;> try (cases h; done)
 ·rename_i a b
  have e :=run_eqGuard_plain (P :=P) (w :=w) (op :=op) (t :=t) (x :=x) (y :=y) (v :=.bool b) (.inr (.inr ⟨a,rfl⟩))
  obtain ⟨i,c,hi,hz⟩ :=boolT_eq hb
  have hu :=(hT _ _ hi).bool c hz
  simp only [Sem.run_bind,e,Result.andThen_ok]
  cases op <;> simp only [boolBin] at h
  case eql =>
   simp at h; subst h
   simp [binOp,Op.equal,Op.maxDepth,run_equalIn_bool' w 9999 t a b hu]
  case neq =>
   simp at h; subst h
   simp [binOp,Op.equal,Op.maxDepth,run_equalIn_bool' w 9999 t a b hu]
  all_goals cases h
 ·rename_i k a k' b
  split at h
  ·rename_i hk
   subst hk
   have e :=run_eqGuard_plain (P :=P) (w :=w) (op :=op) (t :=t) (x :=x) (y :=y) (v :=.int k b) (.inl ⟨k,a,rfl⟩)
   simp only [Sem.run_bind,e,Result.andThen_ok]
   exact run_intBin h t
  ·have e :=run_eqGuard_plain (P :=P) (w :=w) (op :=op) (t :=t) (x :=x) (y :=y) (v :=.int k' b) (.inl ⟨k,a,rfl⟩)
   simp only [Sem.run_bind,e,Result.andThen_ok]
   exact run_shiftV h t
 ·rename_i a b
  have e :=run_eqGuard_plain (P :=P) (w :=w) (op :=op) (t :=t) (x :=x) (y :=y) (v :=.string b) (.inr (.inl ⟨a,rfl⟩))
  simp only [Sem.run_bind,e,Result.andThen_ok]
  have hs :=run_strBin (P :=P) (w :=w) h
  cases op <;> exact hs

def EqOkT (P:Program) (E:Env):Prop :=∀ t i,E.eqT t = true→E.T t = some i→∀ (w:World) (xs:List Value),shapeOk i.zero xs = true →
 (∀ (ys:List Value) (b:Bool),eqVals xs ys = some b →
  (∀ (x y:Operand),(do eqGuard .eql t x y (.agg xs.toArray) (.agg ys.toArray); binOp .eql t (.agg xs.toArray) (.agg ys.toArray):Sem Value).run P w = .ok (.bool b) w ∧
   (do eqGuard .neq t x y (.agg xs.toArray) (.agg ys.toArray); binOp .neq t (.agg xs.toArray) (.agg ys.toArray):Sem Value).run P w = .ok (.bool !b) w) ∧
  (Op.equal t (.agg xs.toArray) (.agg ys.toArray)).run P w = .ok b w) ∧
 ∀ e,(Instr.checkKey e 10000 t (.agg xs.toArray)).run P w = .ok () w

def ExtOk (P:Program) (E:Env):Prop :=∀ f,(E.ann f).ext = true→∀ (w:World) (a b:ByteArray),(callFunc f #[.string a,.string b]).run P w = .ok (.value (.int .i64 (cmpS a b))) w
def EqOk (P:Program) (E:Env):Prop :=EqOkT P E∧ExtOk P E

theorem allPrim_eq:∀ {cs:List C} {vs:List Value},allPrim cs = some vs→cs = vs.map .p
 | [],vs,h =>by simp [allPrim] at h; subst h; rfl
 | c :: cs,vs,h =>by
  obtain ⟨v,hv,h⟩ :=bE.1 (show bnd (asP c) _ = some vs from h)
  obtain ⟨l,hl,h⟩ :=bE.1 h
  simp at h
  subst h
  rw [asP_eq hv,allPrim_eq hl]
  rfl

theorem RL.prims {w:World} {Z:CA→Prop}:∀ {vs us:List Value} {F:List CA},RL w Z (vs.map .p) (fun i =>us[i]?) F→us.length = vs.length→us = vs
 | [],us,F,_,hl =>by simpa using hl
 | v :: vs,[],F,_,hl =>by simp at hl
 | v :: vs,u :: us,F,h,hl =>by
  obtain ⟨u',F1,F2,h0,hc,hr,_⟩ :=h
  simp at h0
  subst h0
  have hu:u = v :=hc.1
  have:us = vs :=RL.prims (w :=w) (Z :=Z) (F :=F2) (by
   have e:(fun i =>(u :: us)[i + 1]?) = fun i =>us[i]? :=by funext i; simp
   rw [e] at hr
   exact hr) (by simpa using hl)
  rw [hu,this]

theorem bin_oneCell {op:BinOp} {m n z:Value} (h:bin op m n = some z):z.oneCell' = true :=by
 cases m <;> cases n <;> simp only [bin] at h <;> try (cases h; done)
 ·cases op <;> simp [boolBin] at h <;> (subst h; rfl)
 ·split at h
  ·cases op <;> simp [intBin,shiftV] at h <;> first
    | (subst h; rfl)
    | (rcases tE.1 h with ⟨_,h⟩ | ⟨_,h⟩ <;> simp at h; subst h; rfl)
  ·cases op <;> simp [shiftV] at h <;> first
    | (subst h; rfl)
    | (rcases tE.1 h with ⟨_,h⟩ | ⟨_,h⟩ <;> simp at h; subst h; rfl)
 ·cases op <;> simp [strBin] at h <;> first
    | (subst h; rfl)
    | (rcases tE.1 h with ⟨_,h⟩ | ⟨_,h⟩ <;> simp at h; subst h; rfl)

theorem binS_agg {t:TypeId} {op:BinOp} {g g':Nat} {cs ds:List C} {q:S} (h:binS E t op (.val g true cs) (.val g' true ds) = some q) :
  E.eqT t = true∧∃ i xs ys e,E.T t = some i∧shapeOk i.zero xs = true∧allPrim cs = some xs∧allPrim ds = some ys∧eqVals xs ys = some e∧((op = .eql∧q = ofBool e)∨(op = .neq∧q = ofBool !e)) :=by
 rcases tE.1 (show tst (E.eqT t) _ _ = some q from h) with ⟨heq,hq⟩ | ⟨_,hq⟩
 case inr =>cases hq
 obtain ⟨i,hi,hq⟩ :=bE.1 hq
 obtain ⟨xs,hxs,hq⟩ :=bE.1 hq
 obtain ⟨ys,hys,hq⟩ :=bE.1 hq
 rcases tE.1 hq with ⟨hsh,hq⟩ | ⟨_,hq⟩
 case inr =>cases hq
 obtain ⟨e,he,hq⟩ :=bE.1 hq
 refine ⟨heq,i,xs,ys,e,hi,hsh,hxs,hys,he,?_⟩
 cases op <;> simp at hq
 ·exact .inl ⟨rfl,hq.symm⟩
 ·exact .inr ⟨rfl,hq.symm⟩

theorem bin_runs (hT:TOk P E) (hE:EqOk P E) (h:Inv w Z (Act.tm a) s fp) {call:Sem1} {op:BinOp} {t:TypeId} {x y:Operand} {yt:TypeId} {s':St} {r:S} (he:ev1 E call ty s (.binOp op t x y yt) = some (s',r)) :
  Runs P a (.binOp op t x y yt) ty w (Brings w Z (Act.tm a) fp s' r) :=by
 obtain ⟨u,hu,he⟩ :=bE.1 (show bnd (rd E 0 s x) _ = some (s',r) from he)
 obtain ⟨v,hv,he⟩ :=bE.1 he
 obtain ⟨q,hq,he⟩ :=bE.1 he
 simp at he
 obtain ⟨rfl,rfl⟩ :=he
 obtain ⟨ru,_⟩ :=rd_rep hT h hu
 obtain ⟨rv,_⟩ :=rd_rep hT h hv
 have fin:∀ z:Value,z.oneCell' = true→(do eqGuard op t x y (a.eval x) (a.eval y); binOp op t (a.eval x) (a.eval y):Sem Value).run P w = .ok z w→q = ofVal z →
   Runs P a (.binOp op t x y yt) ty w (Brings w Z (Act.tm a) fp s q) :=by
  intro z hz hr hqz
  subst hqz
  refine runs_still h (rep_one hz) trivial (fun o h1 h2 =>?_)
  simp only [Sem.run_bind] at hr
  simp only [execOp,h1,Sem.run_bind,hr,Result.andThen_ok,Sem.run_pure]
 cases u with
 | val g b cs =>
  cases v with
  | val g' b' ds =>
   cases b with
   | false =>
    cases b' with
    | true =>simp [binS] at hq
    | false =>
    obtain ⟨c,hc,hq⟩ :=bE.1 (show bnd (oneC cs) _ = some q from hq)
    obtain ⟨m,hm,hq⟩ :=bE.1 hq
    obtain ⟨d,hd,hq⟩ :=bE.1 hq
    obtain ⟨n,hn,hq⟩ :=bE.1 hq
    obtain ⟨z,hz,hq⟩ :=bE.1 hq
    rcases tE.1 hq with ⟨hb,hfin⟩ | ⟨_,hfin⟩
    case inr =>cases hfin
    have h1 :=oneC_eq hc
    have h2 :=asP_eq hm
    have h3 :=oneC_eq hd
    have h4 :=asP_eq hn
    subst h1 h2 h3 h4
    obtain ⟨vs,hp,hl,hr⟩ :=ru
    have e1 :=(packs_one hp hl hr).2.1
    obtain ⟨vs',hp',hl',hr'⟩ :=rv
    have e2 :=(packs_one hp' hl' hr').2.1
    simp at hfin
    refine fin z (bin_oneCell hz) ?_ hfin.symm
    rw [e1,e2]
    exact run_bin hT hb hz x y
   | true =>
    cases b' with
    | false =>simp [binS] at hq
    | true =>
    obtain ⟨heq,i,xs,ys,e,hi,hsh,hxs,hys,heqv,hop⟩ :=binS_agg hq
    have h1 :=allPrim_eq hxs
    have h2 :=allPrim_eq hys
    subst h1 h2
    obtain ⟨vs,hp,hl,hr⟩ :=ru
    obtain ⟨vs',hp',hl',hr'⟩ :=rv
    have e1:vs = xs :=hr.prims (by simpa using hl)
    have e2:vs' = ys :=hr'.prims (by simpa using hl')
    subst e1 e2
    have p1:a.eval x = .agg vs.toArray :=by
     rcases hp with ⟨_,h⟩ | ⟨h,_⟩
     ·exact h
     ·cases h
    have p2:a.eval y = .agg vs'.toArray :=by
     rcases hp' with ⟨_,h⟩ | ⟨h,_⟩
     ·exact h
     ·cases h
    have key :=((hE.1 t i heq hi w vs hsh).1 vs' e heqv).1 x y
    rw [← p1,← p2] at key
    rcases hop with ⟨hop,hfin⟩ | ⟨hop,hfin⟩
    ·subst hop; exact fin _ rfl key.1 hfin
    ·subst hop; exact fin _ rfl key.2 hfin
  | _ =>simp [binS] at hq
 | _ =>simp [binS] at hq

theorem move_runs (hT:TOk P E) (h:Inv w Z (Act.tm a) s fp) {call:Sem1} {x:Operand} {s':St} {r:S} (he:ev1 E call ty s (.move x) = some (s',r)) :
  Runs P a (.move x) ty w (Brings w Z (Act.tm a) fp s' r) :=by
 obtain ⟨u,hu,he⟩ :=bE.1 (show bnd (rd E ty s x) _ = some (s',r) from he)
 simp at he
 obtain ⟨rfl,rfl⟩ :=he
 obtain ⟨ru,hl⟩ :=rd_rep hT h hu
 exact runs_still h ru hl (fun o h1 h2 =>by unfold execOp; rw [h1]; rfl)

theorem pick_runs (hT:TOk P E) (h:Inv w Z (Act.tm a) s fp) {call:Sem1} {c x y:Operand} {s':St} {r:S} (he:ev1 E call ty s (.pick c x y) = some (s',r)) :
  Runs P a (.pick c x y) ty w (Brings w Z (Act.tm a) fp s' r) :=by
 obtain ⟨u,hu,he⟩ :=bE.1 (show bnd (rd E 0 s c) _ = some (s',r) from he)
 obtain ⟨v,hv,he⟩ :=bE.1 he
 obtain ⟨t,ht,he⟩ :=bE.1 he
 have hv' :=asBool_eq ht
 subst hv'
 have e1 :=(prim_val (rd_rep hT h hu).1 hv).1
 rcases tE.1 he with ⟨htt,he2⟩ | ⟨htt,he2⟩ <;> subst htt
 ·obtain ⟨z,hz,hfin⟩ :=bE.1 he2
  simp at hfin
  obtain ⟨rfl,rfl⟩ :=hfin
  obtain ⟨rz,hl⟩ :=rd_rep hT h hz
  refine runs_still h rz hl (fun o h1 h2 =>?_)
  unfold execOp
  rw [h1]
  simp [e1,asBool,Go.asBool]
 ·obtain ⟨z,hz,hfin⟩ :=bE.1 he2
  simp at hfin
  obtain ⟨rfl,rfl⟩ :=hfin
  obtain ⟨rz,hl⟩ :=rd_rep hT h hz
  refine runs_still h rz hl (fun o h1 h2 =>?_)
  unfold execOp
  rw [h1]
  simp [e1,asBool,Go.asBool]

theorem un_runs (hT:TOk P E) (h:Inv w Z (Act.tm a) s fp) {call:Sem1} {op:UnOp} {t:TypeId} {x:Operand} {s':St} {r:S} (he:ev1 E call ty s (.unOp op t x) = some (s',r)) :
  Runs P a (.unOp op t x) ty w (Brings w Z (Act.tm a) fp s' r) :=by
 obtain ⟨u,hu,he⟩ :=bE.1 (show bnd (rd E 0 s x) _ = some (s',r) from he)
 obtain ⟨v,hv,he⟩ :=bE.1 he
 obtain ⟨z,hz,he⟩ :=bE.1 he
 simp at he
 obtain ⟨rfl,rfl⟩ :=he
 have e1 :=(prim_val (rd_rep hT h hu).1 hv).1
 cases op <;> cases v <;> simp [un] at hz
 subst hz
 refine runs_still h (rep_one rfl) trivial (fun o h1 h2 =>?_)
 unfold execOp
 rw [h1]
 simp [e1,Op.unary]

theorem ptr_addr {w:World} {get:Nat→Option Value} {cs:List C} {tv v:Value} {off:Nat} {el:El} (h:PtrTo get cs tv off el v):∃ b o,v = .pointer (some ⟨b,o,none⟩) :=by
 cases el with
 | none =>
  obtain ⟨b,o,_,hv⟩ :=h
  exact ⟨b,_,hv⟩
 | some q =>
  obtain ⟨i,o'⟩ :=q
  obtain ⟨b,o,len,cap,f,sz,rows,_,_,hv⟩ :=h
  exact ⟨b,_,hv⟩

theorem nil_runs (hT:TOk P E) (h:Inv w Z (Act.tm a) s fp) {call:Sem1} {x:Operand} {s':St} {r:S} (he:ev1 E call ty s (.nilCheck x) = some (s',r)) :
  Runs P a (.nilCheck x) ty w (Brings w Z (Act.tm a) fp s' r) :=by
 obtain ⟨u,hu,he⟩ :=bE.1 (show bnd (rd E 0 s x) _ = some (s',r) from he)
 obtain ⟨ru,hl⟩ :=rd_rep hT h hu
 have fin:∀ b o,a.eval x = .pointer (some ⟨b,o,none⟩)→s' = s→r = u→Runs P a (.nilCheck x) ty w (Brings w Z (Act.tm a) fp s' r) :=by
  intro b o hv hs hr
  subst hs hr
  refine runs_still h ru hl (fun oo h1 h2 =>?_)
  unfold execOp
  rw [h1]
  simp only [hv]
  rfl
 cases u with
 | ptr q g off el =>
  obtain ⟨cs,hroot,he2⟩ :=bE.1 (show bnd _ _ = some (s',r) from he)
  simp at he2
  obtain ⟨b,o,hv⟩ :=ptr_addr (w :=w) (ru.2 cs hroot)
  exact fin b o hv he2.1.symm he2.2.symm
 | rp cs =>
  simp [nilS] at he
  obtain ⟨_,b,o,hv,_⟩ :=ru
  exact fin b o hv he.1.symm he.2.symm
 | _ =>simp [nilS] at he

theorem isAgg_of {t:TypeId} {i:TI} (hi:TIOk P t i):(isAgg t).run P w = .ok i.k.agg w :=by
 have hk :=hi.kind
 cases hki:i.k with
 | prim =>
  rw [hki] at hk
  obtain ⟨_,d,hu,hn⟩ :=hk
  simp only [isAgg,Sem.run_bind,run_underlying hu,Result.andThen_ok]
  cases d <;> first | rfl | (simp [notAgg] at hn)
 | strct offs =>
  rw [hki] at hk
  obtain ⟨fs,hu,_⟩ :=hk
  simp [isAgg,run_underlying hu,TK.agg]
 | slc e =>
  rw [hki] at hk
  simp [isAgg,run_underlying hk.2.1,TK.agg]
 | ptr e =>
  rw [hki] at hk
  simp [isAgg,run_underlying hk.2,TK.agg]
 | mp k e =>
  rw [hki] at hk
  simp [isAgg,run_underlying hk.2,TK.agg]

theorem agg_size {t:TypeId} {i:TI} (hi:TIOk P t i) (ha:i.k.agg = false):i.size = 1 :=by
 have hk :=hi.kind
 cases hki:i.k with
 | prim =>rw [hki] at hk; exact hk.1
 | strct offs =>rw [hki] at ha; simp [TK.agg] at ha
 | slc e =>rw [hki] at hk; exact hk.1
 | ptr e =>rw [hki] at hk; exact hk.1
 | mp k e =>rw [hki] at hk; exact hk.1

theorem sizeOf_of {t:TypeId} {i:TI} (hi:TIOk P t i):(sizeOf t).run P w = .ok i.size w :=by
 obtain ⟨inf,z,h1,h2,_⟩ :=hi.info
 simp [sizeOf,typeInfo,h1,h2]

theorem app_nil {A B:List CA} (h:[] = A ++ B):A = []∧B = [] :=by
 have :=congrArg List.length h
 simp only [List.length_nil,List.length_append] at this
 exact ⟨List.eq_nil_of_length_eq_zero (by omega),List.eq_nil_of_length_eq_zero (by omega)⟩

theorem run_load_cells {t:TypeId} {i:TI} (hi:TIOk P t i) {b o:Nat} {vs:List Value} (hl:vs.length = i.size) (hc:∀ j,j < vs.length→cell w (b,o + j) = vs[j]?) (h1:∀ v ∈ vs,v.oneCell' = true) :
  ∃ v,(Instr.loadAt t (.pointer (some ⟨b,o,none⟩))).run P w = .ok v w∧Packs i.k.agg vs v :=by
 have hadd:∀ j,(⟨b,o,none⟩:Addr).add j = ⟨b,o + j,none⟩ :=fun j =>by unfold Addr.add; split <;> simp_all
 have hlist:∀ j v,vs[j]? = some v→w.cell? ((⟨b,o,none⟩:Addr).add j) = some v :=by
  intro j v hv
  have hj:j < vs.length :=by
   rcases Nat.lt_or_ge j vs.length with h | h
   ·exact h
   ·simp [List.getElem?_eq_none h] at hv
  rw [hadd,← hv]
  exact hc j hj
 cases ha:i.k.agg with
 | true =>
  have hr :=run_loadCells_list (P :=P) w ⟨b,o,none⟩ vs hlist
  rw [hl] at hr
  refine ⟨.agg vs.toArray,?_,.inl ⟨rfl,rfl⟩⟩
  have e :=isAgg_of (w :=w) hi
  rw [ha] at e
  simp [Instr.loadAt,Instr.sureAddr,loadVar,e,sizeOf_of hi,hr]
 | false =>
  have hs :=agg_size hi ha
  rw [hs] at hl
  match vs,hl with
  | [v],_ =>
   have hv :=hlist 0 v rfl
   rw [hadd] at hv
   simp at hv
   refine ⟨v,?_,.inr ⟨rfl,rfl,h1 v (by simp)⟩⟩
   have e :=isAgg_of (w :=w) hi
   rw [ha] at e
   simp [Instr.loadAt,Instr.sureAddr,loadVar,e,hv]

theorem RL.values {w:World} {Z:CA→Prop}:∀ {cs:List C} {get:Nat→Option Value} {F:List CA},RL w Z cs get F→∃ vs:List Value,vs.length = cs.length∧(∀ j,j < cs.length→get j = vs[j]?)∧∀ v ∈ vs,v.oneCell' = true
 | [],_,_,_ =>⟨[],rfl,by simp,by simp⟩
 | c :: cs,get,F,h =>by
  obtain ⟨v,F1,F2,h0,hc,hr,_⟩ :=h
  obtain ⟨vs,hl,hg,h1⟩ :=RL.values hr
  refine ⟨v :: vs,by simp [hl],fun j hj =>?_,fun u hu =>?_⟩
  ·cases j with
   | zero =>exact h0
   | succ j =>simpa using hg j (by simpa using hj)
  ·rcases List.mem_cons.1 hu with rfl | hu
   ·exact hc.oneCell
   ·exact h1 u hu

theorem load_runs (hT:TOk P E) (h:Inv w Z (Act.tm a) s fp) {call:Sem1} {t:TypeId} {x:Operand} {s':St} {r:S} (he:ev1 E call ty s (.load t x) = some (s',r)) :
  Runs P a (.load t x) ty w (Brings w Z (Act.tm a) fp s' r) :=by
 obtain ⟨i,hi,he⟩ :=bE.1 (show bnd (E.T t) _ = some (s',r) from he)
 obtain ⟨u,hu,he⟩ :=bE.1 he
 obtain ⟨q,hq,he⟩ :=bE.1 he
 simp at he
 obtain ⟨rfl,rfl⟩ :=he
 obtain ⟨ru,hl⟩ :=rd_rep hT h hu
 have hti :=hT _ _ hi
 have run:∀ v,(Instr.loadAt t (a.eval x)).run P w = .ok v w→∀ o:Oper,o.op = .load t x→o.type = ty→(execOp a.eval o).run P w = .ok (.value v) w :=by
  intro v hv o h1 h2
  simp only [execOp,h1,Sem.run_bind,hv,Result.andThen_ok,Sem.run_pure]
 cases u with
 | rp cs =>
  obtain ⟨xs,hxs,hq2⟩ :=bE.1 (show bnd (takeL i.size cs) _ = some q from hq)
  simp at hq2
  subst hq2
  obtain ⟨post,hcs,hn⟩ :=takeL_eq hxs
  obtain ⟨_,b,o,hv,hr,hz⟩ :=ru
  rw [hcs] at hr
  obtain ⟨F1,F2,hr1,hr2,hF⟩ :=RL.split hr
  have hF1:F1 = [] :=(app_nil hF).1
  subst hF1
  obtain ⟨vs,hvl,hvg,hv1⟩ :=hr1.values
  obtain ⟨v,hrun,hp⟩ :=run_load_cells (w :=w) hti (b :=b) (o :=o) (by rw [hvl]; exact hn) (fun j hj =>hvg j (by omega)) hv1
  rw [← hv] at hrun
  exact runs_still h (x :=.val 0 i.k.agg xs) ⟨vs,hp,hvl,RL.same (w' :=w) (fun _ h =>h) xs hr1 (fun _ _ =>rfl) (fun j hj =>(hvg j hj).symm)⟩ trivial (run v hrun)
 | ptr q' g off el =>
  obtain ⟨cs,hroot,hq⟩ :=bE.1 (show bnd ((look s.sl q').rootR g el) _ = some q from hq)
  obtain ⟨xs,hg,hq⟩ :=bE.1 hq
  have hrt :=rootR_root hroot
  have hptr :=ru.2 cs hroot
  obtain ⟨D,G,hF,hG,hget,hmk⟩ :=(h.rep q').root2 hrt
  obtain ⟨hxl,A,Fx,B,hGe,hx⟩ :=place_read hG hg
  obtain ⟨vs,hvl,hvg,hv1⟩ :=hx.values
  -- the address
  have haddr:∃ b o,a.eval x = .pointer (some ⟨b,o,none⟩)∧∀ j,pget w (rget w (look s.sl q') (Act.tm a q')) cs off el j = cell w (b,o + j) :=by
   cases el with
   | none =>
    obtain ⟨b,o,htv,hv⟩ :=hptr
    refine ⟨b,o + off,hv,fun j =>?_⟩
    cases hlook:look s.sl q' with
    | box g' k ds =>
     simp only [pget,rget,hlook,htv]
     congr 2
     omega
    | fz g' ds =>
     simp only [pget,rget,hlook,htv]
     congr 2
     omega
    | val g' k ds =>rw [hlook] at hroot; simp [S.rootR,S.rootP] at hroot
    | _ =>rw [hlook] at hroot; simp [S.rootR] at hroot
   | some p =>
    obtain ⟨i',o'⟩ :=p
    obtain ⟨b,o,len,cap,f,sz,rows,hgo,hco,hv⟩ :=hptr
    refine ⟨b,o + i' * sz + o',hv,fun j =>?_⟩
    simp only [pget,hgo,hco]
  obtain ⟨b,o,hv,hpc⟩ :=haddr
  obtain ⟨v,hrun,hp⟩ :=run_load_cells (w :=w) hti (b :=b) (o :=o) (by rw [hvl]; exact hxl) (fun j hj =>by rw [← hpc]; exact hvg j (by omega)) hv1
  rw [← hv] at hrun
  have hx':RL w Z xs (fun j =>vs[j]?) Fx :=RL.same (w' :=w) (fun _ h =>h) xs hx (fun _ _ =>rfl) (fun j hj =>(hvg j hj).symm)
  rcases tE.1 hq with ⟨hfr,hq2⟩ | ⟨hfr,hq2⟩
  ·simp at hq2
   subst hq2
   have hFx :=hx'.free hfr
   subst hFx
   exact runs_still h (x :=.val 0 i.k.agg xs) ⟨vs,hp,hvl,hx'⟩ trivial (run v hrun)
  ·simp at hq2
   subst hq2
   refine runs_still h (x :=.lnk q' (look s.sl q').linkStamp off i.size i.k.agg el none) ⟨rfl,fun cs' hroot' =>?_⟩ ?_ (run v hrun)
   ·have:cs' = cs :=by
     have :=(rootL_root hroot').1
     rw [hrt] at this
     simpa using this.symm
    subst this
    exact ⟨⟨xs,hg⟩,vs,by omega,fun j hj =>hvg j (by omega),hp⟩
   ·have hst :=h.stamps q'
    cases hlook:look s.sl q' with
    | val g' b' ds =>rw [hlook] at hst; exact hst
    | box g' k ds =>rw [hlook] at hst; exact hst.2
    | fz g' ds =>rw [hlook] at hst; exact hst
    | _ =>rw [hlook] at hrt; simp [S.root] at hrt
 | _ =>simp [loadS] at hq

theorem fieldAddr_runs (hT:TOk P E) (h:Inv w Z (Act.tm a) s fp) {call:Sem1} {t:TypeId} {x:Operand} {f:Nat} {s':St} {r:S} (he:ev1 E call ty s (.fieldAddr t x f) = some (s',r)) :
  Runs P a (.fieldAddr t x f) ty w (Brings w Z (Act.tm a) fp s' r) :=by
 obtain ⟨i,hi,he⟩ :=bE.1 (show bnd (E.T t) _ = some (s',r) from he)
 obtain ⟨l,hl,he⟩ :=bE.1 he
 obtain ⟨d,hd,he⟩ :=bE.1 he
 obtain ⟨u,hu,he⟩ :=bE.1 he
 obtain ⟨q,hq,he⟩ :=bE.1 he
 simp at he
 obtain ⟨rfl,rfl⟩ :=he
 obtain ⟨ru,hlt⟩ :=rd_rep hT h hu
 have hki:i.k = .strct l :=by
  cases hk:i.k with
  | strct l' =>rw [hk] at hl; simp [TK.offs] at hl; rw [hl]
  | _ =>rw [hk] at hl; simp [TK.offs] at hl
 have hk :=(hT _ _ hi).kind
 rw [hki] at hk
 obtain ⟨fs,hun,hfs,_⟩ :=hk
 obtain ⟨fl,inf,hfl,hoff,hinf,hsz,hnz⟩ :=hfs f d hd
 have run:∀ b o,a.eval x = .pointer (some ⟨b,o,none⟩)→∀ oo:Oper,oo.op = .fieldAddr t x f→oo.type = ty→(execOp a.eval oo).run P w = .ok (.value (.pointer (some ⟨b,o + d.1,none⟩))) w :=by
  intro b o hv oo h1 h2
  have hadd:(⟨b,o,none⟩:Addr).add d.1 = ⟨b,o + d.1,none⟩ :=by unfold Addr.add; split <;> simp_all
  have hszs:(sizeOf fl.type).run P w = .ok d.2.1 w :=by simp [sizeOf,typeInfo,hinf,hsz]
  simp only [execOp,h1,hv,Instr.fieldAt,Sem.run_bind,run_underlying hun,Result.andThen_ok,hfl,Instr.sureAddr,Sem.run_pure,fieldPlace,hszs,Sem.run_ite,if_neg hnz,hoff,hadd]
 cases u with
 | ptr p g off el =>
  obtain ⟨cs,hroot,hq⟩ :=bE.1 (show bnd ((look s.sl p).rootR g el) _ = some q from hq)
  have hptr :=ru.2 cs hroot
  cases el with
  | none =>
   simp at hq
   subst hq
   obtain ⟨b,o,htv,hv⟩ :=hptr
   refine runs_still h (x :=.ptr p g (off + d.1) none) ⟨rfl,fun cs' _ =>⟨b,o,htv,rfl⟩⟩ hlt ?_
   have :=run b (o + off) hv
   rw [Nat.add_assoc] at this
   exact this
  | some z =>
   obtain ⟨i',o'⟩ :=z
   simp at hq
   subst hq
   obtain ⟨b,o,len,cap,f',sz,rows,hgo,hco,hv⟩ :=hptr
   refine runs_still h (x :=.ptr p g off (some (i',o' + d.1))) ⟨rfl,fun cs' hroot' =>?_⟩ hlt ?_ (v :=.pointer (some ⟨b,o + i' * sz + (o' + d.1),none⟩))
   ·have:cs' = cs :=by
     have h1 :=rootR_root hroot'
     rw [rootR_root hroot] at h1
     simpa using h1.symm
    subst this
    exact ⟨b,o,len,cap,f',sz,rows,hgo,hco,rfl⟩
   ·have :=run b (o + i' * sz + o') hv
    rw [Nat.add_assoc (o + i' * sz)] at this
    exact this
 | rp cs =>
  obtain ⟨l',hl',hq2⟩ :=bE.1 (show bnd (dropL d.1 cs) _ = some q from hq)
  simp at hq2
  subst hq2
  obtain ⟨_,b,o,hv,hr,hz⟩ :=ru
  obtain ⟨pre,hcs,hpl⟩ :=dropL_eq hl'
  rw [hcs] at hr
  obtain ⟨F1,F2,hr1,hr2,hF⟩ :=RL.split hr
  have hF2:F2 = [] :=(app_nil hF).2
  subst hF2
  refine runs_still h (x :=.rp l') ⟨rfl,b,o + d.1,rfl,?_,fun c hc =>hz c ?_⟩ trivial (run b o hv)
  ·have e:(fun i =>cell w (b,o + d.1 + i)) = fun i =>cell w (b,o + (i + pre.length)) :=by
    funext j
    congr 2
    omega
   rw [e]
   exact hr2
  ·rw [mem_span] at hc ⊢
   rw [hcs]
   simp only [List.length_append] at hc ⊢
   omega
 | _ =>simp [fieldS] at hq
end
end Go.Sx

/- More operations that only compute or read. -/
namespace Go.Sx
section
variable {P:Program} {E:Env} {w:World} {Z:CA→Prop} {a:Act} {s:St} {fp:Tmp→List CA} {ty:TypeId}

theorem slice_val {v:Value} {f:Fl} {sz:Nat} {rows:List (List C)} {F:List CA} (h:RC w Z (.sl f sz rows) v F):∃ ad cap,v = .slice ad rows.length cap∧rows.length≤cap ∧
  (∀ i row,rows[i]? = some row→row.length = sz∧∃ b o G,ad = some ⟨b,o,none⟩∧RL w Z row (fun j =>cell w (b,o + i * sz + j)) G∧(f = .shr→G = []∧∀ c ∈ span (b,o + i * sz) sz,Z c)) :=by
 obtain ⟨ad,cap,hv,hle,h⟩ :=h
 refine ⟨ad,cap,hv,hle,fun i row hi =>?_⟩
 have hlt:i < rows.length :=by
  rcases Nat.lt_or_ge i rows.length with h | h
  ·exact h
  ·simp [List.getElem?_eq_none h] at hi
 rcases h with ⟨hf,hF,hs⟩ | ⟨hf,hs⟩
 ·rcases hs with hs | ⟨b,o,had,hr,hz⟩
  ·simp [hs] at hi
  ·obtain ⟨hl,A,G,B,hG,hrl,_,_⟩ :=RRs.get hr hi
   have hG0:G = [] :=by
    have :=congrArg List.length hG
    simp only [List.length_nil,List.length_append] at this
    exact List.eq_nil_of_length_eq_zero (by omega)
   refine ⟨hl,b,o,G,had,hrl,fun _ =>⟨hG0,fun c hc =>hz c ?_⟩⟩
   rw [mem_span] at hc ⊢
   have h1:(i + 1) * sz≤rows.length * sz :=Nat.mul_le_mul_right _ (by omega)
   rw [Nat.add_mul,Nat.one_mul] at h1
   simp only at hc ⊢
   omega
 ·rcases hs with ⟨_,hs,_⟩ | ⟨b,o,G0,had,hr,_⟩
  ·simp [hs] at hi
  ·obtain ⟨hl,A,G,B,hG,hrl,_,_⟩ :=RRs.get hr.1 hi
   exact ⟨hl,b,o,G,had,hrl,fun e =>absurd e hf⟩

theorem isShr_eq {f:Fl} (h:f.isShr = true):f = .shr :=by cases f <;> first | rfl | simp [Fl.isShr] at h

theorem elem_of (hT:TOk P E) {t e:TypeId} {i j:TI} (hi:E.T t = some i) (he:i.k.elem = some e) (hj:E.T e = some j):P.underlying t = some (.slice e)∧TIOk P e j∧∃ sz,i.zero = [.sl .own sz []] :=by
 have hk :=(hT _ _ hi).kind
 cases hki:i.k with
 | slc e' =>
  rw [hki] at hk he
  simp [TK.elem] at he
  subst he
  exact ⟨hk.2.1,hT _ _ hj,hk.2.2⟩
 | _ =>rw [hki] at he; simp [TK.elem] at he

theorem run_indexAt {t e:TypeId} {b o len cap:Nat} {k:IntKind} {i:Int} {sz:Nat} (hu:P.underlying t = some (.slice e)) (hs:(sizeOf e).run P w = .ok sz w) (h0:0≤i) (h1:i < len) :
  (Instr.indexAt t (.slice (some ⟨b,o,none⟩) len cap) (.int k i)).run P w = .ok (.pointer (some ⟨b,o + i.toNat * sz,none⟩)) w :=by
 have hadd:(⟨b,o,none⟩:Addr).add (i.toNat * sz) = ⟨b,o + i.toNat * sz,none⟩ :=by unfold Addr.add; split <;> simp_all
 simp [Instr.indexAt,asIntOf,run_underlying hu,hs,h0,h1,hadd]

theorem indexAddr_runs (hT:TOk P E) (h:Inv w Z (Act.tm a) s fp) {call:Sem1} {t:TypeId} {x ix:Operand} {s':St} {r:S} (he:ev1 E call ty s (.indexAddr t x ix) = some (s',r)) :
  Runs P a (.indexAddr t x ix) ty w (Brings w Z (Act.tm a) fp s' r) :=by
 obtain ⟨ti,hti,he⟩ :=bE.1 (show bnd (E.T t) _ = some (s',r) from he)
 obtain ⟨e,hel,he⟩ :=bE.1 he
 obtain ⟨tj,htj,he⟩ :=bE.1 he
 obtain ⟨n,hn,he⟩ :=bE.1 he
 obtain ⟨u,hu,he⟩ :=bE.1 he
 obtain ⟨i,hi,he⟩ :=bE.1 he
 obtain ⟨v,hv,he⟩ :=bE.1 he
 obtain ⟨q,hq,he⟩ :=bE.1 he
 simp at he
 obtain ⟨rfl,rfl⟩ :=he
 obtain ⟨k,m,hum,hm0,him⟩ :=asIdx_eq hi
 subst hum
 have ei :=(prim_val (rd_rep hT h hn).1 hu).1
 obtain ⟨rv,hlt⟩ :=rd_rep hT h hv
 obtain ⟨hun,hej,_⟩ :=elem_of hT hti hel htj
 have run:∀ b o len cap,a.eval x = .slice (some ⟨b,o,none⟩) len cap→i < len→∀ oo:Oper,oo.op = .indexAddr t x ix→oo.type = ty →
   (execOp a.eval oo).run P w = .ok (.value (.pointer (some ⟨b,o + i * tj.size,none⟩))) w :=by
  intro b o len cap hvv hlen oo h1 h2
  have :=run_indexAt (P :=P) (w :=w) (b :=b) (o :=o) (cap :=cap) (k :=k) hun (sizeOf_of hej) hm0 (show m < (len:Int) by omega)
  rw [← him] at this
  simp only [execOp,h1,Sem.run_bind,hvv,ei,this,Result.andThen_ok,Sem.run_pure]
 cases v with
 | val g b cs =>
  obtain ⟨c,hc,hq⟩ :=bE.1 (show bnd (one1 b cs) _ = some q from hq)
  obtain ⟨z,hz,hq⟩ :=bE.1 hq
  rcases tE.1 hq with ⟨hsh,hq⟩ | ⟨_,hq⟩
  case inr =>cases hq
  obtain ⟨row,hrow,hq⟩ :=bE.1 hq
  rcases tE.1 hq with ⟨hsz,hfin⟩ | ⟨_,hfin⟩
  case inr =>cases hfin
  simp at hfin hsz
  subst hfin
  obtain ⟨hb,hcs⟩ :=one1_eq hc
  subst hb hcs
  have hcz :=asSl_eq hz
  subst hcz
  obtain ⟨vs,hp,hl,hr⟩ :=rv
  obtain ⟨_,hrc⟩ :=packs_one hp hl hr
  obtain ⟨ad,cap,hval,hle,hrows⟩ :=slice_val hrc
  obtain ⟨hrl,bb,o,G,had,hrep,hshr⟩ :=hrows i row hrow
  obtain ⟨hG,hzz⟩ :=hshr (isShr_eq hsh)
  subst hG
  have hlt:i < z.2.2.length :=by
   rcases Nat.lt_or_ge i z.2.2.length with h | h
   ·exact h
   ·simp [List.getElem?_eq_none h] at hrow
  rw [had] at hval
  refine runs_still h (x :=.rp row) (v :=.pointer (some ⟨bb,o + i * tj.size,none⟩)) ⟨rfl,bb,o + i * tj.size,rfl,by rw [← hsz]; exact hrep,by rw [← hsz,hrl]; exact hzz⟩ trivial (run bb o _ _ hval hlt)
 | lnk p k' off n' b el win =>
  cases el with
  | some z =>simp [indexS] at hq
  | none =>
  obtain ⟨z,hz,hq⟩ :=bE.1 (show bnd (cells s (.lnk p k' off n' b none win)) _ = some q from hq)
  obtain ⟨c,hc,hq⟩ :=bE.1 hq
  obtain ⟨y,hy,hq⟩ :=bE.1 hq
  rcases tE.1 hq with ⟨_,hq⟩ | ⟨hsh,hq⟩
  case inl =>cases hq
  rcases tE.1 hq with ⟨hil,hq⟩ | ⟨_,hq⟩
  case inr =>cases hq
  rcases tE.1 hq with ⟨hsz,hfin⟩ | ⟨_,hfin⟩
  case inr =>cases hfin
  simp at hfin hsz hil
  subst hfin
  obtain ⟨za,zc⟩ :=z
  obtain ⟨hb,hcs⟩ :=one1_eq hc
  simp only at hb hcs
  subst hb hcs
  have hcz :=asSl_eq hy
  subst hcz
  -- the value
  obtain ⟨vs,F,hp,hl,hr,_,_⟩ :=cells_rep h rv hz
  obtain ⟨_,hrc⟩ :=packs_one hp hl hr
  obtain ⟨ad,cap,hval,hle,hrows⟩ :=slice_val hrc
  have hrow:y.2.2[i]? = some y.2.2[i] :=List.getElem?_eq_getElem hil
  obtain ⟨hrl,bb,o,G,had,hrep,_⟩ :=hrows i _ hrow
  rw [had] at hval
  -- the place
  obtain ⟨cs,hroot,hz⟩ :=bE.1 (show bnd _ _ = some (false,[C.sl y.1 y.2.1 y.2.2]) from hz)
  obtain ⟨xs,hg,hz⟩ :=bE.1 hz
  obtain ⟨ys,hw,hz⟩ :=bE.1 hz
  simp at hz
  obtain ⟨hbf,hys⟩ :=hz
  subst hbf hys
  obtain ⟨⟨xs0,hg0⟩,ws,hwl,hwg,hwm⟩ :=rv.2 cs hroot
  refine runs_still h (x :=.ptr p k' off (some (i + winLo win,0))) (v :=.pointer (some ⟨bb,o + i * tj.size,none⟩)) ⟨rfl,fun cs' hroot' =>?_⟩ hlt (run bb o _ _ hval hil)
  have hcs':cs' = cs :=by
   have h1 :=rootR_root hroot'
   rw [(rootL_root hroot).1] at h1
   simpa using h1.symm
  subst hcs'
  -- the header at the place
  cases win with
  | none =>
   simp [winC] at hw
   subst hw
   have hn1:n' = 1 :=by
    have :=hwl
    rcases hwm with ⟨e,_⟩ | ⟨_,e,_⟩
    ·cases e
    ·rw [e] at this; simpa using this.symm
   subst hn1
   obtain ⟨pre,post,hcs,hpre,_⟩ :=getP_none hg
   rcases hwm with ⟨e,_⟩ | ⟨_,e,_⟩
   ·cases e
   have hw0 :=hwg 0 (by omega)
   rw [e] at hw0
   simp [pget] at hw0
   refine ⟨bb,o,y.2.2.length,cap,y.1,y.2.1,y.2.2,by rw [hw0,hval],?_,?_⟩
   ·rw [hcs,List.getElem?_append_right (by omega),hpre]; simp
   ·simp [winLo,hsz]
  | some lk =>
   obtain ⟨lo,kk⟩ :=lk
   obtain ⟨_,uu,f,sz,rows,hws,hgg,hlk,hvc⟩ :=hwm
   have hn1:n' = 1 :=by rw [hws] at hwl; simpa using hwl.symm
   subst hn1
   rw [hg] at hgg
   simp at hgg
   subst hgg
   simp only [winC,asSl,bnd] at hw
   simp only [hlk,decide_true,tst,Option.some.injEq,List.cons.injEq,C.sl.injEq,and_true] at hw
   obtain ⟨hf1,hs1,hr1⟩ :=hw
   obtain ⟨pre,post,hcs,hpre,_⟩ :=getP_none hg
   have hw0 :=hwg 0 (by omega)
   rw [hws] at hw0
   simp [pget] at hw0
   -- the uncut header
   have hat:cs'[off]? = some (.sl f sz rows) :=by rw [hcs,List.getElem?_append_right (by omega),hpre]; simp
   obtain ⟨D,G0,_,hG0,_,_⟩ :=(h.rep p).root2 (rootL_root hroot).1
   obtain ⟨u2,_,_,_,hu2,hrc2,_⟩ :=RL.get hG0 hat
   rw [hw0] at hu2
   simp at hu2
   subst hu2
   obtain ⟨ad2,cap2,hval2,hle2,_⟩ :=slice_val hrc2
   have hlen:y.2.2.length = kk :=by rw [← hr1]; simp; omega
   have hcap:cap2 ≠ lo :=by omega
   subst hval2
   rw [hval] at hvc
   simp only [cutV,if_neg hcap] at hvc
   cases ad2 with
   | none =>simp at hvc
   | some ad2 =>
    have hrows2 :=slice_val hrc2
    obtain ⟨ad3,cap3,e3,_,hrr⟩ :=hrows2
    have hlo:rows[i + lo]? = some rows[i + lo] :=List.getElem?_eq_getElem (by omega)
    obtain ⟨_,b2,o2,_,had2,_⟩ :=hrr _ _ hlo
    simp at e3
    obtain ⟨e3,_⟩ :=e3
    subst e3
    simp at had2
    subst had2
    have hadd:(⟨b2,o2,none⟩:Addr).add (lo * sz) = ⟨b2,o2 + lo * sz,none⟩ :=by unfold Addr.add; split <;> simp_all
    simp only [Option.map_some,hadd,Value.slice.injEq,Option.some.injEq,Addr.mk.injEq,and_true] at hvc
    obtain ⟨⟨rfl,rfl⟩,_,_⟩ :=hvc
    refine ⟨bb,o2,rows.length,cap2,f,sz,rows,hw0,hat,?_⟩
    rw [← hsz,← hs1]
    simp only [winLo,Value.pointer.injEq,Option.some.injEq,Addr.mk.injEq,true_and,and_true,Nat.add_mul]
    omega
 | _ =>simp [indexS] at hq
end
end Go.Sx

/- Still more operations that only compute or read. -/
namespace Go.Sx
section
variable {P:Program} {E:Env} {w:World} {Z:CA→Prop} {a:Act} {s:St} {fp:Tmp→List CA} {ty:TypeId}

theorem index_runs (hT:TOk P E) (h:Inv w Z (Act.tm a) s fp) {call:Sem1} {t:TypeId} {x ix:Operand} {s':St} {r:S} (he:ev1 E call ty s (.index t x ix) = some (s',r)) :
  Runs P a (.index t x ix) ty w (Brings w Z (Act.tm a) fp s' r) :=by
 obtain ⟨ti,hti,he⟩ :=bE.1 (show bnd (E.T t) _ = some (s',r) from he)
 rcases tE.1 he with ⟨hstr,he⟩ | ⟨_,he⟩
 case inr =>cases he
 obtain ⟨n,hn,he⟩ :=bE.1 he
 obtain ⟨u,hu,he⟩ :=bE.1 he
 obtain ⟨i,hi,he⟩ :=bE.1 he
 obtain ⟨v,hv,he⟩ :=bE.1 he
 obtain ⟨b,hb,he⟩ :=bE.1 he
 obtain ⟨z,hz,he⟩ :=bE.1 he
 obtain ⟨c,hc,hfin⟩ :=bE.1 he
 simp at hfin
 obtain ⟨rfl,rfl⟩ :=hfin
 obtain ⟨k,m,hum,hm0,him⟩ :=asIdx_eq hi
 have ei :=(prim_val (rd_rep hT h hn).1 hu).1
 rw [hum] at ei
 have hbz :=asStr_eq hz
 have ev :=(prim_val (rd_rep hT h hv).1 hb).1
 rw [hbz] at ev
 obtain ⟨zs,hzs⟩ :=strT_eq hstr
 have hun :=(hT _ _ hti).str zs hzs
 refine runs_still h (rep_one rfl) trivial (fun o h1 h2 =>?_)
 have hs:z[m.toNat]? = some c :=by
  rw [← him]
  rw [← hc]
  simp only [getElem?_def,Array.length_toList]
  congr 1
 have hm:(if 0≤m then z[m.toNat]? else none) = some c :=by rw [if_pos hm0,hs]
 simp only [execOp,h1,Instr.index,Sem.run_bind,ei,ev,asIntOf,Sem.run_pure,Result.andThen_ok,run_underlying hun,hm]

theorem lenOf_eq {c:C} {n:Nat} (h:lenOf c = some n):(∃ b,c = .p (.string b)∧n = b.size)∨(∃ f sz rows,c = .sl f sz rows∧n = rows.length) :=by
 cases c with
 | p v =>cases v <;> simp [lenOf] at h; rename_i b; exact .inl ⟨b,rfl,h.symm⟩
 | sl f sz rows =>simp [lenOf] at h; exact .inr ⟨f,sz,rows,rfl,h.symm⟩
 | hole =>simp [lenOf] at h
 | mp =>simp [lenOf] at h

theorem elem_some {i:TI} {e:TypeId} (h:i.k.elem = some e):i.k = .slc e :=by
 cases hk:i.k <;> rw [hk] at h <;> simp [TK.elem] at h
 rw [h]

theorem slc_under (hT:TOk P E) {t e:TypeId} {i:TI} (hi:E.T t = some i) (he:i.k.elem = some e):P.underlying t = some (.slice e) :=by
 have hk :=(hT _ _ hi).kind
 rw [elem_some he] at hk
 exact hk.2.1

theorem len_runs (hT:TOk P E) (h:Inv w Z (Act.tm a) s fp) {call:Sem1} {x:Operand} {t:TypeId} {args:Array Operand} {tys:Array TypeId} (hargs:args.toList = [x]) (htys:tys.toList = [t]) {s':St} {r:S}
  (he:ev1 E call ty s (.call { callee :=.builtin .len,args :=args,argTypes :=tys }) = some (s',r)) :
  Runs P a (.call { callee :=.builtin .len,args :=args,argTypes :=tys }) ty w (Brings w Z (Act.tm a) fp s' r) :=by
 have he':builtinS E s .len args.toList tys.toList = some (s',r) :=he
 rw [hargs,htys] at he'
 obtain ⟨i,hi,he⟩ :=bE.1 (show bnd (E.T t) _ = some (s',r) from he')
 obtain ⟨v,hv,he⟩ :=bE.1 he
 obtain ⟨z,hz,he⟩ :=bE.1 he
 obtain ⟨c,hc,he⟩ :=bE.1 he
 obtain ⟨n,hn,he⟩ :=bE.1 he
 rcases tE.1 he with ⟨hlt,hfin⟩ | ⟨_,hfin⟩
 case inr =>cases hfin
 simp at hfin
 obtain ⟨rfl,rfl⟩ :=hfin
 obtain ⟨rv,_⟩ :=rd_rep hT h hv
 obtain ⟨za,zc⟩ :=z
 obtain ⟨hb,hcs⟩ :=one1_eq hc
 simp only at hb hcs
 subst hb hcs
 obtain ⟨vs,F,hp,hl,hr,_,_⟩ :=cells_rep h rv hz
 obtain ⟨_,hrc⟩ :=packs_one hp hl hr
 have hargs':args = #[x] :=by cases args; simp at hargs; rw [hargs]
 have htys':tys = #[t] :=by cases tys; simp at htys; rw [htys]
 subst hargs' htys'
 refine runs_still h (rep_one rfl) trivial (fun o h1 h2 =>?_)
 rcases lenOf_eq hn with ⟨b,rfl,rfl⟩ | ⟨f,sz,rows,rfl,rfl⟩
 ·have ev:a.eval x = .string b :=hrc.1
  obtain ⟨zs,hzs⟩ :=strT_eq hlt
  have hun :=(hT _ _ hi).str zs hzs
  simp [execOp,h1,resolve,invoke,builtin,Builtin.len_,ev,run_underlying hun,goInt]
 ·obtain ⟨ad,cap,hval,_⟩ :=slice_val hrc
  obtain ⟨e,hel⟩ :=Option.isSome_iff_exists.1 hlt
  have hun :=slc_under hT hi hel
  simp [execOp,h1,resolve,invoke,builtin,Builtin.len_,hval,run_underlying hun,goInt]

theorem minmax_eq {f:Int→Int→Int} {x y v:Value} (h:minmax f x y = some v):∃ m n,x = .int .i64 m∧y = .int .i64 n∧v = .int .i64 (f m n) :=by
 unfold minmax at h
 split at h
 ·simp at h
  exact ⟨_,_,rfl,rfl,h.symm⟩
 ·cases h

theorem maxmin_runs (hT:TOk P E) (h:Inv w Z (Act.tm a) s fp) {call:Sem1} {x y:Operand} {t u:TypeId} {args:Array Operand} {tys:Array TypeId} (hargs:args.toList = [x,y]) (htys:tys.toList = [t,u]) {b:Builtin} (hb:b = .max∨b = .min) {s':St} {r:S}
  (he:ev1 E call ty s (.call { callee :=.builtin b,args :=args,argTypes :=tys }) = some (s',r)) :
  Runs P a (.call { callee :=.builtin b,args :=args,argTypes :=tys }) ty w (Brings w Z (Act.tm a) fp s' r) :=by
 have he':builtinS E s b args.toList tys.toList = some (s',r) :=he
 rw [hargs,htys] at he'
 have hargs':args = #[x,y] :=by cases args; simp at hargs; rw [hargs]
 have htys':tys = #[t,u] :=by cases tys; simp at htys; rw [htys]
 subst hargs' htys'
 rcases hb with rfl | rfl
 ·obtain ⟨vx,hvx,he⟩ :=bE.1 (show bnd (rd E 0 s x) _ = some (s',r) from he')
  obtain ⟨m,hm,he⟩ :=bE.1 he
  obtain ⟨vy,hvy,he⟩ :=bE.1 he
  obtain ⟨n,hn,he⟩ :=bE.1 he
  obtain ⟨v,hv,hfin⟩ :=bE.1 he
  simp at hfin
  obtain ⟨rfl,rfl⟩ :=hfin
  have e1 :=(prim_val (rd_rep hT h hvx).1 hm).1
  have e2 :=(prim_val (rd_rep hT h hvy).1 hn).1
  obtain ⟨p,q,hp,hq,hvv⟩ :=minmax_eq hv
  rw [hp] at e1
  rw [hq] at e2
  rw [hvv]
  refine runs_still h (rep_one rfl) trivial (fun o h1 h2 =>?_)
  have:(if q > p then q else p) = max p q :=by omega
  simp [execOp,h1,resolve,invoke,builtin,Builtin.max_,Builtin.max2,e1,e2,this]
 ·obtain ⟨vx,hvx,he⟩ :=bE.1 (show bnd (rd E 0 s x) _ = some (s',r) from he')
  obtain ⟨m,hm,he⟩ :=bE.1 he
  obtain ⟨vy,hvy,he⟩ :=bE.1 he
  obtain ⟨n,hn,he⟩ :=bE.1 he
  obtain ⟨v,hv,hfin⟩ :=bE.1 he
  simp at hfin
  obtain ⟨rfl,rfl⟩ :=hfin
  have e1 :=(prim_val (rd_rep hT h hvx).1 hm).1
  have e2 :=(prim_val (rd_rep hT h hvy).1 hn).1
  obtain ⟨p,q,hp,hq,hvv⟩ :=minmax_eq hv
  rw [hp] at e1
  rw [hq] at e2
  rw [hvv]
  refine runs_still h (rep_one rfl) trivial (fun o h1 h2 =>?_)
  have:(if q < p then q else p) = min p q :=by omega
  simp [execOp,h1,resolve,invoke,builtin,Builtin.min_,Builtin.min2,e1,e2,this]

/-! ### Slicing -/

theorem boundOf_eq (hT:TOk P E) (h:Inv w Z (Act.tm a) s fp) {d n:Nat} {o:Option Operand} (hb:boundOf E s d o = some n) :
  (o = none∧n = d)∨(∃ x k m,o = some x∧a.eval x = .int k m∧0≤m∧n = m.toNat) :=by
 cases o with
 | none =>simp [boundOf] at hb; exact .inl ⟨rfl,hb.symm⟩
 | some x =>
  obtain ⟨v,hv,hb⟩ :=bE.1 (show bnd (rd E 0 s x) _ = some n from hb)
  obtain ⟨u,hu,hb⟩ :=bE.1 hb
  obtain ⟨k,m,hum,hm0,him⟩ :=asIdx_eq hb
  have e :=(prim_val (rd_rep hT h hv).1 hu).1
  rw [hum] at e
  exact .inr ⟨x,k,m,rfl,e,hm0,him⟩

theorem run_sliceBound_ok {k:IntKind} {m:Int} {y:Nat} {c:BoundsCode} (h0:0≤m) (h1:m.toNat≤y):(Instr.sliceBound (.int k m) y c).run P w = .ok m.toNat w :=by
 have:m≤(y:Int) :=by omega
 simp [Instr.sliceBound,asIntOf,h0,this]

theorem run_sliceBounds_ok {sl:Bool} {len cap:Nat} {lo hi:Option Operand} {l h:Nat}
  (hl:(lo = none∧l = 0)∨(∃ x k m,lo = some x∧a.eval x = .int k m∧0≤m∧l = m.toNat))
  (hh:(hi = none∧h = len)∨(∃ x k m,hi = some x∧a.eval x = .int k m∧0≤m∧h = m.toNat)) (h1:l≤h) (h2:h≤cap) :
  (Instr.sliceBounds sl len cap (lo.map a.eval) (hi.map a.eval) none).run P w = .ok (l,h,cap) w :=by
 rcases hl with ⟨rfl,rfl⟩ | ⟨x,k,m,rfl,ex,hm,rfl⟩ <;> rcases hh with ⟨rfl,rfl⟩ | ⟨y,k',m',rfl,ey,hm',rfl⟩
 ·simp [Instr.sliceBounds]
 ·simp [Instr.sliceBounds,ey,run_sliceBound_ok hm' h2]
 ·simp [Instr.sliceBounds,ex,run_sliceBound_ok hm h1]
 ·simp [Instr.sliceBounds,ex,ey,run_sliceBound_ok hm' h2,run_sliceBound_ok hm h1]

theorem elemSz_eq {i:TI} {sz:Nat} (h:elemSz E i = some sz):(strT i = true∧sz = 0)∨(strT i = false∧∃ e j,i.k.elem = some e∧E.T e = some j∧sz = j.size) :=by
 rcases tE.1 h with ⟨h1,h2⟩ | ⟨h1,h2⟩
 ·simp at h2; exact .inl ⟨h1,h2.symm⟩
 ·obtain ⟨e,he,h2⟩ :=bE.1 h2
  obtain ⟨j,hj,h2⟩ :=bE.1 h2
  simp at h2
  exact .inr ⟨h1,e,j,he,hj,h2.symm⟩

theorem run_slice_slices (hT:TOk P E) {t:TypeId} {i j:TI} {e:TypeId} (hi:E.T t = some i) (hel:i.k.elem = some e) (hj:E.T e = some j) {ad:Option Addr} {len cap l h:Nat} {lo hi':Option Operand} {x:Operand}
  (hl:(lo = none∧l = 0)∨(∃ x k m,lo = some x∧a.eval x = .int k m∧0≤m∧l = m.toNat))
  (hh:(hi' = none∧h = len)∨(∃ x k m,hi' = some x∧a.eval x = .int k m∧0≤m∧h = m.toNat)) (h1:l≤h) (h2:h≤cap) (hx:a.eval x = .slice ad len cap) :
  (Instr.sliceAt t (a.eval x) (lo.map a.eval) (hi'.map a.eval) none).run P w = .ok (cutV l (h - l) j.size (.slice ad len cap)) w :=by
 have hun :=slc_under hT hi hel
 have hb :=run_sliceBounds_ok (P :=P) (w :=w) (sl :=true) hl hh h1 h2
 have hs :=sizeOf_of (w :=w) (hT _ _ hj)
 simp [Instr.sliceAt,Instr.slice,run_underlying hun,hx,hb,hs,cutV]

theorem slice_runs (hT:TOk P E) (h:Inv w Z (Act.tm a) s fp) {call:Sem1} {t:TypeId} {x:Operand} {lo hi:Option Operand} {s':St} {r:S} (he:ev1 E call ty s (.slice t x lo hi none) = some (s',r)) :
  Runs P a (.slice t x lo hi none) ty w (Brings w Z (Act.tm a) fp s' r) :=by
 obtain ⟨i,hi',he⟩ :=bE.1 (show bnd (E.T t) _ = some (s',r) from he)
 obtain ⟨sz,hsz,he⟩ :=bE.1 he
 obtain ⟨v,hv,he⟩ :=bE.1 he
 obtain ⟨q,hq,he⟩ :=bE.1 he
 simp at he
 obtain ⟨rfl,rfl⟩ :=he
 obtain ⟨rv,hlt⟩ :=rd_rep hT h hv
 have run:∀ z,(Instr.sliceAt t (a.eval x) (lo.map a.eval) (hi.map a.eval) none).run P w = .ok z w→∀ o:Oper,o.op = .slice t x lo hi none→o.type = ty→(execOp a.eval o).run P w = .ok (.value z) w :=by
  intro z hz o h1 h2
  simp only [execOp,h1,Sem.run_bind,Option.map_none,hz,Result.andThen_ok,Sem.run_pure]
 cases v with
 | val g b cs =>
  obtain ⟨c,hc,hq⟩ :=bE.1 (show bnd (one1 b cs) _ = some q from hq)
  obtain ⟨n,hn,hq⟩ :=bE.1 hq
  obtain ⟨l,hl,hq⟩ :=bE.1 hq
  obtain ⟨hh,hhh,hq⟩ :=bE.1 hq
  rcases tE.1 hq with ⟨hlh,hq⟩ | ⟨_,hq⟩
  case inr =>cases hq
  rcases tE.1 hq with ⟨hhn,hfin⟩ | ⟨_,hfin⟩
  case inr =>cases hfin
  simp at hlh hhn
  obtain ⟨hb,hcs⟩ :=one1_eq hc
  subst hb hcs
  obtain ⟨vs,hp,hvl,hr⟩ :=rv
  obtain ⟨_,hrc⟩ :=packs_one hp hvl hr
  have bl :=boundOf_eq hT h hl
  have bh :=boundOf_eq hT h hhh
  rcases lenOf_eq hn with ⟨b,rfl,rfl⟩ | ⟨f,sz',rows,rfl,rfl⟩
  ·rcases tE.1 hfin with ⟨hst,hfin⟩ | ⟨_,hfin⟩
   case inr =>cases hfin
   simp at hfin
   subst hfin
   have ev:a.eval x = .string b :=hrc.1
   obtain ⟨zs,hzs⟩ :=strT_eq hst
   have hun :=(hT _ _ hi').str zs hzs
   have hb :=run_sliceBounds_ok (P :=P) (w :=w) (sl :=false) bl bh hlh hhn
   refine runs_still h (rep_one rfl) trivial (run _ ?_)
   simp [Instr.sliceAt,Instr.slice,run_underlying hun,ev,hb]
  ·rcases tE.1 hfin with ⟨_,hfin⟩ | ⟨hstr,hfin⟩
   case inl =>cases hfin
   rcases tE.1 hfin with ⟨hshr,hfin⟩ | ⟨_,hfin⟩
   case inr =>cases hfin
   rcases tE.1 hfin with ⟨hszz,hfin⟩ | ⟨_,hfin⟩
   case inr =>cases hfin
   simp at hfin hszz
   subst hfin
   have hf :=isShr_eq hshr
   subst hf hszz
   obtain ⟨ad,cap,hval,hle,_⟩ :=slice_val hrc
   rcases elemSz_eq hsz with ⟨h1,h0⟩ | ⟨h1,e,j,hel,hj,hsj⟩
   ·rw [h1] at hstr; cases hstr
   ·obtain ⟨F',hcut,hsub⟩ :=hrc.cut (lo :=l) (k :=hh - l) (by omega)
    have hF':F' = [] :=by
     have :=hsub.length_le
     simp at this
     exact this
    subst hF'
    refine runs_still h (x :=.val 0 false [.sl .shr sz' ((rows.drop l).take (hh - l))]) ⟨[_],.inr ⟨rfl,rfl,hcut.oneCell⟩,rfl,_,[],[],rfl,hcut,rfl,rfl⟩ trivial (run _ ?_)
    have :=run_slice_slices (P :=P) (w :=w) hT hi' hel hj bl bh hlh (by omega) hval
    rw [hsj,hval] at *
    exact this
 | lnk p k off n b el win =>
  obtain ⟨z,hz,hq⟩ :=bE.1 (show bnd (cells s (.lnk p k off n b el win)) _ = some q from hq)
  obtain ⟨c,hc,hq⟩ :=bE.1 hq
  obtain ⟨y,hy,hq⟩ :=bE.1 hq
  obtain ⟨l,hl,hq⟩ :=bE.1 hq
  obtain ⟨hh,hhh,hq⟩ :=bE.1 hq
  rcases tE.1 hq with ⟨hlh,hq⟩ | ⟨_,hq⟩
  case inr =>cases hq
  rcases tE.1 hq with ⟨hhn,hq⟩ | ⟨_,hq⟩
  case inr =>cases hq
  rcases tE.1 hq with ⟨hszz,hq⟩ | ⟨_,hq⟩
  case inr =>cases hq
  rcases tE.1 hq with ⟨_,hq⟩ | ⟨hstr,hq⟩
  case inl =>cases hq
  rcases tE.1 hq with ⟨hwo,hfin⟩ | ⟨_,hfin⟩
  case inr =>cases hfin
  simp at hfin hszz hlh hhn
  subst hfin
  obtain ⟨za,zc⟩ :=z
  obtain ⟨hb,hcs⟩ :=one1_eq hc
  simp only at hb hcs
  subst hb hcs
  have hcz :=asSl_eq hy
  subst hcz
  have bl :=boundOf_eq hT h hl
  have bh :=boundOf_eq hT h hhh
  -- the value
  obtain ⟨vs,F,hp,hvl,hr,_,_⟩ :=cells_rep h rv hz
  obtain ⟨_,hrc⟩ :=packs_one hp hvl hr
  obtain ⟨ad,cap,hval,hle,_⟩ :=slice_val hrc
  rcases elemSz_eq hsz with ⟨h1,h0⟩ | ⟨h1,e,j,hel,hj,hsj⟩
  ·rw [h1] at hstr; cases hstr
  have hrun :=run_slice_slices (P :=P) (w :=w) hT hi' hel hj bl bh hlh (by omega) hval
  rw [← hval] at hrun
  -- the place
  obtain ⟨cs,hroot,hz⟩ :=bE.1 (show bnd _ _ = some (false,[C.sl y.1 y.2.1 y.2.2]) from hz)
  obtain ⟨xs,hg,hz⟩ :=bE.1 hz
  obtain ⟨ys,hw,hz⟩ :=bE.1 hz
  simp at hz
  obtain ⟨hbf,hys⟩ :=hz
  subst hbf hys
  obtain ⟨_,ws,hwl,hwg,hwm⟩ :=rv.2 cs hroot
  refine runs_still h (x :=.lnk p k off n false el (some (winLo win + l,hh - l))) (v :=cutV l (hh - l) j.size (a.eval x)) ⟨rfl,fun cs' hroot' =>?_⟩ hlt (run _ hrun)
  have hcs':cs' = cs :=by
   have h1 :=(rootL_root hroot').1
   rw [(rootL_root hroot).1] at h1
   simpa using h1.symm
  subst hcs'
  refine ⟨⟨xs,hg⟩,ws,hwl,hwg,rfl,?_⟩
  cases win with
  | none =>
   simp [winC] at hw
   subst hw
   rcases hwm with ⟨e,_⟩ | ⟨_,e,_⟩
   ·cases e
   have hn1:n = 1 :=by rw [e] at hwl; simpa using hwl.symm
   subst hn1
   exact ⟨_,_,_,_,e,hg,by simp [winLo]; omega,by simp [winLo,hszz,hsj]⟩
  | some lk =>
   obtain ⟨lo',kk⟩ :=lk
   obtain ⟨_,uu,f,sz0,rows,hws,hgg,hlk,hvc⟩ :=hwm
   have hn1:n = 1 :=by rw [hws] at hwl; simpa using hwl.symm
   subst hn1
   rw [hg] at hgg
   simp at hgg
   subst hgg
   simp only [winC,asSl,bnd] at hw
   simp only [hlk,decide_true,tst,Option.some.injEq,List.cons.injEq,C.sl.injEq,and_true] at hw
   obtain ⟨hf1,hs1,hr1⟩ :=hw
   have hlen:y.2.2.length = kk :=by rw [← hr1]; simp; omega
   simp [winOk] at hwo
   refine ⟨uu,f,sz0,rows,hws,hg,by simp [winLo]; omega,?_⟩
   rw [hvc] at hval ⊢
   have hj0:j.size = sz0 :=by rw [← hsj,← hszz,hs1]
   cases uu with
   | slice ad2 len2 cap2 =>
    simp only [cutV,Value.slice.injEq] at hval
    obtain ⟨h1,h2,h3⟩ :=hval
    have n1:cap2 ≠ lo' :=by omega
    have n2:cap2 - lo' ≠ l :=by omega
    have n3:cap2 ≠ lo' + l :=by omega
    rw [show winLo (some (lo',kk)) = lo' from rfl]
    simp only [cutV,if_neg n1,if_neg n2,if_neg n3,hj0,Option.map_map]
    congr 1
    ·cases ad2 with
     | none =>rfl
     | some q =>
      simp only [Option.map_some,Function.comp_apply,Addr.add_add,Nat.add_mul]
    ·omega
   | _ =>simp [cutV] at hval
 | _ =>simp [sliceS] at hq
end
end Go.Sx

/- Operations that take,and operations that make new memory. -/
namespace Go.Sx
section
variable {P:Program} {E:Env} {w:World} {Z:CA→Prop} {a:Act} {s:St} {fp:Tmp→List CA} {ty:TypeId}

theorem Done.taken {tm:Tmp→Value} {s':St} {fp':Tmp→List CA} {b:Bool} {ys:List C} {v:Value} {vs:List Value} {F:List CA} (T:Taken w Z tm s s' fp fp' b ys v vs F) :
  Done w Z tm fp w Z s' fp' v F (.val 0 b ys) where
 goes :=Goes.refl _ _
 zz :=fun _ h =>h
 zfrom :=fun _ h =>.inl h
 inv :=T.inv
 rep :=⟨vs,T.packs,T.len,T.rl⟩
 lt :=trivial
 nd :=T.nd
 mine :=T.mine
 apart :=T.apart
 from_ :=fun c hc =>.inl (hc.elim (T.from_ c) (fun ⟨t,h⟩ =>⟨t,T.sub t c h⟩))

theorem assign_runs (hT:TOk P E) (h:Inv w Z (Act.tm a) s fp) {call:Sem1} {x:Operand} {s':St} {r:S} (he:ev1 E call ty s (.assign x) = some (s',r)) :
  Runs P a (.assign x) ty w (Brings w Z (Act.tm a) fp s' r) :=by
 obtain ⟨u,hu,he⟩ :=bE.1 (show bnd (rd E ty s x) _ = some (s',r) from he)
 obtain ⟨ru,hl⟩ :=rd_rep hT h hu
 have run:∀ o:Oper,o.op = .assign x→o.type = ty→(execOp a.eval o).run P w = .ok (.value (a.eval x)) w :=fun o h1 h2 =>by unfold execOp; rw [h1]; rfl
 cases u with
 | lnk r' k off n b el win =>
  obtain ⟨q,hq,he⟩ :=bE.1 (show bnd (take s (.lnk r' k off n b el win)) _ = some (s',r) from he)
  simp at he
  obtain ⟨rfl,rfl⟩ :=he
  obtain ⟨s1,b1,ys⟩ :=q
  obtain ⟨fp',vs,F,T⟩ :=take_rep h ru hq
  exact ⟨a.eval x,w,⟨Z,fp',F,Done.taken T⟩,fun o h1 h2 =>.inl (run o h1 h2)⟩
 | val g b cs =>
  simp [assignS] at he
  obtain ⟨rfl,rfl⟩ :=he
  exact runs_still h ru hl run
 | ptr q g off el =>
  simp [assignS] at he
  obtain ⟨rfl,rfl⟩ :=he
  exact runs_still h ru hl run
 | rp cs =>
  simp [assignS] at he
  obtain ⟨rfl,rfl⟩ :=he
  exact runs_still h ru hl run
 | fn f caps =>
  simp [assignS] at he
  obtain ⟨rfl,rfl⟩ :=he
  exact runs_still h ru hl run
 | _ =>simp [assignS] at he

/-! ### Extract -/

theorem TR.get:∀ {vs:List (Bool × List C)} {us:List Value} {F:List CA},TR w Z vs us F→∀ {i:Nat} {b:Bool} {cs:List C},atL vs i = some (b,cs) →
  ∃ u ws A Fx B,us[i]? = some u∧Packs b ws u∧ws.length = cs.length∧RL w Z cs (fun j =>ws[j]?) Fx∧F = A ++ (Fx ++ B)∧TR w Z (setL vs i (b,leftRow cs)) us (A ++ B)
 | [],_,_,_,i,b,cs,hi =>by simp [atL] at hi
 | z :: r,[],_,h,_,_,_,_ =>h.elim
 | z :: r,u :: us,F,h,i,b,cs,hi =>by
  obtain ⟨ws,F1,F2,hp,hl,hr,ht,hF⟩ :=h
  cases i with
  | zero =>
   simp [atL] at hi
   subst hi
   refine ⟨u,ws,[],F1,F2,rfl,hp,hl,hr,by simpa using hF,?_⟩
   exact ⟨ws,[],F2,hp,by rw [left_length]; exact hl,hr.left,ht,rfl⟩
  | succ i =>
   simp [atL] at hi
   obtain ⟨u',ws',A,Fx,B,h1,h2,h3,h4,h5,h6⟩ :=TR.get ht hi
   refine ⟨u',ws',F1 ++ A,Fx,B,by simpa using h1,h2,h3,h4,by rw [hF,h5,List.append_assoc],?_⟩
   exact ⟨ws,F1,A ++ B,hp,hl,hr,h6,by rw [List.append_assoc]⟩

theorem extract_runs (h:Inv w Z (Act.tm a) s fp) {call:Sem1} {t:Tmp} {i:Nat} {s':St} {r:S} (he:ev1 E call ty s (.extract (.tmp t) i) = some (s',r)) :
  Runs P a (.extract (.tmp t) i) ty w (Brings w Z (Act.tm a) fp s' r) :=by
 obtain ⟨c,l⟩ :=s
 have he:extractS t i ⟨c,l⟩ (look l t) = some (s',r) :=he
 have hr :=h.rep t
 simp only at hr
 cases hlk:look l t with
 | tup vs =>
  rw [hlk] at he hr
  obtain ⟨v,hv,he⟩ :=bE.1 (show bnd (atL vs i) _ = some (s',r) from he)
  obtain ⟨us,hus,htr⟩ :=hr
  obtain ⟨b,cs⟩ :=v
  obtain ⟨u,ws,A,Fx,B,h1,h2,h3,h4,h5,h6⟩ :=TR.get htr hv
  have hev:a.eval (.tmp t) = .tuple us.toArray :=hus
  have run:∀ o:Oper,o.op = .extract (.tmp t) i→o.type = ty→(execOp a.eval o).run P w = .ok (.value u) w :=by
   intro o h1' h2'
   simp [execOp,h1',hev,Instr.extract,h1]
  rcases tE.1 he with ⟨hfr,he⟩ | ⟨hfr,he⟩
  ·simp at he
   obtain ⟨rfl,rfl⟩ :=he
   have hFx :=h4.free hfr
   subst hFx
   exact runs_still h (x :=.val 0 b cs) ⟨ws,h2,h3,h4⟩ trivial run
  ·simp at he
   obtain ⟨rfl,rfl⟩ :=he
   have hnd :=h.nd t
   rw [h5] at hnd
   have hsub:∀ c,c ∈ A ++ B→c ∈ fp t :=fun c hc =>by
    rw [h5]
    rcases List.mem_append.1 hc with hc | hc
    ·exact List.mem_append_left _ hc
    ·exact List.mem_append_right _ (List.mem_append_right _ hc)
   have hndm:(A ++ Fx ++ B).Nodup :=by rw [List.append_assoc]; exact hnd
   have hFxs:∀ c ∈ Fx,c ∈ fp t :=fun c hc =>by rw [h5]; exact List.mem_append_right _ (List.mem_append_left _ hc)
   have hinv :=h.put (d :=t) (x :=.tup (setL vs i (b,leftRow cs))) (F :=A ++ B) (tm' :=Act.tm a) rfl (fun _ _ =>rfl) ⟨us,hus,h6⟩ trivial
    (by have :=nodup_drop_mid hndm; simpa using this) (fun c hc =>h.mine t c (hsub c hc)) (fun t' ht' c hc =>h.disj t t' (fun e =>ht' e.symm) c (hsub c hc))
   refine ⟨u,w,⟨Z,fun t_1 =>if t_1 = t then A ++ B else fp t_1,Fx,?_⟩,fun o h1 h2 =>.inl (run o h1 h2)⟩
   refine { goes :=Goes.refl _ _,zz :=fun _ h =>h,zfrom :=fun _ h =>.inl h,inv :=hinv,rep :=⟨ws,h2,h3,h4⟩,lt :=trivial,nd :=?_,mine :=fun c hc =>h.mine t c (hFxs c hc),apart :=?_,from_ :=?_ }
   ·rw [List.append_assoc,List.nodup_append] at hndm
    have :=hndm.2.1
    rw [List.nodup_append] at this
    exact this.1
   ·intro t' c hc
    by_cases htt:t' = t
    ·simp only [if_pos htt]
     have :=nodup_mid hndm hc
     simp only [List.mem_append]
     exact fun hm =>hm.elim this.1 this.2
    ·simp only [if_neg htt]
     exact h.disj t t' (fun e =>htt e.symm) c (hFxs c hc)
   ·intro c hc
    refine .inl ?_
    rcases hc with hc | ⟨t',hc⟩
    ·exact ⟨t,hFxs c hc⟩
    ·by_cases htt:t' = t
     ·simp only [if_pos htt] at hc
      exact ⟨t,hsub c hc⟩
     ·simp only [if_neg htt] at hc
      exact ⟨t',hc⟩
 | _ =>rw [hlk] at he; simp [extractS] at he

/-! ### New memory -/

structure Grown (w w':World) (vs:List Value):Prop where
 goes:Goes w w' (fun _ =>False)
 cell:∀ o,cell w' (w.heap.size,o) = vs[o]?
 fro:∀ o,o < vs.length→fro w' (w.heap.size,o) = false

theorem grown_alloc (w:World) (vs:List Value) (e:TypeId):Grown w (w.alloc (.cells vs.toArray e)) vs where
 goes :=goes_alloc w _ _
 cell o :=by rw [cell_alloc_new]; simp
 fro o _ :=fro_alloc_new w _ _ _

theorem grown_drew (w:World) (vs:List Value) (e:TypeId):Grown w (w.drew.alloc (.cells vs.toArray e)) vs where
 goes :=(goes_drew w _).trans (goes_alloc w.drew _ (fun _ =>False)) (fun _ h =>h.elim)
 cell o :=by
  have :=cell_alloc_new w.drew vs.toArray e o
  rw [show w.drew.heap.size = w.heap.size from rfl] at this
  rw [this]
  simp
 fro o _ :=fro_alloc_new w.drew _ _ _

theorem Mine.goes {w w':World} {Z:CA→Prop} {F:CA→Prop} {c:CA} (h:Mine w Z c) (hg:Goes w w' F):Mine w' Z c :=
 ⟨hg.some c h.1,by rw [hg.fro c (cell_lt h.1)]; exact h.2.1,h.2.2⟩

theorem Inv.grown {w':World} {vs:List Value} {tm:Tmp→Value} (h:Inv w Z tm s fp) (g:Grown w w' vs):Inv w' Z tm s fp :=
 h.world (fun _ h =>h) (fun t =>g.goes.same (fun c hc =>⟨hc.elim (fun hc =>(h.mine t c hc).1) (h.zok c),fun h =>h⟩)) (fun t c hc =>(h.mine t c hc).goes g.goes) (fun c hc =>g.goes.some c (h.zok c hc))

theorem Grown.new_mine {w':World} {vs:List Value} {tm:Tmp→Value} (h:Inv w Z tm s fp) (g:Grown w w' vs):∀ c ∈ span (w.heap.size,0) vs.length,Mine w' Z c :=by
 rintro ⟨c1,c2⟩ hc
 rw [mem_span] at hc
 obtain ⟨h1,_,h2⟩ :=hc
 simp only [Nat.zero_add] at h1 h2
 subst h1
 refine ⟨?_,g.fro c2 h2,fun hz =>?_⟩
 ·exact gcell_some (by rw [g.cell,List.getElem?_eq_getElem h2]; rfl)
 ·exact Nat.lt_irrefl _ (cell_lt (h.zok _ hz))

theorem Done.grown {w':World} {vs:List Value} {tm:Tmp→Value} {s':St} {fp':Tmp→List CA} {F:List CA} {v:Value} {x:S} (g:Grown w w' vs) (hinv:Inv w Z tm s' fp') (hnd:F.Nodup)
  (hmine:∀ c ∈ F,Mine w Z c) (hapart:∀ t,∀ c ∈ F,c ∉ fp' t) (hfrom:∀ c,(c ∈ F∨∃ t,c ∈ fp' t)→∃ t,c ∈ fp t)
  (hx:Inv w' Z tm s' fp'→Rep w' Z s'.sl tm v (span (w.heap.size,0) vs.length ++ F) x) (hl:x.linksLt s'.cnt) :
  Done w Z tm fp w' Z s' fp' v (span (w.heap.size,0) vs.length ++ F) x where
 goes :=g.goes.mono (fun _ h =>h.elim)
 zz :=fun _ h =>h
 zfrom :=fun _ h =>.inl h
 inv :=hinv.grown g
 rep :=hx (hinv.grown g)
 lt :=hl
 nd :=by
  rw [List.nodup_append]
  refine ⟨span_nodup _ _,hnd,fun c hc d hd e =>?_⟩
  subst e
  have :=cell_lt (hmine c hd).1
  rw [mem_span] at hc
  simp only at hc
  omega
 mine :=fun c hc =>(List.mem_append.1 hc).elim (Grown.new_mine hinv g c) (fun hc =>(hmine c hc).goes g.goes)
 apart :=fun t c hc hm =>by
  rcases List.mem_append.1 hc with hc | hc
  ·have :=cell_lt (hinv.mine t c hm).1
   rw [mem_span] at hc
   simp only at hc
   omega
  ·exact hapart t c hc hm
 from_ :=fun c hc =>by
  rcases hc with hc | hc
  ·rcases List.mem_append.1 hc with hc | hc
   ·right
    rw [mem_span] at hc
    simp only at hc
    omega
   ·exact .inl (hfrom c (.inl hc))
  ·exact .inl (hfrom c (.inr hc))

theorem zeroL_length:∀ {cs:List C} {vs:List Value},zeroL cs vs = true→vs.length = cs.length
 | [],[],_ =>rfl
 | c :: cs,v :: vs,h =>by
  simp [zeroL] at h
  simp [zeroL_length h.2]
 | [],_ :: _,h =>by simp [zeroL] at h
 | _ :: _,[],h =>by simp [zeroL] at h

theorem zero_of (hT:TOk P E) {t:TypeId} {i:TI} (hi:E.T t = some i):∃ inf z,P.info? t = some inf∧inf.size = i.size∧inf.bytes = i.bytes∧inf.zero = some z∧z.cells.size = i.size∧i.zero.length = i.size ∧
  ∀ (w:World) (Z:CA→Prop),RL w Z i.zero (fun j =>z.cells.toList[j]?) [] :=by
 obtain ⟨inf,z,h1,h2,h3,h4,h5,h6,_,_⟩ :=(hT _ _ hi).info
 refine ⟨inf,z,h1,h2,h3,h4,h5,?_,fun w Z =>(zeroL_rep h6).2⟩
 have :=zeroL_length h6
 simpa [h5] using this.symm

theorem alloc_runs (hT:TOk P E) (h:Inv w Z (Act.tm a) s fp) {call:Sem1} {t:TypeId} {s':St} {r:S} (he:ev1 E call ty s (.alloc t) = some (s',r)) :
  Runs P a (.alloc t) ty w (Brings w Z (Act.tm a) fp s' r) :=by
 obtain ⟨i,hi,he⟩ :=bE.1 (show bnd (E.T t) _ = some (s',r) from he)
 simp at he
 obtain ⟨rfl,rfl⟩ :=he
 obtain ⟨inf,z,h1,h2,h3,h4,h5,h6,h7⟩ :=zero_of hT hi
 have g :=grown_alloc w z.cells.toList t
 refine ⟨.pointer (some ⟨w.heap.size,0,none⟩),_,⟨Z,fp,_,Done.grown (F :=[]) g h List.nodup_nil (by simp) (by simp) (fun c hc =>by simpa using hc) (fun hinv =>?_) trivial⟩,fun o e1 e2 =>.inl ?_⟩
 ·refine ⟨w.heap.size,0,[],rfl,?_,by rw [h6]; simp [h5]⟩
  refine RL.same (fun _ h =>h) i.zero (h7 w Z) (g.goes.same (fun c hc =>⟨hc.elim (fun hc =>by cases hc) (h.zok c),fun h =>h⟩)) (fun j _ =>?_)
  rw [Nat.zero_add,g.cell]
 ·simp [execOp,e1,Instr.alloc,zeroValue,typeInfo,h1,h4,newVar,newRow]

def MadeOf (w:World) (Z:CA→Prop) (u v:Value):Prop :=∃ b o,v = .pointer (some ⟨b,o,none⟩)∧∀ j y,u.cells.toList[j]? = some y→cell w (b,o + j) = some y∧Z (b,o + j)

theorem box_runs' (hT:TOk P E) (h:Inv w Z (Act.tm a) s fp) {call:Sem1} {t:TypeId} {x:Operand} {s':St} {r:S} (he:ev1 E call ty s (.box t x) = some (s',r)) :
  Runs P a (.box t x) ty w (fun v w' =>∃ Z' fp' F,Done w Z (Act.tm a) fp w' Z' s' fp' v F r∧(E.fzn x = true→MadeOf w' Z' (a.eval x) v)) :=by
 obtain ⟨u,hu,he⟩ :=bE.1 (show bnd (rd E 0 s x) _ = some (s',r) from he)
 obtain ⟨q,hq,he⟩ :=bE.1 he
 simp at he
 obtain ⟨rfl,rfl⟩ :=he
 obtain ⟨s1,b1,ys⟩ :=q
 obtain ⟨ru,hl⟩ :=rd_rep hT h hu
 obtain ⟨fp',vs,F,T⟩ :=take_rep h ru hq
 have hcells :=T.packs.cells
 have g :=grown_alloc w vs t
 have run:∀ o:Oper,o.op = .box t x→o.type = ty→(execOp a.eval o).run P w = .ok (.value (.pointer (some ⟨w.heap.size,0,none⟩))) (w.alloc (.cells vs.toArray t)) :=fun o e1 e2 =>by
  have:(a.eval x).cells = vs.toArray :=by rw [← hcells]
  simp [execOp,e1,Instr.box,newVar,newRow,this]
 cases hf:E.fzn x with
 | false =>
  refine ⟨.pointer (some ⟨w.heap.size,0,none⟩),_,⟨Z,fp',_,Done.grown (F :=F) g T.inv T.nd T.mine T.apart (fun c hc =>hc.elim (T.from_ c) (fun ⟨t,h⟩ =>⟨t,T.sub t c h⟩)) (fun hinv =>?_) trivial,fun h =>by cases h⟩,fun o e1 e2 =>.inl (run o e1 e2)⟩
  refine ⟨w.heap.size,0,F,rfl,?_,by rw [T.len]⟩
  refine RL.same (fun _ h =>h) ys T.rl (g.goes.same (fun c hc =>⟨hc.elim (fun hc =>(T.mine c hc).1) (T.inv.zok c),fun h =>h⟩)) (fun j _ =>?_)
  rw [Nat.zero_add,g.cell]
 | true =>
  have D0:Done w Z (Act.tm a) fp (w.alloc (.cells vs.toArray t)) Z s1 fp' (.pointer (some ⟨w.heap.size,0,none⟩)) (span (w.heap.size,0) vs.length ++ F) (.box 0 0 ys) :=by
   refine Done.grown (F :=F) g T.inv T.nd T.mine T.apart (fun c hc =>hc.elim (T.from_ c) (fun ⟨t,h⟩ =>⟨t,T.sub t c h⟩)) (fun hinv =>?_) trivial
   refine ⟨w.heap.size,0,F,rfl,?_,by rw [T.len]⟩
   refine RL.same (fun _ h =>h) ys T.rl (g.goes.same (fun c hc =>⟨hc.elim (fun hc =>(T.mine c hc).1) (T.inv.zok c),fun h =>h⟩)) (fun j _ =>?_)
   rw [Nat.zero_add,g.cell]
  obtain ⟨b0,o0,G0,e0,rl0,eF⟩ :=D0.rep
  simp at e0
  obtain ⟨rfl,rfl⟩ :=e0
  have hnd :=D0.nd
  rw [List.nodup_append] at hnd
  have hG0:G0 = F :=by
   rw [T.len] at eF
   exact (List.append_cancel_left eF).symm
  subst hG0
  have hspanOk:∀ c ∈ span (w.heap.size,0) vs.length,(gcell (w.alloc (.cells vs.toArray t)) c).isSome = true :=fun c hc =>(D0.mine c (List.mem_append_left _ hc)).1
  refine ⟨.pointer (some ⟨w.heap.size,0,none⟩),_,⟨fun c =>Z c∨c ∈ span (w.heap.size,0) vs.length,fp',G0,⟨D0.goes,fun c hc =>.inl hc,fun c hc =>?_,?_,?_,trivial,hnd.2.1,fun c hc =>?_,fun t c hc =>D0.apart t c (List.mem_append_right _ hc),fun c hc =>D0.from_ c (hc.imp (List.mem_append_right _) id)⟩,fun _ =>?_⟩,fun o e1 e2 =>.inl (run o e1 e2)⟩
  ·rcases hc with hc | hc
   ·exact .inl hc
   ·rw [mem_span] at hc
    exact .inr (.inr (by have :=hc.1; simp only at this; omega))
  ·refine D0.inv.world (fun c hc =>.inl hc) (fun t c _ =>rfl) (fun u c hc =>?_) (fun c hc =>hc.elim (D0.inv.zok c) (hspanOk c))
   obtain ⟨m1,m2,m3⟩ :=D0.inv.mine u c hc
   exact ⟨m1,m2,fun hz =>hz.elim m3 (fun hs =>D0.apart u c (List.mem_append_left _ hs) hc)⟩
  ·exact ⟨w.heap.size,0,rfl,RL.same (fun c hc =>.inl hc) ys rl0 (fun _ _ =>rfl) (fun _ _ =>rfl),fun c hc =>.inr (by rw [T.len]; exact hc)⟩
  ·obtain ⟨m1,m2,m3⟩ :=D0.mine c (List.mem_append_right _ hc)
   exact ⟨m1,m2,fun hz =>hz.elim m3 (fun hs =>hnd.2.2 c hs c hc rfl)⟩
  ·refine ⟨w.heap.size,0,rfl,fun j y hy =>?_⟩
   rw [hcells] at hy
   refine ⟨by rw [Nat.zero_add,g.cell]; exact hy,.inr (mem_span.2 ⟨rfl,by simp,?_⟩)⟩
   have :=(List.getElem?_eq_some_iff.1 hy).1
   simp
   omega
theorem box_runs (hT:TOk P E) (h:Inv w Z (Act.tm a) s fp) {call:Sem1} {t:TypeId} {x:Operand} {s':St} {r:S} (he:ev1 E call ty s (.box t x) = some (s',r)) :
  Runs P a (.box t x) ty w (Brings w Z (Act.tm a) fp s' r) :=by
 obtain ⟨v,w',⟨Z',fp',F,D,_⟩,h2⟩ :=box_runs' hT h he
 exact ⟨v,w',⟨Z',fp',F,D⟩,h2⟩
end
end Go.Sx

/- The store. -/
namespace Go.Sx
section
variable {P:Program} {E:Env} {w:World} {Z:CA→Prop} {a:Act} {s:St} {fp:Tmp→List CA} {ty:TypeId}

theorem take_look {lv:El→List C→List C} {u:S} {q:St × Bool × List C} (h:takeW lv s u = some q):q.1 = s∨∃ r cs,q.1 = upd r cs s∧(look s.sl r).root.isSome = true :=by
 cases u with
 | val g b cs =>simp [takeW] at h; subst h; exact .inl rfl
 | lnk r k off n b el win =>
  obtain ⟨cs,hroot,h⟩ :=bE.1 (show bnd _ _ = some q from h)
  obtain ⟨xs,hg,h⟩ :=bE.1 h
  rcases tE.1 h with ⟨hwh,h⟩ | ⟨_,h⟩
  case inr =>cases h
  obtain ⟨zs,hw,h⟩ :=bE.1 h
  obtain ⟨cs',hset,h⟩ :=bE.1 h
  simp at h
  subst h
  exact .inr ⟨r,cs',rfl,by rw [(rootL_root hroot).1]; rfl⟩
 | _ =>simp [takeW] at h

theorem look_upd {r t:Tmp} {cs:List C}:look (upd r cs s).sl t = if r = t then (look s.sl r).withCells s.cnt cs else look s.sl t :=rfl

theorem ptr_after {lv:El→List C→List C} {tm:Tmp→Value} {r g off:Nat} {el:El} {v:Value} {cs0 cs:List C} {u:S} {q:St × Bool × List C} (hlt:g < s.cnt) (h:(look s.sl r).rootP g el = some cs0)
  (hp:PtrTo (rget w (look s.sl r) (tm r)) cs0 (tm r) off el v) (ht:takeW lv s u = some q) (h1:(look q.1.sl r).rootP g el = some cs):PtrTo (rget w (look q.1.sl r) (tm r)) cs (tm r) off el v :=by
 cases el with
 | none =>exact hp
 | some z =>
  rcases take_look ht with e | ⟨r',cs',e,_⟩
  ·rw [e] at h1 ⊢
   rw [h] at h1
   cases h1
   exact hp
  ·rw [e] at h1 ⊢
   rw [look_upd] at h1 ⊢
   by_cases hr:r' = r
   ·subst hr
    rw [if_pos rfl] at h1
    have :=with_rootR (rootP_R h1)
    omega
   ·rw [if_neg hr] at h1 ⊢
    rw [h] at h1
    cases h1
    exact hp

theorem RL.real {w:World} {Z:CA→Prop} {cs:List C} {b p:Nat} {F:List CA} (h:RL w Z cs (fun j =>cell w (b,p + j)) F):∀ c ∈ span (b,p) cs.length,(cell w c).isSome = true :=by
 intro c hc
 obtain ⟨vs,hl,hg,_⟩ :=h.values
 obtain ⟨c1,c2⟩ :=c
 rw [mem_span] at hc
 simp only at hc
 obtain ⟨rfl,h1,h2⟩ :=hc
 have :=hg (c2 - p) (by omega)
 rw [show p + (c2 - p) = c2 by omega] at this
 rw [this,List.getElem?_eq_getElem (by omega)]
 rfl

theorem RRs.real {w:World} {Z:CA→Prop} {sz b:Nat}:∀ {rows:List (List C)} {o:Nat} {F:List CA},RRs w Z rows sz b o F→∀ c ∈ span (b,o) (rows.length * sz),(cell w c).isSome = true
 | [],o,F,_,c,hc =>by simp [span] at hc
 | r :: rs,o,F,h,c,hc =>by
  obtain ⟨hl,F1,F2,h1,h2,_⟩ :=h
  by_cases hlt:c.2 < o + sz
  ·refine h1.real c ?_
   rw [mem_span] at hc ⊢
   rw [hl]
   exact ⟨hc.1,hc.2.1,hlt⟩
  ·refine RRs.real h2 c ?_
   rw [mem_span] at hc ⊢
   simp only [List.length_cons,Nat.add_mul,Nat.one_mul] at hc ⊢
   omega

theorem run_store_cells {t:TypeId} {i:TI} (hi:TIOk P t i) {b o:Nat} {v:Value} {vs:List Value} {ag:Bool} (hp:Packs ag vs v) (hl:vs.length = i.size) (hc:∀ c ∈ span (b,o) vs.length,(cell w c).isSome = true∧fro w c = false) (h1:∀ v ∈ vs,v.oneCell' = true) :
  (Instr.storeAt t (.pointer (some ⟨b,o,none⟩)) v).run P w = .ok () (w.setCells b o vs) :=by
 have hmem:∀ j,j < vs.length→(b,o + j) ∈ span (b,o) vs.length :=fun j hj =>mem_span.2 ⟨rfl,by simp,by simp; omega⟩
 have hst :=run_storeCells_cells (P :=P) b o vs 0 w (fun j hj =>by rw [Nat.add_zero]; exact (hc _ (hmem j hj)).1) (fun j hj =>by rw [Nat.add_zero]; exact (hc _ (hmem j hj)).2) h1
 simp only [Nat.add_zero] at hst
 have hcells :=hp.cells
 have hsz:v.cells.size = i.size :=by rw [← Array.length_toList,hcells,hl]
 simp [Instr.storeAt,Instr.sureAddr,storeVar,sizeOf_of hi,hsz,hcells,hst]

theorem store_runs (hT:TOk P E) (h:Inv w Z (Act.tm a) s fp) {call:Sem1} {t:TypeId} {x y:Operand} {s':St} {r':S} (he:ev1 E call ty s (.store t x y) = some (s',r')) :
  Runs P a (.store t x y) ty w (Brings w Z (Act.tm a) fp s' r') :=by
 obtain ⟨i,hi,he⟩ :=bE.1 (show bnd (E.T t) _ = some (s',r') from he)
 obtain ⟨px,hpx,he⟩ :=bE.1 he
 obtain ⟨vy,hvy,he⟩ :=bE.1 he
 obtain ⟨rpx,hlx⟩ :=rd_rep hT h hpx
 obtain ⟨rvy,hly⟩ :=rd_rep hT h hvy
 cases px with
 | ptr r g off el =>
  obtain ⟨cs0,hroot0,he⟩ :=bE.1 (show bnd ((look s.sl r).rootP g el) _ = some (s',r') from he)
  obtain ⟨q,hq,he⟩ :=bE.1 he
  obtain ⟨cs,hroot,he⟩ :=bE.1 he
  obtain ⟨old,hg,he⟩ :=bE.1 he
  rcases tE.1 he with ⟨hlen,he⟩ | ⟨_,he⟩
  case inr =>cases he
  rcases tE.1 he with ⟨hloose,he⟩ | ⟨_,he⟩
  case inr =>cases he
  obtain ⟨cs',hset,he⟩ :=bE.1 he
  simp at he hlen
  obtain ⟨rfl,rfl⟩ :=he
  have hptr :=ptr_after hlx hroot0 (rpx.2 cs0 (rootP_R hroot0)) hq hroot
  obtain ⟨s1,b1,ys⟩ :=q
  simp only at hroot hg hlen hset hptr
  obtain ⟨fp1,vs,F,T⟩ :=take_rep h rvy hq
  have hinv :=T.inv
  have hvl:vs.length = i.size :=by rw [T.len,hlen]
  have hv1:∀ v ∈ vs,v.oneCell' = true :=by
   obtain ⟨vs',hl',hg',h1'⟩ :=T.rl.values
   have:vs' = vs :=by
    apply List.ext_getElem?
    intro j
    by_cases hj:j < ys.length
    ·exact (hg' j hj).symm
    ·rw [List.getElem?_eq_none (by omega),List.getElem?_eq_none (by rw [T.len]; omega)]
   rw [← this]
   exact h1'
  -- the place
  have key:∃ b p,a.eval x = .pointer (some ⟨b,p,none⟩)∧(∀ c ∈ span (b,p) vs.length,c ∈ fp1 r)∧(∀ c ∈ span (b,p) vs.length,(cell w c).isSome = true) ∧
    ∀ w',(∀ j,j < vs.length→cell w' (b,p + j) = vs[j]?)→(∀ c,(c ∈ fp1 r∨c ∈ F∨Z c)→c ∉ span (b,p) vs.length→gcell w' c = gcell w c) →
     ∃ F',(∀ l tm0,Rep w' Z l tm0 (Act.tm a r) F' ((look s1.sl r).withCells s1.cnt cs'))∧F'.Nodup∧∀ c ∈ F',c ∈ fp1 r∨c ∈ F :=by
   have hnd :=hinv.nd r
   have hys:∀ (w':World) (b p:Nat),(∀ c ∈ span (b,p) vs.length,c ∈ fp1 r)→(∀ j,j < vs.length→cell w' (b,p + j) = vs[j]?)→(∀ c,(c ∈ fp1 r∨c ∈ F∨Z c)→c ∉ span (b,p) vs.length→gcell w' c = gcell w c) →
     RL w' Z ys (fun j =>cell w' (b,p + j)) F :=by
    intro w' b p hin hvs hoff
    refine RL.same (fun _ h =>h) ys T.rl (fun c hc =>hoff c (.inr hc) (fun hs =>?_)) (fun j hj =>hvs j (by rw [T.len]; exact hj))
    rcases hc with hc | hc
    ·exact T.apart r c hc (hin c hs)
    ·exact (hinv.mine r c (hin c hs)).2.2 hc
   cases el with
   | none =>
    cases hlk:look s1.sl r with
    | box k g' ds =>
     rw [hlk] at hroot
     simp only [S.rootP] at hroot
     split at hroot
     case isFalse =>cases hroot
     simp at hroot
     subst hroot
     have hrep :=hinv.rep r
     rw [hlk] at hrep
     obtain ⟨b,o,G,htv,hG,hF⟩ :=hrep
     obtain ⟨b2,o2,htv2,hv⟩ :=hptr
     rw [htv] at htv2
     simp at htv2
     obtain ⟨rfl,rfl⟩ :=htv2
     obtain ⟨A,Fx,B,hGe,hx,hnew⟩ :=place_set_none hG hg
     have hpl :=getP_none hg
     obtain ⟨pre,post,hcs,hpre,hol⟩ :=hpl
     have hin:∀ c ∈ span (b,o + off) vs.length,c ∈ span (b,o) ds.length :=by
      intro c hc
      rw [mem_span] at hc ⊢
      simp only at hc ⊢
      have:ds.length = pre.length + (old.length + post.length) :=by rw [hcs]; simp
      omega
     have hinr:∀ c ∈ span (b,o + off) vs.length,c ∈ fp1 r :=fun c hc =>by rw [hF]; exact List.mem_append_left _ (hin c hc)
     rw [hF,List.nodup_append] at hnd
     refine ⟨b,o + off,hv,hinr,fun c hc =>hG.real c (hin c hc),fun w' hvs hoff =>?_⟩
     have hAB:∀ c ∈ A ++ B,c ∈ G :=fun c hc =>by
      rw [hGe]
      rcases List.mem_append.1 hc with hc | hc
      ·exact List.mem_append_left _ (List.mem_append_left _ hc)
      ·exact List.mem_append_right _ hc
     have hsame:Same w w' (A ++ B) Z :=fun c hc =>hoff c (hc.elim (fun hc =>.inl (by rw [hF]; exact List.mem_append_right _ (hAB c hc))) (fun hc =>.inr (.inr hc))) (fun hs =>by
      rcases hc with hc | hc
      ·exact hnd.2.2 c (hin c hs) c (hAB c hc) rfl
      ·exact (hinv.mine r c (hinr c hs)).2.2 hc)
     have :=hnew w' Z (fun i =>cell w' (b,o + i)) ys F cs' (fun _ h =>h) hsame (fun j hj hj2 =>cell_of_g (hoff _ (.inl (by rw [hF]; exact List.mem_append_left _ (mem_span.2 ⟨rfl,by simp,by simp; omega⟩))) (fun hs =>by
       rw [mem_span] at hs
       simp only at hs
       omega))) hlen (by
       have e:(fun j =>cell w' (b,o + (off + j))) = fun j =>cell w' (b,o + off + j) :=by
        funext j
        rw [Nat.add_assoc]
       rw [e]
       exact hys w' b (o + off) hinr hvs hoff) hset
     refine ⟨span (b,o) ds.length ++ (A ++ F ++ B),fun l tm0 =>⟨b,o,_,htv,this.1,by rw [this.2]⟩,?_,?_⟩
     ·have hndG :=hnd.2.1
      rw [hGe] at hndG
      rw [List.nodup_append]
      refine ⟨hnd.1,?_,?_⟩
      ·have h1:(A ++ B).Nodup :=by have :=nodup_drop_mid hndG; simpa using this
       rw [List.append_assoc,List.nodup_append,List.nodup_append]
       rw [List.nodup_append] at h1
       refine ⟨h1.1,⟨T.nd,h1.2.1,fun c hc d hd e =>?_⟩,fun c hc d hd e =>?_⟩
       ·subst e
        exact T.apart r c hc (by rw [hF]; exact List.mem_append_right _ (hAB c (List.mem_append_right _ hd)))
       ·subst e
        rcases List.mem_append.1 hd with hd | hd
        ·exact T.apart r c hd (by rw [hF]; exact List.mem_append_right _ (hAB c (List.mem_append_left _ hc)))
        ·exact h1.2.2 c hc c hd rfl
      ·intro c hc d hd e
       subst e
       rcases List.mem_append.1 hd with hd | hd
       ·rcases List.mem_append.1 hd with hd | hd
        ·exact hnd.2.2 c hc c (hAB c (List.mem_append_left _ hd)) rfl
        ·exact T.apart r c hd (by rw [hF]; exact List.mem_append_left _ hc)
       ·exact hnd.2.2 c hc c (hAB c (List.mem_append_right _ hd)) rfl
     ·intro c hc
      rcases List.mem_append.1 hc with hc | hc
      ·exact .inl (by rw [hF]; exact List.mem_append_left _ hc)
      ·rcases List.mem_append.1 hc with hc | hc
       ·rcases List.mem_append.1 hc with hc | hc
        ·exact .inl (by rw [hF]; exact List.mem_append_right _ (hAB c (List.mem_append_left _ hc)))
        ·exact .inr hc
       ·exact .inl (by rw [hF]; exact List.mem_append_right _ (hAB c (List.mem_append_right _ hc)))
    | val g' b' ds =>rw [hlk] at hroot; simp [S.rootP] at hroot
    | _ =>rw [hlk] at hroot; simp [S.rootP] at hroot
   | some z =>
    obtain ⟨ix,o'⟩ :=z
    have hrt :=rootP_root hroot
    obtain ⟨D,G,hF,hG,hget,hmk⟩ :=(hinv.rep r).root2 hrt
    rw [hF] at hnd
    have hndG:G.Nodup :=by
     rw [List.nodup_append] at hnd
     exact hnd.2.1
    obtain ⟨A,Fx,B,b,p,hGe,hx,hD,hpg,⟨o2,len2,cap2,f2,sz2,rows2,e1,e2,e3⟩,hnew⟩ :=place_set_some hG hg hndG hset hlen
    obtain ⟨b3,o3,len3,cap3,f3,sz3,rows3,e4,e5,hv⟩ :=hptr
    rw [e1] at e4
    rw [e2] at e5
    simp at e4 e5
    obtain ⟨⟨rfl,rfl⟩,rfl,rfl⟩ :=e4
    obtain ⟨rfl,rfl,rfl⟩ :=e5
    rw [e3] at hv
    have hAG:∀ c ∈ A,c ∈ G :=fun c hc =>by rw [hGe]; exact List.mem_append_left _ (List.mem_append_left _ hc)
    have hBG:∀ c ∈ B,c ∈ G :=fun c hc =>by rw [hGe]; exact List.mem_append_right _ hc
    have hin:∀ c ∈ span (b,p) vs.length,c ∈ A :=fun c hc =>hD c (by rw [← hvl]; exact hc)
    have hinr:∀ c ∈ span (b,p) vs.length,c ∈ fp1 r :=fun c hc =>by rw [hF]; exact List.mem_append_right _ (hAG c (hin c hc))
    refine ⟨b,p,hv,hinr,fun c hc =>hx.real c (by rw [(place_read hG hg).1,← hvl]; exact hc),fun w' hvs hoff =>?_⟩
    have :=hnew w' Z (rget w' (look s1.sl r) (Act.tm a r)) ys F cs' (fun _ h =>h) (fun c hc hs =>hoff c (hc.elim (fun hc =>.inl (by
       rw [hF]
       rcases List.mem_append.1 hc with hc | hc
       ·exact List.mem_append_right _ (hAG c hc)
       ·exact List.mem_append_right _ (hBG c hc))) (fun hc =>.inr (.inr hc))) (by rw [hvl]; exact hs))
      (fun c hc =>(hinv.mine r c (hinr c (by rw [hvl]; exact hc))).2.2)
      (hget w' (fun c hc =>hc.elim (fun hc =>hoff c (.inl (by rw [hF]; exact List.mem_append_left _ hc)) (fun hs =>by
       rw [List.nodup_append] at hnd
       exact hnd.2.2 c hc c (hAG c (hin c hs)) rfl)) (fun hc =>hoff c (.inr (.inr hc)) (fun hs =>(hinv.mine r c (hinr c hs)).2.2 hc)))) hlen (hys w' b p hinr hvs hoff) hset
    refine ⟨D ++ (A ++ F ++ B),fun l tm0 =>hmk w' Z cs' _ l tm0 s1.cnt (fun _ h =>h) this.2 this.1,?_,?_⟩
    ·rw [List.nodup_append] at hnd
     rw [hGe] at hndG
     rw [List.nodup_append]
     refine ⟨hnd.1,?_,?_⟩
     ·have h1:(A ++ B).Nodup :=by have :=nodup_drop_mid hndG; simpa using this
      rw [List.append_assoc,List.nodup_append,List.nodup_append]
      rw [List.nodup_append] at h1
      refine ⟨h1.1,⟨T.nd,h1.2.1,fun c hc d hd e =>?_⟩,fun c hc d hd e =>?_⟩
      ·subst e
       exact T.apart r c hc (by rw [hF]; exact List.mem_append_right _ (hBG c hd))
      ·subst e
       rcases List.mem_append.1 hd with hd | hd
       ·exact T.apart r c hd (by rw [hF]; exact List.mem_append_right _ (hAG c hc))
       ·exact h1.2.2 c hc c hd rfl
     ·intro c hc d hd e
      subst e
      rcases List.mem_append.1 hd with hd | hd
      ·rcases List.mem_append.1 hd with hd | hd
       ·exact hnd.2.2 c hc c (hAG c hd) rfl
       ·exact T.apart r c hd (by rw [hF]; exact List.mem_append_left _ hc)
      ·exact hnd.2.2 c hc c (hBG c hd) rfl
    ·intro c hc
     rcases List.mem_append.1 hc with hc | hc
     ·exact .inl (by rw [hF]; exact List.mem_append_left _ hc)
     ·rcases List.mem_append.1 hc with hc | hc
      ·rcases List.mem_append.1 hc with hc | hc
       ·exact .inl (by rw [hF]; exact List.mem_append_right _ (hAG c hc))
       ·exact .inr hc
      ·exact .inl (by rw [hF]; exact List.mem_append_right _ (hBG c hc))
  obtain ⟨b,p,hv,hin,hreal,hnew⟩ :=key
  have hwr:∀ c ∈ span (b,p) vs.length,(cell w c).isSome = true∧fro w c = false :=fun c hc =>⟨hreal c hc,(hinv.mine r c (hin c hc)).2.1⟩
  have hgo:Goes w (w.setCells b p vs) (fun c =>c ∈ span (b,p) vs.length) :=goes_setCells b _ vs p w (fun c hc =>(hwr c hc).1) (fun c hc =>hc)
  obtain ⟨F',hrep,hndF,hsubF⟩ :=hnew (w.setCells b p vs) (fun j hj =>by rw [List.getElem?_eq_getElem hj]; exact cell_setCells_in b vs p w (fun c hc =>(hwr c hc).1) j _ (List.getElem?_eq_getElem hj)) (fun c _ hc =>gcell_setCells_off b vs p w c hc)
  have hmm:∀ c,(c ∈ fp1 r∨c ∈ F)→Mine w Z c :=fun c hc =>hc.elim (hinv.mine r c) (T.mine c)
  have hroot':(look s1.sl r).root.isSome = true :=by rw [rootP_root hroot]; rfl
  have hout:∀ t,t ≠ r→∀ c ∈ fp1 t,c ∉ span (b,p) vs.length :=fun t ht c hc hs =>hinv.disj t r ht c hc (hin c hs)
  have hinv' :=hinv.upd (w' :=w.setCells b p vs) (Z' :=Z) (cs' :=cs') (F' :=F') hroot' (fun _ h =>h) (fun t ht c hc =>gcell_setCells_off b vs p w c (fun hs =>hc.elim (fun hc =>hout t ht c hc hs) (fun hc =>(hinv.mine r c (hin c hs)).2.2 hc)))
   hrep hndF (fun c hc =>(hmm c (hsubF c hc)).goes hgo) (fun t ht c hc hm =>(hsubF c hc).elim (fun h =>hinv.disj t r ht c hm h) (fun h =>T.apart t c h hm)) (fun t _ c hc =>(hinv.mine t c hc).goes hgo) (fun c hc =>hgo.some c (hinv.zok c hc))
  refine ⟨undef,w.setCells b p vs,⟨Z,_,[],{ goes :=hgo.mono (fun c hc =>⟨r,T.sub r c (hin c hc)⟩),zz :=fun _ h =>h,zfrom :=fun _ h =>.inl h,inv :=hinv',rep :=rfl,lt :=trivial,nd :=List.nodup_nil,mine :=by simp,apart :=by simp,from_ :=?_ }⟩,fun o e1 e2 =>.inr ⟨?_,rfl⟩⟩
  ·intro c hc
   refine .inl ?_
   rcases hc with hc | ⟨t,hc⟩
   ·cases hc
   ·by_cases ht:t = r
    ·simp only [if_pos ht] at hc
     exact (hsubF c hc).elim (fun h =>⟨r,T.sub r c h⟩) (T.from_ c)
    ·simp only [if_neg ht] at hc
     exact ⟨t,T.sub t c hc⟩
  ·have :=run_store_cells (P :=P) (hT _ _ hi) T.packs hvl hwr hv1
   rw [← hv] at this
   simp only [execOp,e1,Sem.run_bind,this,Result.andThen_ok,Sem.run_pure]
 | _ =>simp [storeS] at he
end
end Go.Sx

/- make; struct and slice literals. -/
namespace Go.Sx
section
variable {P:Program} {E:Env} {w:World} {Z:CA→Prop} {a:Act} {s:St} {fp:Tmp→List CA} {ty:TypeId}

theorem rrs_const {z:List C} {zc:List Value} {sz:Nat} (hz:∀ w Z,RL w Z z (fun j =>zc[j]?) []) (hl:z.length = sz) (hs:0 < sz) (hzc:zc.length = sz) {b:Nat}:∀ (n o:Nat),(∀ i,i < n * sz→cell w (b,o + i) = zc[i % sz]?)→RRs w Z (List.replicate n z) sz b o []
 | 0,_,_ =>rfl
 | n + 1,o,h =>by
  refine ⟨hl,[],[],RL.same (w' :=w) (fun _ h =>h) z (hz w Z) (fun _ _ =>rfl) (fun i hi =>?_),rrs_const hz hl hs hzc n (o + sz) (fun i hi =>?_),rfl⟩
  ·have h1:i < (n + 1) * sz :=by rw [Nat.add_mul,Nat.one_mul]; omega
   rw [h i h1,Nat.mod_eq_of_lt (by omega)]
  ·have h1:sz + i < (n + 1) * sz :=by rw [Nat.add_mul,Nat.one_mul]; omega
   rw [show o + sz + i = o + (sz + i) by omega,h _ h1,Nat.add_mod_left]

theorem getElem?_madeCells {z:Array Value} {n k:Nat} (hz:0 < z.size) (hk:k < n):(madeCells z n).toList[k]? = z.toList[k % z.size]? :=by
 have h1:k % z.size < z.size :=Nat.mod_lt _ hz
 simp [madeCells,hk,h1]

theorem rep_new {l:List (Tmp × S)} {tm:Tmp→Value} {b n sz:Nat} {rows:List (List C)} {G:List CA} (hn:rows.length = n) (h:RRs w Z rows sz b 0 G):Rep w Z l tm (.slice (some ⟨b,0,none⟩) n n) (span (b,0) (n * sz) ++ G) (.val 0 false [.sl .own sz rows]) :=
 ⟨[.slice (some ⟨b,0,none⟩) n n],.inr ⟨rfl,rfl,rfl⟩,rfl,_,_,[],rfl,⟨some ⟨b,0,none⟩,n,by rw [hn],by rw [hn]; exact Nat.le_refl _,.inr ⟨by simp,.inr ⟨b,0,G,rfl,⟨h,by rw [← hn]; exact h.real⟩,rfl⟩⟩⟩,rfl,by simp⟩

theorem makeSlice_runs (hT:TOk P E) (h:Inv w Z (Act.tm a) s fp) {call:Sem1} {t:TypeId} {x y:Operand} {s':St} {r:S} (he:ev1 E call ty s (.makeSlice t x y) = some (s',r)) :
  Runs P a (.makeSlice t x y) ty w (Brings w Z (Act.tm a) fp s' r) :=by
 obtain ⟨i,hi,he⟩ :=bE.1 (show bnd (E.T t) _ = some (s',r) from he)
 obtain ⟨e,hel,he⟩ :=bE.1 he
 obtain ⟨j,hj,he⟩ :=bE.1 he
 obtain ⟨v,hv,he⟩ :=bE.1 he
 obtain ⟨u,hu,he⟩ :=bE.1 he
 obtain ⟨n,hn,he⟩ :=bE.1 he
 obtain ⟨v',hv',he⟩ :=bE.1 he
 obtain ⟨u',hu',he⟩ :=bE.1 he
 obtain ⟨m,hm,he⟩ :=bE.1 he
 rcases tE.1 he with ⟨hnm,he⟩ | ⟨_,he⟩
 case inr =>cases he
 rcases tE.1 he with ⟨hlim,he⟩ | ⟨_,he⟩
 case inr =>cases he
 simp at he hnm hlim
 obtain ⟨rfl,rfl⟩ :=he
 subst hnm
 obtain ⟨k1,l,rfl,hl0,hnl⟩ :=asIdx_eq hn
 obtain ⟨k2,c,rfl,hc0,hnc⟩ :=asIdx_eq hm
 have e1 :=(prim_val (rd_rep hT h hv).1 hu).1
 have e2 :=(prim_val (rd_rep hT h hv').1 hu').1
 have hun :=slc_under hT hi hel
 obtain ⟨inf,z,h1,h2,h3,h4,h5,h6,h7⟩ :=zero_of hT hj
 have hby :=(hT _ _ hj).bytes
 have hsz :=(hT _ _ hj).size
 simp only [LIM] at hlim
 have hb:(inf.bytes:Int) * c≤281474976710656 :=by
  have h8:inf.bytes * n≤32768 * n :=Nat.mul_le_mul_right _ (by omega)
  have h9:c = (n:Int) :=by omega
  rw [h9]
  have:((inf.bytes * n:Nat):Int)≤281474976710656 :=by omega
  simpa using this
 have hr :=run_make (P :=P) w t e inf z hun h1 h4 k1 k2 l c hl0 (by omega) hb (by omega)
 rw [← hnl,← hnc,h2] at hr
 have g :=grown_alloc w (madeCells z.cells (n * j.size)).toList e
 refine ⟨.slice (some ⟨w.heap.size,0,none⟩) n n,_,⟨Z,fp,_,Done.grown (F :=[]) g h List.nodup_nil (by simp) (by simp) (fun c hc =>by simpa using hc) (fun hinv =>?_) trivial⟩,fun o q1 q2 =>.inl ?_⟩
 ·rw [show (madeCells z.cells (n * j.size)).toList.length = n * j.size by rw [Array.length_toList,size_madeCells]]
  refine rep_new (by simp) ?_
  refine rrs_const h7 h6 hsz (by simpa using h5) n 0 (fun k hk =>?_)
  rw [Nat.zero_add,g.cell,getElem?_madeCells (by omega) hk,h5]
 ·simp only [execOp,q1,Sem.run_bind,e1,e2,hr,Result.andThen_ok,Sem.run_pure]

/-! ### Parts -/

def Parts (w:World) (Z:CA→Prop):List (Nat × Value)→List (Nat × List C)→List CA→Prop
 | [],[],F =>F = []
 | p :: ps,q :: qs,F =>p.1 = q.1∧∃ F1 F2,p.2.cells.size = q.2.length∧RL w Z q.2 (fun j =>p.2.cells.toList[j]?) F1∧Parts w Z ps qs F2∧F = F1 ++ F2
 | [],_ :: _,_ =>False
 | _ :: _,[],_ =>False

theorem takeAll_rep (hT:TOk P E):∀ {parts:List (Nat × Operand)} {s s':St} {fp:Tmp→List CA} {zs:List (Nat × List C)},Inv w Z (Act.tm a) s fp→takeAll E parts s = some (s',zs) →
  ∃ fp' F,Inv w Z (Act.tm a) s' fp'∧Parts w Z (parts.map fun p =>(p.1,a.eval p.2)) zs F∧F.Nodup∧(∀ c ∈ F,Mine w Z c)∧(∀ t,∀ c ∈ F,c ∉ fp' t)∧(∀ t,∀ c ∈ fp' t,c ∈ fp t)∧∀ c ∈ F,∃ t,c ∈ fp t
 | [],s,s',fp,zs,h,he =>by
  simp [takeAll] at he
  obtain ⟨rfl,rfl⟩ :=he
  exact ⟨fp,[],h,rfl,List.nodup_nil,by simp,by simp,fun _ _ h =>h,by simp⟩
 | (i,x) :: r,s,s',fp,zs,h,he =>by
  obtain ⟨v,hv,he⟩ :=bE.1 (show bnd (rd E 0 s x) _ = some (s',zs) from he)
  obtain ⟨q,hq,he⟩ :=bE.1 he
  obtain ⟨z,hz,he⟩ :=bE.1 he
  simp at he
  obtain ⟨rfl,rfl⟩ :=he
  obtain ⟨s1,b1,ys⟩ :=q
  obtain ⟨fp1,vs,F1,T⟩ :=take_rep h (rd_rep hT h hv).1 hq
  obtain ⟨fp2,F2,i2,p2,n2,m2,a2,s2,f2⟩ :=takeAll_rep hT T.inv hz
  have hc :=T.packs.cells
  refine ⟨fp2,F1 ++ F2,i2,⟨rfl,F1,F2,?_,?_,p2,rfl⟩,?_,?_,?_,fun t c hc =>T.sub t c (s2 t c hc),?_⟩
  ·show (a.eval x).cells.size = ys.length
   rw [← Array.length_toList,hc,T.len]
  ·show RL w Z ys (fun j =>(a.eval x).cells.toList[j]?) F1
   rw [hc]
   exact T.rl
  ·rw [List.nodup_append]
   refine ⟨T.nd,n2,fun c hc d hd e =>?_⟩
   subst e
   obtain ⟨t,ht⟩ :=f2 c hd
   exact T.apart t c hc ht
  ·exact fun c hc =>(List.mem_append.1 hc).elim (T.mine c) (m2 c)
  ·exact fun t c hc hm =>(List.mem_append.1 hc).elim (fun hc =>T.apart t c hc (s2 t c hm)) (fun hc =>a2 t c hc hm)
  ·intro c hc
   rcases List.mem_append.1 hc with hc | hc
   ·exact T.from_ c hc
   ·obtain ⟨t,ht⟩ :=f2 c hc
    exact ⟨t,T.sub t c ht⟩

theorem foldl_over (off:Nat):∀ (l:List Value) (j0:Nat) (cells:Array Value),off + j0 + l.length≤cells.size →
  ((l.zipIdx j0).foldl (fun cs p =>cs.setIfInBounds (off + p.2) p.1) cells).size = cells.size ∧
  ∀ k,((l.zipIdx j0).foldl (fun cs p =>cs.setIfInBounds (off + p.2) p.1) cells)[k]? = if off + j0≤k∧k < off + j0 + l.length then l[k - (off + j0)]? else cells[k]?
 | [],j0,cells,_ =>⟨rfl,fun k =>by simp; omega⟩
 | v :: l,j0,cells,h =>by
  simp only [List.length_cons] at h
  have ih :=foldl_over off l (j0 + 1) (cells.setIfInBounds (off + j0) v) (by simp; omega)
  simp only [List.zipIdx_cons,List.foldl_cons]
  refine ⟨by rw [ih.1]; simp,fun k =>?_⟩
  rw [ih.2]
  simp only [List.length_cons]
  by_cases h1:k = off + j0
  ·subst h1
   have h2:off + j0 < cells.size :=by omega
   simp [h2]
   omega
  ·by_cases h2:off + (j0 + 1)≤k∧k < off + (j0 + 1) + l.length
   ·rw [if_pos h2,if_pos (by omega)]
    obtain ⟨d,hd⟩:∃ d,k - (off + j0) = d + 1 :=⟨k - (off + j0) - 1,by omega⟩
    rw [hd,List.getElem?_cons_succ]
    congr 1
    omega
   ·rw [if_neg h2,if_neg (by omega),Array.getElem?_setIfInBounds,if_neg (by omega)]

theorem fill_lay {place place':Nat→Option (Nat × Nat)} (hp:∀ i q,place i = some q→place' i = some q):∀ {ps:List (Nat × Value)} {zs:List (Nat × List C)} {F G:List CA} {z cs:List C} {cells:Array Value},
  Parts w Z ps zs F→cells.size = z.length→RL w Z z (fun i =>cells.toList[i]?) G→lay place z zs = some cs →
  ∃ cells' G',Instr.fill place' cells ps = some cells'∧cells'.size = z.length∧cs.length = z.length∧RL w Z cs (fun i =>cells'.toList[i]?) G'∧(∀ c ∈ G',c ∈ G∨c ∈ F)∧((G ++ F).Nodup→G'.Nodup)
 | [],[],F,G,z,cs,cells,hP,hs,hr,hl =>by
  simp [lay] at hl
  subst hl
  have hF:F = [] :=hP
  subst hF
  exact ⟨cells,G,rfl,hs,rfl,hr,fun c hc =>.inl hc,fun h =>by simpa using h⟩
 | (i,v) :: ps,(i',xs) :: zs,F,G,z,cs,cells,hP,hs,hr,hl =>by
  obtain ⟨hii,F1,F2,hvs,hrx,hP2,hF⟩ :=hP
  simp only at hii hvs hrx
  subst hii
  obtain ⟨q,hq,hl2⟩ :=bE.1 (show bnd (place i) _ = some cs from hl)
  rcases tE.1 hl2 with ⟨hlen,hl3⟩ | ⟨_,hl3⟩
  case inr =>cases hl3
  simp at hlen
  obtain ⟨z1,hov,hl4⟩ :=bE.1 hl3
  clear hl hl2 hl3
  obtain ⟨pre,mid,post,hz,hpre,hmid,hz1⟩ :=over_eq hov
  subst hz
  obtain ⟨GA,GR,hA,hR,hG⟩ :=RL.split hr
  obtain ⟨GM,GB,hM,hB,hGR⟩ :=RL.split hR
  simp only [List.length_append] at hs
  have hfo :=foldl_over q.1 v.cells.toList 0 cells (by simp [hvs]; omega)
  let cells1 :=(v.cells.toList.zipIdx 0).foldl (fun cs p =>cs.setIfInBounds (q.1 + p.2) p.1) cells
  have hsz1:cells1.size = z1.length :=by rw [hfo.1,hs,hz1]; simp; omega
  have hget:∀ k,cells1.toList[k]? = if q.1≤k∧k < q.1 + xs.length then v.cells.toList[k - q.1]? else cells.toList[k]? :=by
   intro k
   have :=hfo.2 k
   simp only [Nat.add_zero,Array.length_toList,hvs] at this
   simpa using this
  have hr1:RL w Z z1 (fun i =>cells1.toList[i]?) (GA ++ (F1 ++ GB)) :=by
   rw [hz1]
   refine RL.append (RL.same (w' :=w) (fun _ h =>h) pre hA (fun _ _ =>rfl) (fun k hk =>?_)) (RL.append (RL.same (w' :=w) (fun _ h =>h) xs hrx (fun _ _ =>rfl) (fun k hk =>?_)) (RL.same (w' :=w) (fun _ h =>h) post hB (fun _ _ =>rfl) (fun k hk =>?_)))
   ·simp only [hget]
    rw [if_neg (by omega)]
   ·simp only [hget]
    rw [if_pos (by omega)]
    congr 1
    omega
   ·simp only [hget]
    rw [if_neg (by omega)]
    congr 1
    omega
  obtain ⟨cells',G',f1,f2,f3,f4,f5,f6⟩ :=fill_lay hp hP2 hsz1 hr1 hl4
  have hz1l:z1.length = (pre ++ (mid ++ post)).length :=by rw [hz1]; simp; omega
  refine ⟨cells',G',?_,by rw [f2,hz1l],by rw [f3,hz1l],f4,?_,?_⟩
  ·have:¬ (v.cells.size ≠ q.2∨q.1 + v.cells.size > cells.size) :=by
    rw [hvs]
    omega
   have e1:v.cells.zipIdx.foldl (fun cs (x:Value × Nat) =>cs.setIfInBounds (q.1 + x.2) x.1) cells = cells1 :=by
    rw [← Array.foldl_toList]
    simp [cells1]
   obtain ⟨q1,q2⟩ :=q
   simp only [Instr.fill,hp _ _ hq]
   simp only at this
   rw [if_neg (by simpa using this)]
   rw [← f1]
   congr 1
  ·intro c hc
   rw [hG,hGR,hF]
   rcases f5 c hc with h | h
   ·simp only [List.mem_append] at h ⊢
    rcases h with h | h | h
    ·exact .inl (.inl h)
    ·exact .inr (.inl h)
    ·exact .inl (.inr (.inr h))
   ·simp only [List.mem_append]
    exact .inr (.inr h)
  ·intro hnd
   apply f6
   rw [hG,hGR,hF] at hnd
   have hp1:(GA ++ (GM ++ GB) ++ (F1 ++ F2)).Perm (GM ++ (GA ++ (F1 ++ GB) ++ F2)) :=by
    refine (List.perm_iff_count.2 fun c =>?_)
    simp only [List.count_append]
    omega
   have :=hp1.nodup_iff.1 hnd
   rw [List.nodup_append] at this
   exact this.2.1
 | [],_ :: _,_,_,_,_,_,hP,_,_,_ =>hP.elim
 | _ :: _,[],_,_,_,_,_,hP,_,_,_ =>hP.elim

theorem places_of (hT:TOk P E) {t:TypeId} {i:TI} {l:List (Nat × Nat × Bool)} (hi:E.T t = some i) (hl:i.k.offs = some l):∃ (fs:Array Field) (places:List (Nat × Nat)),P.underlying t = some (.struct fs)∧i.k.agg = true ∧
  fs.toList.mapM (fun (f:Field) =>(P.info? f.type).map fun i =>(f.offset,i.size)) = some places∧∀ f d,atL l f = some d→places[f]? = some (d.1,d.2.1) :=by
 have hki:i.k = .strct l :=by
  cases hk:i.k with
  | strct l' =>rw [hk] at hl; simp [TK.offs] at hl; rw [hl]
  | _ =>rw [hk] at hl; simp [TK.offs] at hl
 have hk :=(hT _ _ hi).kind
 rw [hki] at hk
 obtain ⟨fs,hun,hfs,hall⟩ :=hk
 have:∀ (gs:List Field),(∀ fl ∈ gs,(P.info? fl.type).isSome = true)→∃ places:List (Nat × Nat),gs.mapM (fun (f:Field) =>(P.info? f.type).map fun i =>(f.offset,i.size)) = some places∧∀ (f:Nat) (fl:Field) (inf:TypeInfo),gs[f]? = some fl→P.info? fl.type = some inf→places[f]? = some (fl.offset,inf.size) :=by
  intro gs
  induction gs with
  | nil =>intro _; exact ⟨[],rfl,fun f fl inf h =>by simp at h⟩
  | cons g gs ih =>
   intro h
   obtain ⟨pl,h1,h2⟩ :=ih (fun fl hfl =>h fl (List.mem_cons_of_mem _ hfl))
   obtain ⟨inf,hinf⟩ :=Option.isSome_iff_exists.1 (h g (by simp))
   refine ⟨(g.offset,inf.size) :: pl,by simp [List.mapM_cons,hinf,h1],fun f fl inf' hf hinf' =>?_⟩
   cases f with
   | zero =>
    simp at hf
    subst hf
    rw [hinf] at hinf'
    simp at hinf'
    subst hinf'
    rfl
   | succ f =>
    simp at hf
    simpa using h2 f fl inf' hf hinf'
 obtain ⟨places,h1,h2⟩ :=this fs.toList hall
 refine ⟨fs,places,hun,by rw [hki]; rfl,h1,fun f d hd =>?_⟩
 obtain ⟨fl,inf,hfl,hoff,hinf,hsz,_⟩ :=hfs f d hd
 rw [h2 f fl inf (by simpa using hfl) hinf,hoff,hsz]

theorem build_runs (hT:TOk P E) (h:Inv w Z (Act.tm a) s fp) {call:Sem1} {t:TypeId} {parts:Array (Nat × Operand)} {s':St} {r:S} (he:ev1 E call ty s (.build t parts) = some (s',r)) :
  Runs P a (.build t parts) ty w (Brings w Z (Act.tm a) fp s' r) :=by
 obtain ⟨i,hi,he⟩ :=bE.1 (show bnd (E.T t) _ = some (s',r) from he)
 obtain ⟨l,hl,he⟩ :=bE.1 he
 obtain ⟨q,hq,he⟩ :=bE.1 he
 obtain ⟨cs,hcs,he⟩ :=bE.1 he
 simp at he
 obtain ⟨rfl,rfl⟩ :=he
 obtain ⟨s1,zs⟩ :=q
 obtain ⟨fp1,F,i1,hP,n1,m1,a1,u1,f1⟩ :=takeAll_rep hT h hq
 obtain ⟨fs,places,hun,hag,hpl,hplaces⟩ :=places_of hT hi hl
 obtain ⟨inf,z,h1,h2,h3,h4,h5,h6,h7⟩ :=zero_of hT hi
 obtain ⟨cells',G',g1,g2,g3,g4,g5,g6⟩ :=fill_lay (place' :=fun f =>places.toArray[f]?) (fun f q hq =>by
  obtain ⟨d,hd,hq⟩ :=bE.1 hq
  simp at hq
  subst hq
  simpa using hplaces f d hd) hP (by omega) (h7 w Z) hcs
 have hrun:(Instr.build t (parts.map fun (i,x) =>(i,a.eval x))).run P w = .ok (.agg cells') w :=by
  refine run_build w t _ cells' ?_
  unfold Program.built
  simp only [h1,hun,h4,hpl]
  rw [← g1]
  congr 1
  simp
 have hG'F:∀ c ∈ G',c ∈ F :=fun c hc =>(g5 c hc).elim (fun h =>by cases h) id
 refine ⟨.agg cells',w,⟨Z,fp1,G',?_⟩,fun o q1 q2 =>.inl (by simp only [execOp,q1,Sem.run_bind,hrun,Result.andThen_ok,Sem.run_pure])⟩
 refine { goes :=Goes.refl _ _,zz :=fun _ h =>h,zfrom :=fun _ h =>.inl h,inv :=i1,rep :=⟨cells'.toList,.inl ⟨rfl,by simp⟩,by simp [g2,g3],g4⟩,lt :=trivial,nd :=g6 (by simpa using n1),mine :=fun c hc =>m1 c (hG'F c hc),apart :=fun t c hc =>a1 t c (hG'F c hc),from_ :=?_ }
 intro c hc
 refine .inl ?_
 rcases hc with hc | ⟨t,hc⟩
 ·exact f1 c (hG'F c hc)
 ·exact ⟨t,u1 t c hc⟩

theorem rrs_of_rl {sz b:Nat}:∀ {n o:Nat} {cs:List C} {F:List CA},cs.length = n * sz→RL w Z cs (fun i =>cell w (b,o + i)) F→RRs w Z (rowsOf sz n cs) sz b o F
 | 0,o,cs,F,hl,h =>by
  have:cs = [] :=List.eq_nil_of_length_eq_zero (by omega)
  subst this
  exact h
 | n + 1,o,cs,F,hl,h =>by
  rw [Nat.add_mul,Nat.one_mul] at hl
  rw [← List.take_append_drop sz cs] at h
  obtain ⟨F1,F2,h1,h2,hF⟩ :=RL.split h
  have ht:(cs.take sz).length = sz :=by simp; omega
  refine ⟨ht,F1,F2,h1,rrs_of_rl (by simp; omega) ?_,hF⟩
  have e:(fun i =>cell w (b,o + sz + i)) = fun i =>cell w (b,o + (i + (cs.take sz).length)) :=by
   funext i
   rw [ht]
   congr 2
   omega
  rw [e]
  exact h2

theorem rl_const {z:List C} {zc:List Value} {sz:Nat} (hz:∀ w Z,RL w Z z (fun j =>zc[j]?) []) (hl:z.length = sz) (hs:0 < sz) (hzc:zc.length = sz):∀ (n:Nat) {get:Nat→Option Value},(∀ i,i < n * sz→get i = zc[i % sz]?)→RL w Z (List.replicate n z).flatten get []
 | 0,_,_ =>rfl
 | n + 1,get,h =>by
  rw [List.replicate_succ,List.flatten_cons]
  refine RL.append (F :=[]) (G :=[]) (RL.same (w' :=w) (fun _ h =>h) z (hz w Z) (fun _ _ =>rfl) (fun i hi =>?_)) (rl_const hz hl hs hzc n (fun i hi =>?_))
  ·have h1:i < (n + 1) * sz :=by rw [Nat.add_mul,Nat.one_mul]; omega
   rw [h i h1,Nat.mod_eq_of_lt (by omega)]
  ·have h1:i + z.length < (n + 1) * sz :=by rw [Nat.add_mul,Nat.one_mul]; omega
   rw [h _ h1,hl,Nat.add_mod_right]

theorem rowsOf_length (sz:Nat):∀ (n:Nat) (cs:List C),(rowsOf sz n cs).length = n
 | 0,_ =>rfl
 | n + 1,cs =>by simp [rowsOf,rowsOf_length sz n]

theorem buildSlice_runs (hT:TOk P E) (h:Inv w Z (Act.tm a) s fp) {call:Sem1} {t:TypeId} {n:Nat} {parts:Array (Nat × Operand)} {s':St} {r:S} (he:ev1 E call ty s (.buildSlice t n parts) = some (s',r)) :
  Runs P a (.buildSlice t n parts) ty w (Brings w Z (Act.tm a) fp s' r) :=by
 obtain ⟨i,hi,he⟩ :=bE.1 (show bnd (E.T t) _ = some (s',r) from he)
 obtain ⟨e,hel,he⟩ :=bE.1 he
 obtain ⟨j,hj,he⟩ :=bE.1 he
 obtain ⟨q,hq,he⟩ :=bE.1 he
 obtain ⟨cs,hcs,he⟩ :=bE.1 he
 rcases tE.1 he with ⟨hn,he⟩ | ⟨_,he⟩
 case inr =>cases he
 simp at he hn
 obtain ⟨rfl,rfl⟩ :=he
 obtain ⟨s1,zs⟩ :=q
 obtain ⟨fp1,F,i1,hP,n1,m1,a1,u1,f1⟩ :=takeAll_rep hT h hq
 have hun :=slc_under hT hi hel
 obtain ⟨inf,z,h1,h2,h3,h4,h5,h6,h7⟩ :=zero_of hT hj
 have hsz :=(hT _ _ hj).size
 have hsm :=(hT _ _ hj).small
 have hz0:(List.replicate n j.zero).flatten.length = n * j.size :=by simp [h6]
 have hmsz:(madeCells z.cells (n * j.size)).size = n * j.size :=size_madeCells _ _
 obtain ⟨cells',G',g1,g2,g3,g4,g5,g6⟩ :=fill_lay (place' :=fun f =>some (f * j.size,j.size)) (cells :=madeCells z.cells (n * j.size)) (fun f q hq =>hq) hP (by rw [hz0,hmsz])
  (rl_const h7 h6 hsz (by simpa using h5) n (fun k hk =>by rw [getElem?_madeCells (by omega) hk,h5])) hcs
 have hn2:n * j.size≤1000 * 4096 :=Nat.mul_le_mul (by omega) hsm
 have hrun:(Instr.buildSlice t n (parts.map fun (i,x) =>(i,a.eval x))).run P w = .ok (.slice (some ⟨w.heap.size,0,none⟩) n n) (w.alloc (.cells cells'.toList.toArray e)) :=by
  have hfe:Instr.fill (fun i =>some (i * inf.size,inf.size)) ((Array.range (n * inf.size)).map (z.cells[· % z.cells.size]!)) (parts.map fun (i,x) =>(i,a.eval x)).toList = some cells' :=by
   rw [h2,← g1]
   simp [madeCells]
  by_cases h0:n * j.size = 0
  ·have hn0:n = 0 :=by
    rcases Nat.mul_eq_zero.1 h0 with h | h
    ·exact h
    ·omega
   subst hn0
   simp only [h2] at hfe
   simp [Array.range_zero'] at hfe
   simp [Instr.buildSlice,run_underlying hun,sizeOf,typeInfo,h1,h2,newRow,hfe,Array.range_zero']
  ·rw [run_buildSlice w t e n _ cells' inf z hun h1 h4 (by rw [h2]; omega) (by rw [h2]; exact h0) hfe]
 have g :=grown_alloc w cells'.toList e
 have hG'F:∀ c ∈ G',c ∈ F :=fun c hc =>(g5 c hc).elim (fun h =>by cases h) id
 refine ⟨.slice (some ⟨w.heap.size,0,none⟩) n n,_,⟨Z,fp1,_,Done.grown (F :=G') g i1 (g6 (by simpa using n1)) (fun c hc =>m1 c (hG'F c hc)) (fun t c hc =>a1 t c (hG'F c hc)) (fun c hc =>?_) (fun hinv =>?_) trivial⟩,fun o q1 q2 =>.inl (by simp only [execOp,q1,Sem.run_bind,hrun,Result.andThen_ok,Sem.run_pure])⟩
 ·rcases hc with hc | ⟨t,hc⟩
  ·exact f1 c (hG'F c hc)
  ·exact ⟨t,u1 t c hc⟩
 ·rw [show cells'.toList.length = n * j.size by rw [Array.length_toList,g2,hz0]]
  refine rep_new (rowsOf_length _ _ _) (rrs_of_rl (by rw [g3,hz0]) ?_)
  refine RL.same (fun _ h =>h) cs g4 (g.goes.same (fun c hc =>⟨hc.elim (fun hc =>(m1 c (hG'F c hc)).1) (i1.zok c),fun h =>h⟩)) (fun k _ =>?_)
  rw [Nat.zero_add,g.cell]
end
end Go.Sx

/- append; conversions. -/
namespace Go.Sx
section
variable {P:Program} {E:Env} {w:World} {Z:CA→Prop} {a:Act} {s:St} {fp:Tmp→List CA} {ty:TypeId}

theorem RRs.move {w w':World} {Z Z':CA→Prop} (hZ:∀ c,Z c→Z' c):∀ {rows:List (List C)} {sz b o b' o':Nat} {F:List CA},RRs w Z rows sz b o F→Same w w' F Z →
  (∀ i,i < rows.length * sz→cell w' (b',o' + i) = cell w (b,o + i))→RRs w' Z' rows sz b' o' F
 | [],_,_,_,_,_,_,h,_,_ =>h
 | r :: rs,sz,b,o,b',o',F,h,hs,hc =>by
  obtain ⟨hl,F1,F2,h1,h2,hF⟩ :=h
  subst hF
  have e:(r :: rs).length * sz = sz + rs.length * sz :=by simp [Nat.add_mul,Nat.add_comm]
  refine ⟨hl,F1,F2,RL.same hZ r h1 hs.left (fun i hi =>hc i (by omega)),RRs.move hZ h2 hs.right (fun i hi =>?_),rfl⟩
  have :=hc (sz + i) (by omega)
  rw [← Nat.add_assoc,← Nat.add_assoc] at this
  exact this

theorem RRs.values {w:World} {Z:CA→Prop}:∀ {rows:List (List C)} {sz b o:Nat} {F:List CA},RRs w Z rows sz b o F →
  ∃ vs:List Value,vs.length = rows.length * sz∧(∀ i,i < rows.length * sz→cell w (b,o + i) = vs[i]?)∧∀ v ∈ vs,v.oneCell' = true
 | [],sz,b,o,F,h =>⟨[],by simp,by simp,by simp⟩
 | r :: rs,sz,b,o,F,h =>by
  obtain ⟨hl,F1,F2,h1,h2,hF⟩ :=h
  obtain ⟨vs,v1,v2,v3⟩ :=h1.values
  obtain ⟨us,u1,u2,u3⟩ :=RRs.values h2
  have e:(r :: rs).length * sz = sz + rs.length * sz :=by simp [Nat.add_mul,Nat.add_comm]
  refine ⟨vs ++ us,by rw [List.length_append,v1,u1,e,hl],fun i hi =>?_,fun v hv =>(List.mem_append.1 hv).elim (v3 v) (u3 v)⟩
  by_cases h:i < sz
  ·rw [List.getElem?_append_left (by omega)]
   exact v2 i (by omega)
  ·rw [List.getElem?_append_right (by omega),v1,hl,← u2 (i - sz) (by omega)]
   congr 2
   omega

theorem RRs.freeRows {w:World} {Z:CA→Prop}:∀ {rows:List (List C)} {sz b o:Nat} {F:List CA},RRs w Z rows sz b o F→allFreeRows rows = true→F = []
 | [],_,_,_,_,h,_ =>h
 | r :: rs,sz,b,o,F,h,hf =>by
  obtain ⟨hl,F1,F2,h1,h2,hF⟩ :=h
  simp [allFreeRows] at hf
  rw [hF,h1.free hf.1,RRs.freeRows h2 hf.2]
  rfl

structure Src (w:World) (Z:CA→Prop) (v:Value) (sz:Nat) (rows:List (List C)) (vs:List Value) (G:List CA):Prop where
 len:vs.length = rows.length * sz
 one:∀ u ∈ vs,u.oneCell' = true
 val:∃ ad cap,v = .slice ad rows.length cap∧rows.length≤cap∧(rows = []∨∃ b o,ad = some ⟨b,o,none⟩∧∀ i,i < rows.length * sz→cell w (b,o + i) = vs[i]?)
 rows:∀ (w':World) (b' o':Nat),Same w w' G Z→(∀ i,i < rows.length * sz→cell w' (b',o' + i) = vs[i]?)→RRs w' Z rows sz b' o' G

theorem Src.of {w:World} {Z:CA→Prop} {v:Value} {f:Fl} {sz:Nat} {rows:List (List C)} {F:List CA} (h:RC w Z (.sl f sz rows) v F):∃ vs G,Src w Z v sz rows vs G∧G.Sublist F∧(allFreeRows rows = true→G = []) :=by
 obtain ⟨ad,cap,hv,hle,h⟩ :=h
 have nil:rows = []→∃ vs G,Src w Z v sz rows vs G∧G.Sublist F∧(allFreeRows rows = true→G = []) :=by
  intro e
  subst e
  exact ⟨[],[],⟨by simp,by simp,⟨ad,cap,hv,hle,.inl rfl⟩,fun _ _ _ _ _ =>rfl⟩,List.nil_sublist _,fun _ =>rfl⟩
 have full:∀ {b o:Nat} {G:List CA},ad = some ⟨b,o,none⟩→RRs w Z rows sz b o G→G.Sublist F→∃ vs G,Src w Z v sz rows vs G∧G.Sublist F∧(allFreeRows rows = true→G = []) :=by
  intro b o G had hr hs
  obtain ⟨vs,h1,h2,h3⟩ :=hr.values
  exact ⟨vs,G,⟨h1,h3,⟨ad,cap,hv,hle,.inr ⟨b,o,had,h2⟩⟩,fun w' b' o' hsame hc =>hr.move (fun _ h =>h) hsame (fun i hi =>by rw [hc i hi,h2 i hi])⟩,hs,fun hf =>hr.freeRows hf⟩
 rcases h with ⟨_,hF,hs⟩ | ⟨_,hs⟩
 ·rcases hs with hs | ⟨b,o,had,hr,_⟩
  ·exact nil hs
  ·exact full had hr (List.nil_sublist _)
 ·rcases hs with ⟨_,hs,_⟩ | ⟨b,o,G,had,⟨hr,_⟩,hF⟩
  ·exact nil hs
  ·exact full had hr (by rw [hF]; exact List.sublist_append_right _ _)

theorem run_append (hT:TOk P E) {t e:TypeId} {i j:TI} (hi:E.T t = some i) (he:i.k.elem = some e) (hj:E.T e = some j) {vx vy:Value} {xrows yrows:List (List C)} {Fx:List CA} {ws:List Value} {Gy:List CA}
  (hx:RC w Z (.sl .own j.size xrows) vx Fx) (hm:∀ c ∈ Fx,Mine w Z c) (hndx:Fx.Nodup) (hy:Src w Z vy j.size yrows ws Gy) (hGm:∀ c ∈ Gy,Mine w Z c) (hyx:∀ c ∈ Fx,c ∉ Gy) (hndy:Gy.Nodup) (hzo:∀ c,Z c→(gcell w c).isSome = true) (hlim:xrows.length + yrows.length < LIM) :
  ∃ v w' F,(Builtin.append_ #[t,t] ty #[vx,vy]).run P w = .ok v w'∧Goes w w' (fun c =>c ∈ Fx)∧RC w' Z (.sl .own j.size (xrows ++ yrows)) v F∧F.Nodup∧(∀ c ∈ F,Mine w' Z c)∧∀ c ∈ F,c ∈ Fx∨c ∈ Gy∨w.heap.size≤c.1 :=by
 have hun :=slc_under hT hi he
 obtain ⟨inf,z,h1,h2,h3,h4,h5,h6,h7⟩ :=zero_of hT hj
 have hby :=(hT _ _ hj).bytes
 have hsz :=(hT _ _ hj).size
 obtain ⟨ady,capy,hvy,hley,hy2⟩ :=hy.val
 obtain ⟨adx,capx,hvx,hlex,hx2⟩ :=hx
 rcases hx2 with ⟨hb,_⟩ | ⟨_,hx2⟩
 ·cases hb
 simp only [LIM] at hlim
 by_cases hy0:yrows = []
 ·-- nothing to append
  subst hy0
  refine ⟨vx,w,Fx,?_,Goes.refl _ _,by rw [List.append_nil]; exact ⟨adx,capx,hvx,hlex,.inr ⟨by simp,hx2⟩⟩,hndx,hm,fun c hc =>.inl hc⟩
  rw [hvx,hvy]
  have hl0:∀ ad,(loadCells ad 0).run P w = .ok #[] w :=fun ad =>run_loadCells_list w ad [] (by simp)
  cases adx <;> cases ady <;> simp [Builtin.append_,run_underlying hun,sizeOf,typeInfo,h1,Builtin.lenOf,hlex,Builtin.firstCells,storeCells,hl0]
 -- something to append
 rcases hy2 with hy2 | ⟨yb,yo,hady,hyc⟩
 ·exact absurd hy2 hy0
 have hypos:0 < yrows.length :=List.length_pos_iff.2 hy0
 subst hady
 have hnews:∀ k v,ws[k]? = some v→w.cell? ((⟨yb,yo,none⟩:Addr).add k) = some v :=by
  intro k v hk
  have hlt:k < ws.length :=by
   rcases Nat.lt_or_ge k ws.length with h | h
   ·exact h
   ·simp [List.getElem?_eq_none h] at hk
  have :=hyc k (by rw [← hy.len]; exact hlt)
  rw [hk] at this
  rw [Addr.add_lit]
  exact this
 have hwl:ws.length = yrows.length * inf.size :=by rw [h2]; exact hy.len
 have hbytes:(xrows.length + yrows.length) * inf.bytes≤140737488355328 :=by
  have h8:(xrows.length + yrows.length) * inf.bytes≤4294967296 * 32768 :=Nat.mul_le_mul (by omega) (by omega)
  omega
 have hGyold:∀ c ∈ Gy,c.1 < w.heap.size :=fun c hc =>cell_lt (hGm c hc).1
 -- the arm that grows
 have grow:∀ (G:List CA) (olds:List Value),olds.length = xrows.length * j.size→(∀ c ∈ G,c ∈ Fx)→G.Nodup→(∀ (w':World) (b' o':Nat),Same w w' G Z→(∀ i,i < xrows.length * j.size→cell w' (b',o' + i) = olds[i]?)→RRs w' Z xrows j.size b' o' G) →
   ∀ cap,xrows.length + yrows.length≤cap→(Builtin.append_ #[t,t] ty #[vx,vy]).run P w = .ok (.slice (some ⟨w.heap.size,0,none⟩) (xrows.length + yrows.length) cap) (w.drew.alloc (.cells (olds ++ ws ++ (Builtin.zeroCells z.cells (cap - (xrows.length + yrows.length))).toList).toArray e)) →
   ∃ v w' F,(Builtin.append_ #[t,t] ty #[vx,vy]).run P w = .ok v w'∧Goes w w' (fun c =>c ∈ Fx)∧RC w' Z (.sl .own j.size (xrows ++ yrows)) v F∧F.Nodup∧(∀ c ∈ F,Mine w' Z c)∧∀ c ∈ F,c ∈ Fx∨c ∈ Gy∨w.heap.size≤c.1 :=by
  intro G olds hol hGF hGn hGr cap hcap hrun
  let cs :=olds ++ ws ++ (Builtin.zeroCells z.cells (cap - (xrows.length + yrows.length))).toList
  have g :=grown_drew w cs e
  have hcl:cs.length = cap * j.size :=by
   have:cs.length = xrows.length * j.size + yrows.length * j.size + (cap - (xrows.length + yrows.length)) * j.size :=by
    simp [cs,hol,hy.len,size_zeroCells,h5]
    omega
   rw [this,← Nat.add_mul,← Nat.add_mul]
   congr 1
   omega
  refine ⟨_,_,span (w.heap.size,0) (cap * j.size) ++ (G ++ Gy),hrun,g.goes.mono (fun _ h =>h.elim),?_,?_,?_,?_⟩
  ·refine ⟨some ⟨w.heap.size,0,none⟩,cap,by simp,by simp; omega,.inr ⟨by simp,.inr ⟨w.heap.size,0,G ++ Gy,rfl,⟨?_,fun c hc =>?_⟩,rfl⟩⟩⟩
   case refine_2 =>
    obtain ⟨c1,c2⟩ :=c
    rw [mem_span] at hc
    simp only [Nat.zero_add] at hc
    obtain ⟨rfl,_,h8⟩ :=hc
    have :=g.cell c2
    rw [List.getElem?_eq_getElem (by omega)] at this
    show (cell (w.drew.alloc (.cells cs.toArray e)) (w.heap.size,c2)).isSome = true
    rw [this]
    rfl
   refine RRs.append (hGr _ _ _ (g.goes.same (fun c hc =>⟨hc.elim (fun hc =>(hm c (hGF c hc)).1) (hzo c),fun h =>h⟩)) (fun k hk =>?_)) (hy.rows _ _ _ (g.goes.same (fun c hc =>⟨hc.elim (fun hc =>(hGm c hc).1) (hzo c),fun h =>h⟩)) (fun k hk =>?_))
   ·rw [Nat.zero_add,g.cell]
    simp only [cs]
    rw [List.append_assoc,List.getElem?_append_left (by omega)]
   ·rw [Nat.zero_add,g.cell]
    simp only [cs]
    rw [List.append_assoc,List.getElem?_append_right (by omega),List.getElem?_append_left (by rw [hol,hy.len]; omega)]
    congr 1
    omega
  ·rw [List.nodup_append]
   refine ⟨span_nodup _ _,?_,fun c hc d hd e =>?_⟩
   ·rw [List.nodup_append]
    exact ⟨hGn,hndy,fun c hc d hd e =>by subst e; exact hyx c (hGF c hc) hd⟩
   ·subst e
    rw [mem_span] at hc
    simp only at hc
    rcases List.mem_append.1 hd with hd | hd
    ·have :=cell_lt (hm c (hGF c hd)).1
     omega
    ·have :=hGyold c hd
     omega
  ·intro c hc
   rcases List.mem_append.1 hc with hc | hc
   ·obtain ⟨c1,c2⟩ :=c
    rw [mem_span] at hc
    simp only [Nat.zero_add] at hc
    obtain ⟨rfl,_,h8⟩ :=hc
    refine ⟨?_,g.fro c2 (by omega),fun hz =>Nat.lt_irrefl _ (cell_lt (hzo _ hz))⟩
    exact gcell_some (by rw [g.cell,List.getElem?_eq_getElem (by omega)]; rfl)
   ·rcases List.mem_append.1 hc with hc | hc
    ·exact (hm c (hGF c hc)).goes g.goes
    ·exact (hGm c hc).goes g.goes
  ·intro c hc
   rcases List.mem_append.1 hc with hc | hc
   ·rw [mem_span] at hc
    simp only at hc
    omega
   ·rcases List.mem_append.1 hc with hc | hc
    ·exact .inl (hGF c hc)
    ·exact .inr (.inl hc)
 rcases hx2 with ⟨hadx,hxr,hcx,hFx⟩ | ⟨b,o,G,hadx,⟨hr,hreal⟩,hFx⟩
 ·-- nil
  subst hadx hxr hcx
  refine grow [] [] (by simp) (by simp) List.nodup_nil (fun _ _ _ _ _ =>rfl) (grownCap w yrows.length 0 e) (by simpa using grownCap_ge w yrows.length 0 e) ?_
  have hr :=run_append_nil (P :=P) w t ty e inf z hun h1 h4 ⟨yb,yo,none⟩ yrows.length capy ws hwl hnews hypos (by simp at hlim; omega) (by simp at hbytes; omega)
  rw [hvx,hvy]
  simp only [List.length_nil,Nat.zero_add,List.nil_append]
  rw [hr]
  congr 3
  apply Array.ext'
  simp
 ·subst hadx
  obtain ⟨olds,o1,o2,o3⟩ :=hr.values
  by_cases hroom:xrows.length + yrows.length≤capx
  ·-- room
   have hspan:∀ k,k < ws.length→(b,o + xrows.length * inf.size + k) ∈ span (b,o) (capx * j.size) :=by
    intro k hk
    rw [mem_span]
    refine ⟨rfl,by simp only; omega,?_⟩
    have h9:(xrows.length + yrows.length) * j.size≤capx * j.size :=Nat.mul_le_mul_right _ hroom
    rw [Nat.add_mul] at h9
    rw [hwl,h2] at hk
    simp only [h2]
    omega
   have hmem:∀ k,k < ws.length→(b,o + xrows.length * inf.size + k) ∈ Fx :=fun k hk =>by rw [hFx]; exact List.mem_append_left _ (hspan k hk)
   have hrun :=run_append_room_cells (P :=P) w t ty e inf hun h1 b o xrows.length capx ⟨yb,yo,none⟩ yrows.length capy ws hwl hnews hy.one hroom (fun k hk =>hreal _ (hspan k hk)) (fun k hk =>(hm _ (hmem k hk)).2.1)
   have hsub:∀ c ∈ span (b,o + xrows.length * inf.size) ws.length,c ∈ Fx :=by
    rintro ⟨c1,c2⟩ hc
    rw [mem_span] at hc
    simp only at hc
    obtain ⟨rfl,h8,h9⟩ :=hc
    have :=hmem (c2 - (o + xrows.length * inf.size)) (by omega)
    rw [show o + xrows.length * inf.size + (c2 - (o + xrows.length * inf.size)) = c2 by omega] at this
    exact this
   have hspan2:∀ c ∈ span (b,o + xrows.length * inf.size) ws.length,c ∈ span (b,o) (capx * j.size) :=by
    rintro ⟨c1,c2⟩ hc
    rw [mem_span] at hc
    simp only at hc
    obtain ⟨rfl,h8,h9⟩ :=hc
    have :=hspan (c2 - (o + xrows.length * inf.size)) (by omega)
    rw [show o + xrows.length * inf.size + (c2 - (o + xrows.length * inf.size)) = c2 by omega] at this
    exact this
   have hgo :=goes_setCells b (fun c =>c ∈ Fx) ws (o + xrows.length * inf.size) w (fun c hc =>hreal c (hspan2 c hc)) hsub
   have hnd :=hndx
   rw [hFx,List.nodup_append] at hnd
   have hoff:∀ {K:List CA},(∀ c ∈ K,c ∉ span (b,o + xrows.length * inf.size) ws.length)→Same w (w.setCells b (o + xrows.length * inf.size) ws) K Z :=fun hK c hc =>gcell_setCells_off b ws _ w c (fun hs =>hc.elim (fun hc =>hK c hc hs) (fun hz =>(hm c (hsub c hs)).2.2 hz))
   refine ⟨_,_,span (b,o) (capx * j.size) ++ (G ++ Gy),by rw [hvx,hvy]; exact hrun,hgo,?_,?_,?_,?_⟩
   ·refine ⟨some ⟨b,o,none⟩,capx,by simp,by simp; omega,.inr ⟨by simp,.inr ⟨b,o,G ++ Gy,rfl,⟨?_,fun c hc =>hgo.real c (hreal c hc)⟩,rfl⟩⟩⟩
    refine RRs.append (hr.move (fun _ h =>h) (hoff (fun c hc hs =>hnd.2.2 c (hspan2 c hs) c hc rfl)) (fun k hk =>?_)) (hy.rows _ _ _ (hoff (fun c hc hs =>hyx c (hsub c hs) hc)) (fun k hk =>?_))
    ·refine cell_setCells_off b ws _ w _ (fun hs =>?_)
     rw [mem_span] at hs
     simp only [h2] at hs
     omega
    ·rw [← h2]
     rw [← hy.len] at hk
     rw [List.getElem?_eq_getElem hk]
     exact cell_setCells_in b ws _ w (fun c hc =>hreal c (hspan2 c hc)) k _ (List.getElem?_eq_getElem hk)
   ·rw [List.nodup_append]
    refine ⟨hnd.1,?_,fun c hc d hd e =>?_⟩
    ·rw [List.nodup_append]
     exact ⟨hnd.2.1,hndy,fun c hc d hd e =>by subst e; exact hyx c (by rw [hFx]; exact List.mem_append_right _ hc) hd⟩
    ·subst e
     rcases List.mem_append.1 hd with hd | hd
     ·exact hnd.2.2 c hc c hd rfl
     ·exact hyx c (by rw [hFx]; exact List.mem_append_left _ hc) hd
   ·intro c hc
    rcases List.mem_append.1 hc with hc | hc
    ·exact (hm c (by rw [hFx]; exact List.mem_append_left _ hc)).goes hgo
    ·rcases List.mem_append.1 hc with hc | hc
     ·exact (hm c (by rw [hFx]; exact List.mem_append_right _ hc)).goes hgo
     ·exact (hGm c hc).goes hgo
   ·intro c hc
    rcases List.mem_append.1 hc with hc | hc
    ·exact .inl (by rw [hFx]; exact List.mem_append_left _ hc)
    ·rcases List.mem_append.1 hc with hc | hc
     ·exact .inl (by rw [hFx]; exact List.mem_append_right _ hc)
     ·exact .inr (.inl hc)
  ·-- it grows
   have hnd :=hndx
   rw [hFx,List.nodup_append] at hnd
   refine grow G olds o1 (fun c hc =>by rw [hFx]; exact List.mem_append_right _ hc) hnd.2.1 (fun w' b' o' hs hc =>hr.move (fun _ h =>h) hs (fun k hk =>by rw [hc k hk,o2 k hk])) (grownCap w (xrows.length + yrows.length) capx e) (grownCap_ge w _ _ e) ?_
   have holds:∀ k v,olds[k]? = some v→w.cell? ((⟨b,o,none⟩:Addr).add k) = some v :=by
    intro k v hk
    have hlt:k < olds.length :=by
     rcases Nat.lt_or_ge k olds.length with h | h
     ·exact h
     ·simp [List.getElem?_eq_none h] at hk
    have :=o2 k (by rw [← o1]; exact hlt)
    rw [hk] at this
    rw [Addr.add_lit]
    exact this
   have hr2 :=run_append_grow (P :=P) w t ty e inf z hun h1 h4 ⟨b,o,none⟩ xrows.length capx olds (by rw [h2]; exact o1) holds ⟨yb,yo,none⟩ yrows.length capy ws hwl hnews (by omega) (by omega) (growslice_fits (by omega) hbytes)
   rw [hvx,hvy,hr2]
   congr 3
   apply Array.ext'
   simp

theorem cells_src {u:S} {v:Value} {b:Bool} {ys:List C} {c:C} {y:Fl × Nat × List (List C)} (h:Inv w Z (Act.tm a) s fp) (hu:Rep w Z s.sl (Act.tm a) v [] u) (hc:cells s u = some (b,ys)) (ho:one1 b ys = some c) (hy:asSl c = some y)
  (hfr:allFreeRows y.2.2 = true):∃ ws,Src w Z v y.2.1 y.2.2 ws [] :=by
 obtain ⟨vs,F,hp,hl,hr,_,_⟩ :=cells_rep h hu hc
 obtain ⟨rfl,rfl⟩ :=one1_eq ho
 obtain ⟨_,hrc⟩ :=packs_one hp hl hr
 rw [asSl_eq hy] at hrc
 obtain ⟨ws,G,hs,_,hg⟩ :=Src.of hrc
 have :=hg hfr
 subst this
 exact ⟨ws,hs⟩

theorem rep_after {tm:Tmp→Value} {u u0:S} {v:Value} {q q2:St × Bool × List C} (hl:u.linksLt s.cnt) (hu:Rep w Z s.sl tm v [] u) (ht:take s u0 = some q) (h2:take q.1 u = some q2):Rep w Z q.1.sl tm v [] u :=by
 cases u with
 | val g b cs =>exact hu
 | lnk r k off n b el win =>
  rcases take_look ht with e | ⟨r',cs',e,_⟩
  ·rw [e]; exact hu
  ·refine ⟨rfl,fun cs hroot =>?_⟩
   rw [e,look_upd] at hroot ⊢
   by_cases hr:r' = r
   ·subst hr
    rw [if_pos rfl] at hroot
    have :=with_rootL hroot
    have:k < s.cnt :=hl
    omega
   ·rw [if_neg hr] at hroot ⊢
    exact hu.2 cs hroot
 | _ =>simp [takeW] at h2

theorem RC.pieces {w:World} {Z:CA→Prop} {u:Value} {sz k lo m:Nat} {rows:List (List C)} {F:List CA} (h:RC w Z (.sl .own sz rows) u F) (hnd:F.Nodup) (hk:k≤lo) (hm:lo + m≤rows.length) :
  ∃ Fx Gy ws,RC w Z (.sl .own sz (rows.take k)) (cutV 0 k sz u) Fx∧Src w Z (cutV lo m sz u) sz ((rows.drop lo).take m) ws Gy∧(∀ c ∈ Fx,c ∈ F)∧(∀ c ∈ Gy,c ∈ F)∧Fx.Nodup∧Gy.Nodup∧∀ c ∈ Fx,c ∉ Gy :=by
 obtain ⟨ad,cap,hv,hle,h⟩ :=h
 subst hv
 have hlk:(rows.take k).length = k :=by rw [List.length_take]; omega
 have hlm:((rows.drop lo).take m).length = m :=by rw [List.length_take,List.length_drop]; omega
 rcases h with ⟨hf,_⟩ | ⟨_,h⟩
 ·cases hf
 rcases h with ⟨had,hr,hc,hF⟩ | ⟨b,o,G,had,⟨hr,hreal⟩,hF⟩
 ·subst had hr hc hF
  simp at hm
  obtain ⟨rfl,rfl⟩ :=hm
  have hk0:k = 0 :=by omega
  subst hk0
  refine ⟨[],[],[],?_,⟨by simp,by simp,⟨none,0,by simp [cutV],by simp,.inl (by simp)⟩,fun _ _ _ _ _ =>rfl⟩,by simp,by simp,List.nodup_nil,List.nodup_nil,by simp⟩
  exact ⟨none,0,by simp [cutV],by simp,.inr ⟨by simp,.inl ⟨rfl,by simp,rfl,rfl⟩⟩⟩
 ·subst had hF
  have e1:rows = rows.take k ++ ((rows.drop k).take (lo - k) ++ ((rows.drop lo).take m ++ rows.drop (lo + m))) :=by
   have h1:rows.drop lo = (rows.drop k).drop (lo - k) :=by rw [List.drop_drop]; congr 1; omega
   have h2:rows.drop (lo + m) = (rows.drop lo).drop m :=by rw [List.drop_drop]
   rw [h2,List.take_append_drop,h1,List.take_append_drop,List.take_append_drop]
  rw [e1] at hr
  obtain ⟨G1,G2,r1,r2,hG⟩ :=RRs.split hr
  obtain ⟨G3,G4,r3,r4,hG2⟩ :=RRs.split r2
  obtain ⟨G5,G6,r5,r6,hG4⟩ :=RRs.split r4
  have hlen3:((rows.drop k).take (lo - k)).length = lo - k :=by rw [List.length_take,List.length_drop]; omega
  rw [hlk,hlen3] at r5
  have eo:o + k * sz + (lo - k) * sz = o + lo * sz :=by rw [Nat.add_assoc,← Nat.add_mul]; congr 2; omega
  rw [eo] at r5
  subst hG4 hG2 hG
  rw [List.nodup_append] at hnd
  obtain ⟨n1,n2,n3⟩ :=hnd
  rw [List.nodup_append] at n2
  obtain ⟨n4,n5,n6⟩ :=n2
  rw [List.nodup_append] at n5
  obtain ⟨n7,n8,n9⟩ :=n5
  rw [List.nodup_append] at n8
  obtain ⟨n10,_,_⟩ :=n8
  have m5:∀ c ∈ G5,c ∈ G1 ++ (G3 ++ (G5 ++ G6)) :=fun c hc =>List.mem_append_right _ (List.mem_append_right _ (List.mem_append_left _ hc))
  obtain ⟨ws,w1,w2,w3⟩ :=r5.values
  refine ⟨span (b,o) (cap * sz) ++ G1,G5,ws,⟨some ⟨b,o,none⟩,cap,?_,by rw [hlk]; omega,.inr ⟨by simp,.inr ⟨b,o,G1,rfl,⟨r1,hreal⟩,rfl⟩⟩⟩,⟨w1,w3,?_,fun w' b' o' hsame hc =>r5.move (fun _ h =>h) hsame (fun i hi =>by rw [hc i hi,w2 i hi])⟩,?_,?_,?_,n10,?_⟩
  ·rw [hlk]
   simp only [cutV,Nat.sub_zero,Nat.zero_mul]
   split <;> simp [Addr.add_lit]
  ·rw [hlm]
   by_cases hcl:cap = lo
   ·exact ⟨some ⟨b,o,none⟩,cap - lo,by simp only [cutV,if_pos hcl],by omega,.inl (List.eq_nil_of_length_eq_zero (by rw [hlm]; omega))⟩
   ·exact ⟨some ⟨b,o + lo * sz,none⟩,cap - lo,by simp only [cutV,if_neg hcl,Option.map_some,Addr.add_lit],by omega,.inr ⟨b,o + lo * sz,rfl,by rw [hlm] at w2; exact w2⟩⟩
  ·intro c hc
   rcases List.mem_append.1 hc with hc | hc
   ·exact List.mem_append_left _ hc
   ·exact List.mem_append_right _ (List.mem_append_left _ hc)
  ·exact fun c hc =>List.mem_append_right _ (m5 c hc)
  ·rw [List.nodup_append]
   exact ⟨n1,n4,fun c hc d hd =>n3 c hc d (List.mem_append_left _ hd)⟩
  ·intro c hc hg
   rcases List.mem_append.1 hc with hc | hc
   ·exact n3 c hc c (m5 c hg) rfl
   ·exact n6 c hc c (List.mem_append_right _ (List.mem_append_left _ hg)) rfl

theorem asWin_eq {v:S} {p:Tmp × Nat × Nat × Nat × Nat} (h:v.asWin = some p):v = .lnk p.1 p.2.1 p.2.2.1 1 false none (some p.2.2.2) :=by
 cases v with
 | lnk r g off n a el win =>
  cases el with
  | some e =>cases h
  | none =>
   cases win with
   | none =>cases h
   | some lw =>
    rcases tE.1 (show tst (decide (n = 1) && !a) _ none = some p from h) with ⟨hc,h2⟩ | ⟨_,h2⟩
    case inr =>cases h2
    clear h
    simp at hc h2
    obtain ⟨rfl,rfl⟩ :=hc
    subst h2
    rfl
 | _ =>cases h

theorem appendJ_runs (hT:TOk P E) (h:Inv w Z (Act.tm a) s fp) {x y:Operand} {t e:TypeId} {i j:TI} (hi:E.T t = some i) (hel:i.k.elem = some e) (hj:E.T e = some j) {vx vy:S} (hvx:rd E t s x = some vx) (hvy:rd E t s y = some vy) {s':St} {r:S}
  (he:appendJ s j.size vx vy = some (s',r)) :
  Runs P a (.call { callee :=.builtin .append,args :=#[x,y],argTypes :=#[t,t] }) ty w (Brings w Z (Act.tm a) fp s' r) :=by
 obtain ⟨p,hp,he⟩ :=bE.1 he
 obtain ⟨q,hq,he⟩ :=bE.1 he
 rcases tE.1 he with ⟨hc,he⟩ | ⟨_,he⟩
 case inr =>cases he
 obtain ⟨t1,ht,he⟩ :=bE.1 he
 obtain ⟨c,hc1,he⟩ :=bE.1 he
 obtain ⟨xx,hxx,he⟩ :=bE.1 he
 rcases tE.1 he with ⟨hd,he⟩ | ⟨_,he⟩
 case inr =>cases he
 simp at he
 obtain ⟨hs',hr'⟩ :=he
 subst hs' hr'
 have ex :=asWin_eq hp
 have ey :=asWin_eq hq
 obtain ⟨pr,ph,po,plo,pk⟩ :=p
 obtain ⟨qr,qh,qo,qlo,qm⟩ :=q
 simp only [Bool.and_eq_true,decide_eq_true_eq] at hc hd ht ex ey ⊢
 obtain ⟨rfl,rfl,rfl,rfl⟩ :=hc
 obtain ⟨hown,hsz,hk,hm,hlim⟩ :=hd
 obtain ⟨rvx,_⟩ :=rd_rep hT h hvx
 obtain ⟨rvy,_⟩ :=rd_rep hT h hvy
 rw [ex] at rvx
 rw [ey] at rvy
 obtain ⟨s1,bx,xs⟩ :=t1
 -- the whole slice
 obtain ⟨cs,hroot,ht2⟩ :=bE.1 (show bnd _ _ = some (s1,bx,xs) from ht)
 obtain ⟨⟨xs1,hg1⟩,vs1,l1,p1,w1⟩ :=rvx.2 cs hroot
 obtain ⟨_,vs2,l2,p2,w2⟩ :=rvy.2 cs hroot
 simp only at w1 w2
 obtain ⟨_,u,f1,sz1,rows1,hu1,g1,b1,hx1⟩ :=w1
 obtain ⟨_,u2,f2,sz2,rows2,hu2,g2,b2,hy1⟩ :=w2
 rw [g1] at g2
 simp at g2
 obtain ⟨rfl,rfl,rfl⟩ :=g2
 have huu:u2 = u :=by
  have a1 :=p1 0 (by omega)
  have a2 :=p2 0 (by omega)
  rw [hu1] at a1
  rw [hu2] at a2
  rw [a1] at a2
  simpa using a2.symm
 subst huu
 have hone:u2.oneCell' = true :=by
  obtain ⟨G,hRL,_⟩ :=(h.rep pr).root (rootL_root hroot).1
  obtain ⟨pre,post,hcs0,hpre,_⟩ :=getP_none g1
  have h0 :=p1 0 (by omega)
  rw [hu1] at h0
  simp only [pget,Nat.add_zero,List.getElem?_cons_zero] at h0
  rw [hcs0] at hRL
  obtain ⟨_,_,_,hR2,_⟩ :=RL.split hRL
  obtain ⟨v0,_,_,e0,hc0,_⟩ :=hR2
  rw [hpre] at e0
  simp only [Nat.add_zero,Nat.zero_add] at e0
  rw [h0] at e0
  simp at e0
  rw [e0]
  exact hc0.oneCell
 have rv:Rep w Z s.sl (Act.tm a) u2 [] (.lnk pr ph po 1 false none none) :=by
  refine ⟨rfl,fun cs' hroot' =>?_⟩
  rw [hroot] at hroot'
  simp at hroot'
  subst hroot'
  exact ⟨⟨_,g1⟩,[u2],rfl,fun j hj =>by rw [p1 j (by omega),hu1],.inr ⟨rfl,rfl,hone⟩⟩
 obtain ⟨fp1,vs,Fa,T⟩ :=take_rep h rv ht
 obtain ⟨hb,hcs⟩ :=one1_eq hc1
 simp only at hb hcs
 subst hb hcs
 obtain ⟨_,hrc⟩ :=packs_one T.packs T.len T.rl
 rw [asSl_eq hxx] at hrc
 have hxo:xx.1 = .own :=by
  cases hf:xx.1 <;> rw [hf] at hown <;> first | rfl | simp [Fl.isOwn] at hown
 rw [hxo,hsz] at hrc
 obtain ⟨Fx,Gy,ws,hx,hsrc,sFx,sGy,nFx,nGy,hdj⟩ :=hrc.pieces T.nd hk hm
 have hz1:sz1 = j.size :=by
  obtain ⟨xs0,hg0,ht3⟩ :=bE.1 ht2
  rw [g1] at hg0
  simp only [Option.some.injEq] at hg0
  rcases tE.1 ht3 with ⟨_,ht4⟩ | ⟨_,ht4⟩
  case inr =>cases ht4
  obtain ⟨ys0,hw0,ht5⟩ :=bE.1 ht4
  obtain ⟨_,_,ht6⟩ :=bE.1 ht5
  simp only [Option.some.injEq,Prod.mk.injEq] at ht6
  simp only [winC,Option.some.injEq] at hw0
  have e5:[c] = [C.sl f1 sz1 rows1] :=by rw [← ht6.2.2,← hw0,← hg0]
  have e6 :=asSl_eq hxx
  rw [List.cons.injEq,e6] at e5
  have e7 :=e5.1
  simp only [C.sl.injEq] at e7
  rw [← e7.2.1,hsz]
 have evx:a.eval x = cutV 0 pk j.size u2 :=by rw [hx1,hz1]
 have evy:a.eval y = cutV qlo qm j.size u2 :=by rw [hy1,hz1]
 have hll:(xx.2.2.take pk).length + ((xx.2.2.drop qlo).take qm).length < LIM :=by
  rw [List.length_take,List.length_take,List.length_drop]
  omega
 obtain ⟨v,w',F,hrun,hgo,hrep,hnF,hmF,hFf⟩ :=run_append (ty :=ty) hT hi hel hj hx (fun c hc =>T.mine c (sFx c hc)) nFx hsrc (fun c hc =>T.mine c (sGy c hc)) hdj nGy h.zok hll
 rw [← evx,← evy] at hrun
 have hxfp:∀ t,∀ c ∈ fp1 t,c ∉ Fx :=fun t c hc hx =>T.apart t c (sFx c hx) hc
 have i3:Inv w' Z (Act.tm a) s1 fp1 :=T.inv.world (fun _ h =>h) (fun t =>hgo.same (fun c hc =>⟨hc.elim (fun hc =>(T.inv.mine t c hc).1) (T.inv.zok c),fun hx =>hc.elim (fun hc =>hxfp t c hc hx) (fun hz =>(T.mine c (sFx c hx)).2.2 hz)⟩)) (fun t c hc =>(T.inv.mine t c hc).goes hgo) (fun c hc =>hgo.some c (T.inv.zok c hc))
 refine ⟨v,w',⟨Z,fp1,F,{ goes :=hgo.mono (fun c hc =>T.from_ c (sFx c hc)),zz :=fun _ h =>h,zfrom :=fun _ h =>.inl h,inv :=i3,rep :=⟨[v],.inr ⟨rfl,rfl,hrep.oneCell⟩,rfl,v,F,[],rfl,hrep,rfl,by simp⟩,lt :=trivial,nd :=hnF,mine :=hmF,apart :=?_,from_ :=?_ }⟩,fun o q1 q2 =>.inl ?_⟩
 ·intro t c hc hm
  rcases hFf c hc with h8 | h8 | h8
  ·exact hxfp t c hm h8
  ·exact T.apart t c (sGy c h8) hm
  ·have :=cell_lt (T.inv.mine t c hm).1
   omega
 ·intro c hc
  rcases hc with hc | ⟨t,hc⟩
  ·rcases hFf c hc with h8 | h8 | h8
   ·exact .inl (T.from_ c (sFx c h8))
   ·exact .inl (T.from_ c (sGy c h8))
   ·exact .inr h8
  ·exact .inl ⟨t,T.sub t c hc⟩
 ·simp [execOp,q1,q2,resolve,invoke,builtin,hrun]

theorem append_runs (hT:TOk P E) (h:Inv w Z (Act.tm a) s fp) {call:Sem1} {x y:Operand} {t u:TypeId} {args:Array Operand} {tys:Array TypeId} (hargs:args.toList = [x,y]) (htys:tys.toList = [t,u]) {s':St} {r:S}
  (he:ev1 E call ty s (.call { callee :=.builtin .append,args :=args,argTypes :=tys }) = some (s',r)) :
  Runs P a (.call { callee :=.builtin .append,args :=args,argTypes :=tys }) ty w (Brings w Z (Act.tm a) fp s' r) :=by
 have hargs':args = #[x,y] :=by cases args; simp at hargs; rw [hargs]
 have htys':tys = #[t,u] :=by cases tys; simp at htys; rw [htys]
 subst hargs' htys'
 have he':builtinS E s .append [x,y] [t,u] = some (s',r) :=he
 clear he hargs htys
 rcases tE.1 (show tst (decide (t = u)) _ none = some (s',r) from he') with ⟨htu,he⟩ | ⟨_,he⟩
 case inr =>cases he
 clear he'
 simp at htu
 subst htu
 obtain ⟨i,hi,he⟩ :=bE.1 he
 obtain ⟨e,hel,he⟩ :=bE.1 he
 obtain ⟨j,hj,he⟩ :=bE.1 he
 obtain ⟨vx,hvx,he⟩ :=bE.1 he
 obtain ⟨vy,hvy,he⟩ :=bE.1 he
 rcases tE.1 (show tst (pcs vx.asWin vy.asWin) _ _ = some (s',r) from he) with ⟨_,heJ⟩ | ⟨_,heS⟩
 ·exact appendJ_runs hT h hi hel hj hvx hvy heJ
 clear he
 have he :=heS
 clear heS
 obtain ⟨z,hz,he⟩ :=bE.1 (show bnd (cells s vy) _ = some (s',r) from he)
 obtain ⟨cy,hcy,he⟩ :=bE.1 he
 obtain ⟨yy,hyy,he⟩ :=bE.1 he
 obtain ⟨q,hq,he⟩ :=bE.1 he
 obtain ⟨cx,hcx,he⟩ :=bE.1 he
 obtain ⟨xx,hxx,he⟩ :=bE.1 he
 rcases tE.1 he with ⟨hown,he⟩ | ⟨_,he⟩
 case inr =>cases he
 rcases tE.1 he with ⟨hxs,he⟩ | ⟨_,he⟩
 case inr =>cases he
 rcases tE.1 he with ⟨hys,he⟩ | ⟨_,he⟩
 case inr =>cases he
 rcases tE.1 he with ⟨hlim,he⟩ | ⟨_,he⟩
 case inr =>cases he
 simp at hxs hys hlim
 obtain ⟨rvx,hlx⟩ :=rd_rep hT h hvx
 obtain ⟨rvy,hly⟩ :=rd_rep hT h hvy
 obtain ⟨s1,bx,xs⟩ :=q
 obtain ⟨fp1,vs,Fx,T⟩ :=take_rep h rvx hq
 obtain ⟨hb,hcs⟩ :=one1_eq hcx
 simp only at hb hcs
 subst hb hcs
 obtain ⟨_,hrc⟩ :=packs_one T.packs T.len T.rl
 rw [asSl_eq hxx] at hrc
 have hxo:xx.1 = .own :=by
  cases hf:xx.1 <;> rw [hf] at hown <;> first | rfl | simp [Fl.isOwn] at hown
 rw [hxo,hxs] at hrc
 -- the end of it
 have fin:∀ {s2:St} {fp2:Tmp→List CA} {yrows:List (List C)} {ws:List Value} {Gy:List CA},Inv w Z (Act.tm a) s2 fp2→(∀ t,∀ c ∈ fp2 t,c ∈ fp1 t)→(∀ t,∀ c ∈ Gy,c ∉ fp2 t)→(∀ c ∈ Gy,∃ t,c ∈ fp1 t)→Src w Z (a.eval y) j.size yrows ws Gy→Gy.Nodup→(∀ c ∈ Gy,Mine w Z c) →
   xx.2.2.length + yrows.length < LIM→s' = s2→r = .val 0 false [.sl .own j.size (xx.2.2 ++ yrows)]→Runs P a (.call { callee :=.builtin .append,args :=#[x,y],argTypes :=#[t,t] }) ty w (Brings w Z (Act.tm a) fp s' r) :=by
  intro s2 fp2 yrows ws Gy i2 sub2 ap2 from2 hsrc hnd hmn hll hs' hr'
  subst hs' hr'
  obtain ⟨v,w',F,hrun,hgo,hrep,hnF,hmF,hFf⟩ :=run_append (ty :=ty) hT hi hel hj hrc T.mine T.nd hsrc hmn (fun c hc hg =>by
   obtain ⟨t',ht'⟩ :=from2 c hg
   exact T.apart t' c hc ht') hnd h.zok hll
  have hxfp:∀ t,∀ c ∈ fp2 t,c ∉ Fx :=fun t c hc hx =>T.apart t c hx (sub2 t c hc)
  have i3:Inv w' Z (Act.tm a) s' fp2 :=i2.world (fun _ h =>h) (fun t =>hgo.same (fun c hc =>⟨hc.elim (fun hc =>(i2.mine t c hc).1) (i2.zok c),fun hx =>hc.elim (fun hc =>hxfp t c hc hx) (fun hz =>(T.mine c hx).2.2 hz)⟩)) (fun t c hc =>(i2.mine t c hc).goes hgo) (fun c hc =>hgo.some c (i2.zok c hc))
  refine ⟨v,w',⟨Z,fp2,F,{ goes :=hgo.mono (fun c hc =>T.from_ c hc),zz :=fun _ h =>h,zfrom :=fun _ h =>.inl h,inv :=i3,rep :=⟨[v],.inr ⟨rfl,rfl,hrep.oneCell⟩,rfl,v,F,[],rfl,hrep,rfl,by simp⟩,lt :=trivial,nd :=hnF,mine :=hmF,apart :=?_,from_ :=?_ }⟩,fun o q1 q2 =>.inl ?_⟩
  ·intro t c hc hm
   rcases hFf c hc with h8 | h8 | h8
   ·exact hxfp t c hm h8
   ·exact ap2 t c h8 hm
   ·have :=cell_lt (i2.mine t c hm).1
    omega
  ·intro c hc
   rcases hc with hc | ⟨t,hc⟩
   ·rcases hFf c hc with h8 | h8 | h8
    ·exact .inl (T.from_ c h8)
    ·obtain ⟨t',ht'⟩ :=from2 c h8
     exact .inl ⟨t',T.sub t' c ht'⟩
    ·exact .inr h8
   ·exact .inl ⟨t,T.sub t c (sub2 t c hc)⟩
  ·simp [execOp,q1,q2,resolve,invoke,builtin,hrun]
 rcases tE.1 he with ⟨hfr,he⟩ | ⟨_,he⟩
 ·simp at he
  obtain ⟨hs',hr'⟩ :=he
  obtain ⟨zb,zc⟩ :=z
  obtain ⟨ws,hsrc⟩ :=cells_src h rvy hz hcy hyy hfr
  rw [hys] at hsrc
  exact fin T.inv (fun _ _ h =>h) (by simp) (by simp) hsrc List.nodup_nil (by simp) hlim hs'.symm hr'.symm
 ·obtain ⟨q2,hq2,he⟩ :=bE.1 he
  obtain ⟨cw,hcw,he⟩ :=bE.1 he
  obtain ⟨y',hy',he⟩ :=bE.1 he
  rcases tE.1 he with ⟨hys',he⟩ | ⟨_,he⟩
  case inr =>cases he
  rcases tE.1 he with ⟨hyl,he⟩ | ⟨_,he⟩
  case inr =>cases he
  simp at he hys' hyl
  obtain ⟨hs',hr'⟩ :=he
  obtain ⟨s2,b2,ys2⟩ :=q2
  have rvy1 :=rep_after hly rvy hq hq2
  obtain ⟨fp2,ws2,F2,T2⟩ :=take_rep T.inv rvy1 hq2
  obtain ⟨hb2,hcs2⟩ :=one1_eq hcw
  simp only at hb2 hcs2
  subst hb2 hcs2
  obtain ⟨_,hrc2⟩ :=packs_one T2.packs T2.len T2.rl
  rw [asSl_eq hy'] at hrc2
  obtain ⟨ws,G,hsrc,hsub,_⟩ :=Src.of hrc2
  rw [hys'] at hsrc
  exact fin T2.inv T2.sub (fun t c hc =>T2.apart t c (hsub.subset hc)) (fun c hc =>T2.from_ c (hsub.subset hc)) hsrc (T2.nd.sublist hsub) (fun c hc =>T2.mine c (hsub.subset hc)) (by rw [hyl]; exact hlim) hs'.symm hr'.symm

/-! ### Conversions -/

theorem intT_under (hT:TOk P E) {t:TypeId} {i:TI} {k:IntKind} (hi:E.T t = some i) (h:intT i = some k):P.underlying t = some (.int k) :=by
 obtain ⟨n,hn⟩ :=intT_eq h
 exact (hT _ _ hi).int k n hn
theorem strT_under (hT:TOk P E) {t:TypeId} {i:TI} (hi:E.T t = some i) (h:strT i = true):P.underlying t = some .string :=by
 obtain ⟨b,hb⟩ :=strT_eq h
 exact (hT _ _ hi).str b hb

theorem bytesOf_eq:∀ {vs:List Value} {bs:List UInt8},bytesOf vs = some bs→∃ ns:List Int,vs = ns.map (Value.int .u8)∧bs = ns.map fun n =>UInt8.ofNat n.toNat
 | [],bs,h =>by simp [bytesOf] at h; subst h; exact ⟨[],rfl,rfl⟩
 | v :: vs,bs,h =>by
  obtain ⟨b,hb,h⟩ :=bE.1 (show bnd (byteOf v) _ = some bs from h)
  obtain ⟨us,hu,h⟩ :=bE.1 h
  simp at h
  subst h
  obtain ⟨ns,h1,h2⟩ :=bytesOf_eq hu
  unfold byteOf at hb
  split at hb
  ·rename_i n
   simp at hb
   exact ⟨n :: ns,by rw [h1]; rfl,by rw [h2,← hb]; rfl⟩
  ·cases hb

theorem push_all:∀ (ns:List Int) (r:ByteArray),ns.foldl (fun r n =>r.push (UInt8.ofNat n.toNat)) r = ⟨r.data ++ (ns.map fun n =>UInt8.ofNat n.toNat).toArray⟩
 | [],r =>by simp
 | n :: ns,r =>by
  simp only [List.foldl_cons,List.map_cons]
  rw [push_all ns]
  simp [ByteArray.push]

theorem Src.prims {v:Value} {rows:List (List C)} {vs ws:List Value} {G:List CA} {sz:Nat} (h:Src w Z v sz rows ws G) (hr:∀ b o,(∀ i,i < rows.length * sz→cell w (b,o + i) = ws[i]?)→RRs w Z rows sz b o G) (hp:allPrim rows.flatten = some vs):ws = vs∨rows = [] :=by
 obtain ⟨ad,cap,_,_,h2⟩ :=h.val
 rcases h2 with h2 | ⟨b,o,_,hc⟩
 ·exact .inr h2
 ·left
  have h3 :=hr b o hc
  clear hr
  have key:∀ (rows:List (List C)) (vs:List Value) (o:Nat) (G:List CA),allPrim rows.flatten = some vs→RRs w Z rows sz b o G→vs.length = rows.length * sz∧∀ i,i < vs.length→cell w (b,o + i) = vs[i]? :=by
   intro rows
   induction rows with
   | nil =>
    intro vs o G hp _
    simp [allPrim] at hp
    subst hp
    simp
   | cons r rs ih =>
    intro vs o G hp hr
    obtain ⟨hl,F1,F2,h1,h2,_⟩ :=hr
    have he :=allPrim_eq hp
    rw [List.flatten_cons] at he
    obtain ⟨us,ts,hvs,hr1,hr2⟩ :=List.append_eq_map_iff.1 he
    subst hvs
    have hul:us.length = sz :=by rw [← hl,← hr1]; simp
    have hts:allPrim rs.flatten = some ts :=by
     rw [← hr2]
     clear hr2 hp he
     induction ts with
     | nil =>rfl
     | cons t ts ih =>simp [allPrim,asP,ih,bnd]
    obtain ⟨i1,i2⟩ :=ih ts (o + sz) F2 hts h2
    refine ⟨by simp [i1,hul,Nat.add_mul]; omega,fun i hi =>?_⟩
    by_cases h:i < sz
    ·rw [List.getElem?_append_left (by omega)]
     have hget:r[i]? = some (.p us[i]) :=by rw [← hr1]; simp [hul,h]
     obtain ⟨v,A,G',B,hv,hrc,_⟩ :=RL.get h1 hget
     rw [hv,hrc.1]
     simp [hul,h]
    ·rw [List.getElem?_append_right (by omega),hul,← i2 (i - sz) (by simp at hi; omega)]
     congr 2
     omega
  obtain ⟨k1,k2⟩ :=key rows vs o G hp h3
  apply List.ext_getElem?
  intro i
  by_cases hi:i < vs.length
  ·rw [← k2 i hi,hc i (by omega)]
  ·have :=h.len
   rw [List.getElem?_eq_none (by omega),List.getElem?_eq_none (by omega)]

theorem getElem?_bytesRow (b:ByteArray) (cap:Nat):∀ i,i < b.size→(bytesRow b cap)[i]? = (b.data.toList.map fun x =>Value.int .u8 x.toNat)[i]? :=by
 intro i hi
 have h2:i < b.data.size :=hi
 have h3:¬ b.size≤i :=by omega
 simp [bytesRow,Array.getElem?_append,h2]
 exact fun h =>absurd h h3

theorem rrs_bytes {bk:Nat}:∀ (bs:List UInt8) (o:Nat),(∀ i,i < bs.length→cell w (bk,o + i) = (bs.map fun x =>Value.int .u8 x.toNat)[i]?)→RRs w Z (bytesRows bs) 1 bk o []
 | [],_,_ =>rfl
 | x :: bs,o,h =>by
  refine ⟨rfl,[],[],⟨_,[],[],by simpa using h 0 (by simp),⟨rfl,rfl,rfl⟩,rfl,rfl⟩,rrs_bytes bs (o + 1) (fun i hi =>?_),rfl⟩
  have :=h (i + 1) (by simp; omega)
  rw [show o + 1 + i = o + (i + 1) by omega,this]
  simp

theorem bytesRows_length:∀ (bs:List UInt8),(bytesRows bs).length = bs.length
 | [] =>rfl
 | _ :: bs =>by simp [bytesRows,bytesRows_length bs]

theorem convert_runs (hT:TOk P E) (h:Inv w Z (Act.tm a) s fp) {call:Sem1} {t b:TypeId} {x:Operand} {s':St} {r:S} (he:ev1 E call ty s (.convert t b x) = some (s',r)) :
  Runs P a (.convert t b x) ty w (Brings w Z (Act.tm a) fp s' r) :=by
 obtain ⟨i,hi,he⟩ :=bE.1 (show bnd (E.T t) _ = some (s',r) from he)
 obtain ⟨j,hj,he⟩ :=bE.1 he
 obtain ⟨v,hv,he⟩ :=bE.1 he
 obtain ⟨q,hq0,he⟩ :=bE.1 he
 simp at he
 obtain ⟨rfl,rfl⟩ :=he
 obtain ⟨rv,_⟩ :=rd_rep hT h hv
 obtain ⟨z,hz,hq1⟩ :=bE.1 (show bnd (cells s v) _ = some q from hq0)
 obtain ⟨c,hc,hq⟩ :=bE.1 hq1
 clear hq0 hq1
 obtain ⟨zb,zc⟩ :=z
 obtain ⟨vs,F,hp,hl,hr,_,_⟩ :=cells_rep h rv hz
 obtain ⟨hb,hcs⟩ :=one1_eq hc
 simp only at hb hcs
 subst hb hcs
 obtain ⟨_,hrc⟩ :=packs_one hp hl hr
 have run:∀ z w',(convert t b (a.eval x)).run P w = .ok z w'→∀ o:Oper,o.op = .convert t b x→o.type = ty→(execOp a.eval o).run P w = .ok (.value z) w' :=by
  intro z w' hz o h1 h2
  simp only [execOp,h1,Sem.run_bind,hz,Result.andThen_ok,Sem.run_pure]
 cases c with
 | hole =>simp [convC] at hq
 | mp =>simp [convC] at hq
 | sl f sz rows =>
  obtain ⟨us,hus,hq1⟩ :=bE.1 (show bnd (allPrim rows.flatten) _ = some q from hq)
  obtain ⟨e,hel,hq2⟩ :=bE.1 hq1
  obtain ⟨k,hk,hq3⟩ :=bE.1 hq2
  rcases tE.1 hq3 with ⟨hk8,hq4⟩ | ⟨_,hq4⟩
  case inr =>cases hq4
  rcases tE.1 hq4 with ⟨hst,hq5⟩ | ⟨_,hq5⟩
  case inr =>cases hq5
  rcases tE.1 hq5 with ⟨hsz,hq6⟩ | ⟨_,hq6⟩
  case inr =>cases hq6
  obtain ⟨bs,hbs,hq7⟩ :=bE.1 hq6
  simp at hk8 hsz hq7
  clear hq hq1 hq2 hq3 hq4 hq5 hq6
  subst hk8 hsz hq7
  obtain ⟨et,het,hel⟩ :=bE.1 hel
  have hun :=slc_under hT hi het
  have hue :=intT_under hT hel hk
  have hud :=strT_under hT hj hst
  obtain ⟨ad,cap,hval,hle,hrc2⟩ :=hrc
  obtain ⟨ns,hns,hbs2⟩ :=bytesOf_eq hbs
  refine runs_still h (rep_one rfl) trivial (run _ _ ?_)
  rw [hval,run_convert_bytes_string w t b et ad _ cap hun hue hud]
  have full:∀ {bk o:Nat} {G:List CA},ad = some ⟨bk,o,none⟩→RRs w Z rows 1 bk o G→(Conv.bytesToString (.slice ad rows.length cap)).run P w = .ok (.string ⟨bs.toArray⟩) w :=by
   intro bk o G had hrr
   have hsrc:∃ ws,Src w Z (.slice ad rows.length cap) 1 rows ws G∧(∀ i,i < rows.length * 1→cell w (bk,o + i) = ws[i]?) :=by
    obtain ⟨ws,w1,w2,w3⟩ :=hrr.values
    exact ⟨ws,⟨w1,w3,⟨ad,cap,rfl,hle,.inr ⟨bk,o,had,w2⟩⟩,fun w' b' o' hsame hc =>hrr.move (fun _ h =>h) hsame (fun i hi =>by rw [hc i hi,w2 i hi])⟩,w2⟩
   obtain ⟨ws,hsrc,hcl⟩ :=hsrc
   have hws:ws = us∨rows = [] :=hsrc.prims (fun b' o' hc =>hsrc.rows w b' o' (fun _ _ =>rfl) hc) hus
   have hlw :=hsrc.len
   rw [had]
   have hld :=run_loadCells_list (P :=P) w ⟨bk,o,none⟩ ws (fun k v hk =>by
    have hlt:k < ws.length :=by
     rcases Nat.lt_or_ge k ws.length with h | h
     ·exact h
     ·simp [List.getElem?_eq_none h] at hk
    have :=hcl k (by omega)
    rw [hk] at this
    rw [Addr.add_lit]
    exact this)
   have hwn:ws = ns.map (Value.int .u8) :=by
    rcases hws with h | h
    ·rw [h,hns]
    ·subst h
     simp [allPrim] at hus
     subst hus
     simp at hns hlw
     subst hns
     simp [hlw]
   rw [hlw,Nat.mul_one,hwn] at hld
   rw [run_bytesToString w _ _ cap ns hld,push_all,hbs2]
   congr 2
   have he0:ByteArray.empty.data = #[] :=rfl
   rw [he0]
   simp
  have empty:rows = []→(ad = none∨∃ bk,ad = some bk)→(Conv.bytesToString (.slice ad rows.length cap)).run P w = .ok (.string ⟨bs.toArray⟩) w :=by
   intro hr0 had
   subst hr0
   simp [allPrim] at hus
   subst hus
   simp at hns
   subst hns
   simp at hbs2
   subst hbs2
   rcases had with rfl | ⟨bk,rfl⟩
   ·simp [Conv.bytesToString]
    rfl
   ·have hl0:(loadCells bk 0).run P w = .ok #[] w :=run_loadCells_list w bk [] (by simp)
    exact run_bytesToString (P :=P) w bk 0 cap [] (by simpa using hl0)
  have hadc:ad = none∨∃ bk,ad = some bk :=by cases ad <;> simp
  rcases hrc2 with ⟨_,_,hs⟩ | ⟨_,hs⟩
  ·rcases hs with hs | ⟨bk,o,had,hrr,_⟩
   ·exact empty hs hadc
   ·exact full had hrr
  ·rcases hs with ⟨_,hs,_⟩ | ⟨bk,o,G,had,⟨hrr,_⟩,_⟩
   ·exact empty hs hadc
   ·exact full had hrr
 | p u =>
  have ev:a.eval x = u :=hrc.1
  cases u with
  | int k0 n =>
   obtain ⟨ki,hki,hq⟩ :=bE.1 (show bnd (intT i) _ = some q from hq)
   obtain ⟨k,hk,hq⟩ :=bE.1 hq
   simp at hq
   subst hq
   have hui :=intT_under hT hi hki
   have huj :=intT_under hT hj hk
   refine runs_still h (rep_one rfl) trivial (run _ _ ?_)
   simp [convert,run_underlying hui,run_underlying huj,ev,Conv.intToInt]
  | string bs =>
   rcases tE.1 (show tst (strT i) _ none = some q from hq) with ⟨hst,hq1⟩ | ⟨_,hq1⟩
   case inr =>cases hq1
   obtain ⟨e,hel,hq2⟩ :=bE.1 hq1
   obtain ⟨k,hk,hq3⟩ :=bE.1 hq2
   rcases tE.1 hq3 with ⟨hk8,hq4⟩ | ⟨_,hq4⟩
   case inr =>cases hq4
   simp at hk8 hq4
   clear hq hq1 hq2 hq3
   subst hk8 hq4
   obtain ⟨et,het,hel⟩ :=bE.1 hel
   have hui :=strT_under hT hi hst
   have huj :=slc_under hT hj het
   have hue :=intT_under hT hel hk
   have hrun :=run_bytes_of_string (P :=P) w t b et bs hui huj hue
   have hcap :=grownCap_ge w bs.size 0 et
   have g:Grown w (w.drew.alloc (.cells (bytesRow bs (grownCap w bs.size 0 et)) et ((bytesRow bs (grownCap w bs.size 0 et)).size,(bytesRow bs (grownCap w bs.size 0 et)).size + 1))) (bytesRow bs (grownCap w bs.size 0 et)).toList :=by
    refine ⟨(goes_drew w _).trans (goes_alloc w.drew _ (fun _ =>False)) (fun _ h =>h.elim),fun o =>?_,fun o ho =>?_⟩
    ·have :=World.cell?_alloc_mark w.drew (bytesRow bs (grownCap w bs.size 0 et)) et ((bytesRow bs (grownCap w bs.size 0 et)).size,(bytesRow bs (grownCap w bs.size 0 et)).size + 1) o
     rw [Array.getElem?_toList]
     exact this
    ·have :=World.frozen?_alloc_mark w.drew (bytesRow bs (grownCap w bs.size 0 et)) et (bytesRow bs (grownCap w bs.size 0 et)).size ((bytesRow bs (grownCap w bs.size 0 et)).size + 1) o
     refine Eq.trans this ?_
     simp at ho
     have:¬ (bytesRow bs (grownCap w bs.size 0 et)).size≤o :=by omega
     simp [this]
   have hsz:(bytesRow bs (grownCap w bs.size 0 et)).size = grownCap w bs.size 0 et :=by
    have:bs.data.size = bs.size :=rfl
    simp [bytesRow,this]
    omega
   refine ⟨.slice (some ⟨w.heap.size,0,none⟩) bs.size (grownCap w bs.size 0 et),_,⟨Z,fp,_,Done.grown (F :=[]) g h List.nodup_nil (by simp) (by simp) (fun c hc =>by simpa using hc) (fun hinv =>?_) trivial⟩,fun o q1 q2 =>.inl (run _ _ (by rw [ev]; exact hrun) o q1 q2)⟩
   refine ⟨[_],.inr ⟨rfl,rfl,rfl⟩,rfl,_,_,[],rfl,⟨some ⟨w.heap.size,0,none⟩,grownCap w bs.size 0 et,?_,?_,.inr ⟨by simp,.inr ⟨w.heap.size,0,[],rfl,⟨rrs_bytes _ 0 (fun k hk =>?_),fun c hc =>?_⟩,rfl⟩⟩⟩,rfl,?_⟩
   ·rw [bytesRows_length]; simp
   ·rw [bytesRows_length]; simpa using hcap
   ·rw [Nat.zero_add,g.cell,Array.getElem?_toList]
    exact getElem?_bytesRow bs _ k (by simpa using hk)
   ·obtain ⟨c1,c2⟩ :=c
    rw [mem_span] at hc
    simp only [Nat.zero_add,Nat.mul_one] at hc
    obtain ⟨rfl,_,h8⟩ :=hc
    rw [g.cell,List.getElem?_eq_getElem (by rw [Array.length_toList,hsz]; exact h8)]
    rfl
   ·simp [hsz]
  | _ =>simp [convC] at hq
end
end Go.Sx

/- Maps: what their operations do. -/
namespace Go.Sx

/-! ### Things without cells -/

theorem gcell_obj {w:World} {c:CA} {o:Obj} (h:w.heap[c.1]? = some o) (ho:∀ cs e f,o ≠ .cells cs e f):gcell w c = if c.2 = 0 then some (.inr o) else none :=by
 unfold gcell
 rw [h]
 cases o <;> first | rfl | exact absurd rfl (ho _ _ _)
theorem gcell_inr {w:World} {c:CA} {o:Obj} (h:gcell w c = some (.inr o)):w.heap[c.1]? = some o∧c.2 = 0∧∀ cs e f,o ≠ .cells cs e f :=by
 unfold gcell at h
 cases hh:w.heap[c.1]? with
 | none =>rw [hh] at h; cases h
 | some o' =>
  rw [hh] at h
  by_cases h0:c.2 = 0
  ·cases o' <;> simp [h0] at h <;> (subst h; exact ⟨rfl,h0,fun _ _ _ e =>by cases e⟩)
  ·cases o' <;> simp [h0] at h

def setO (w:World) (b:Nat) (o:Obj):World :={ w with heap :=w.heap.setIfInBounds b o }

theorem setO_heap {w:World} {b:Nat} {o o0:Obj} (h:w.heap[b]? = some o0):(setO w b o).heap[b]? = some o :=by
 have hb :=(Array.getElem?_eq_some_iff.1 h).1
 simp [setO,hb]
theorem setO_other {w:World} {b k:Nat} {o:Obj} (h:k ≠ b):(setO w b o).heap[k]? = w.heap[k]? :=by
 simp [setO,Array.getElem?_setIfInBounds_ne (Ne.symm h)]

theorem fro_obj {w:World} {c:CA} {o:Obj} (h:w.heap[c.1]? = some o) (ho:∀ cs e f,o ≠ .cells cs e f):fro w c = false :=by
 unfold fro World.frozen?
 simp only
 rw [h]
 cases o <;> first | rfl | exact absurd rfl (ho _ _ _)
theorem cell_obj {w:World} {c:CA} {o:Obj} (h:w.heap[c.1]? = some o) (ho:∀ cs e f,o ≠ .cells cs e f):cell w c = none :=by
 rw [cell_g,gcell_obj h ho]
 split <;> rfl

theorem goes_setO {w:World} {b:Nat} {o o0:Obj} (h0:gcell w (b,0) = some (.inr o0)) (ho:∀ cs e f,o ≠ .cells cs e f) {F:CA→Prop} (hF:F (b,0)):Goes w (setO w b o) F :=by
 obtain ⟨hh,_,hn⟩ :=gcell_inr h0
 have hh' :=setO_heap (o :=o) hh
 have other:∀ {c:CA},c.1 ≠ b→(setO w b o).heap[c.1]? = w.heap[c.1]? :=fun h =>setO_other h
 exact {
  os :=rfl
  tape :=rfl
  output :=rfl
  size :=by simp [setO]
  block :=fun k _ hn =>setO_other (fun e =>hn 0 (by rw [e]; exact hF))
  cells :=fun c _ hn2 =>by
   obtain ⟨c1,c2⟩ :=c
   by_cases e:c1 = b
   ·subst e
    have h2:c2 ≠ 0 :=fun e =>hn2 (by rw [e]; exact hF)
    rw [gcell_obj (c :=(c1,c2)) hh' ho,gcell_obj (c :=(c1,c2)) hh hn]
    simp [h2]
   ·exact gcell_of_heap (other (c :=(c1,c2)) e)
  fro :=fun c _ =>by
   obtain ⟨c1,c2⟩ :=c
   by_cases e:c1 = b
   ·subst e
    rw [fro_obj (c :=(c1,c2)) hh' ho,fro_obj (c :=(c1,c2)) hh hn]
   ·exact fro_of_heap (other (c :=(c1,c2)) e)
  some :=fun c hc =>by
   obtain ⟨c1,c2⟩ :=c
   by_cases e:c1 = b
   ·subst e
    rw [gcell_obj (c :=(c1,c2)) hh hn] at hc
    rw [gcell_obj (c :=(c1,c2)) hh' ho]
    split at hc
    ·rename_i e; rw [if_pos e]; rfl
    ·cases hc
   ·rw [gcell_of_heap (other (c :=(c1,c2)) e)]; exact hc
  real :=fun c hc =>by
   obtain ⟨c1,c2⟩ :=c
   by_cases e:c1 = b
   ·subst e
    rw [cell_obj (c :=(c1,c2)) hh hn] at hc
    cases hc
   ·rw [cell_of_heap (other (c :=(c1,c2)) e)]; exact hc }

theorem gcell_setO {w:World} {b:Nat} {o o0:Obj} (h0:gcell w (b,0) = some (.inr o0)) (ho:∀ cs e f,o ≠ .cells cs e f):gcell (setO w b o) (b,0) = some (.inr o) :=by
 rw [gcell_obj (c :=(b,0)) (setO_heap (gcell_inr h0).1) ho]
 rfl

theorem gcell_alloc (w:World) {o:Obj} (ho:∀ cs e f,o ≠ .cells cs e f):gcell (w.alloc o) (w.heap.size,0) = some (.inr o) :=by
 rw [gcell_obj (c :=(w.heap.size,0)) (alloc_new w o) ho]
 rfl

section
variable {P:Program}
theorem run_getO {w:World} {b:Nat} {o:Obj} (h:gcell w (b,0) = some (.inr o)):(getObj b).run P w = .ok o w :=by
 obtain ⟨h1,_,h2⟩ :=gcell_inr h
 simp only at h1
 cases o <;> first | exact absurd rfl (h2 _ _ _) | simp [getObj,Sem.run,h1]
theorem run_setO {w:World} {b:Nat} {o o':Obj} (h:gcell w (b,0) = some (.inr o)):(setObj b o').run P w = .ok () (setO w b o') :=by
 obtain ⟨h1,_,h2⟩ :=gcell_inr h
 simp only at h1
 cases o <;> first | exact absurd rfl (h2 _ _ _) | simp [setObj,Sem.run,h1,setO]
end

/-! ### Entries -/

def EntOk (w:World) (Z:CA→Prop) (row:List C) (ka va:Bool) (nk:Nat) (e:MapEntry):Prop :=
 ∃ ks vs,Packs ka ks e.key∧Packs va vs e.val∧ks.length = nk∧row.length = nk + vs.length∧RL w Z row (fun i =>(ks ++ vs)[i]?) []

section
variable {w:World} {Z:CA→Prop}

theorem row_split {row:List C} {ks vs:List Value} {nk:Nat} (h:RL w Z row (fun i =>(ks ++ vs)[i]?) []) (hk:ks.length = nk) (hl:row.length = nk + vs.length) :
  RL w Z (row.take nk) (fun i =>ks[i]?) []∧RL w Z (row.drop nk) (fun i =>vs[i]?) [] :=by
 have e:row = row.take nk ++ row.drop nk :=(List.take_append_drop nk row).symm
 rw [e] at h
 obtain ⟨F1,F2,h1,h2,hF⟩ :=RL.split h
 obtain ⟨rfl,rfl⟩ :=app_nil hF
 have hlen:(row.take nk).length = nk :=by simp; omega
 refine ⟨RL.same (w' :=w) (fun _ h =>h) _ h1 (fun _ _ =>rfl) (fun i hi =>?_),RL.same (w' :=w) (fun _ h =>h) _ h2 (fun _ _ =>rfl) (fun i hi =>?_)⟩
 ·rw [List.getElem?_append_left (by omega)]
 ·rw [hlen,List.getElem?_append_right (by omega)]
  congr 1
  omega

theorem row_join {r1 r2:List C} {ks vs:List Value} (h1:RL w Z r1 (fun i =>ks[i]?) []) (h2:RL w Z r2 (fun i =>vs[i]?) []) (hl:r1.length = ks.length):RL w Z (r1 ++ r2) (fun i =>(ks ++ vs)[i]?) [] :=by
 have :=RL.append (cs :=r1) (ds :=r2) (get :=fun i =>(ks ++ vs)[i]?) (F :=[]) (G :=[])
  (RL.same (w' :=w) (fun _ h =>h) r1 h1 (fun _ _ =>rfl) (fun i hi =>List.getElem?_append_left (by omega)))
  (RL.same (w' :=w) (fun _ h =>h) r2 h2 (fun _ _ =>rfl) (fun i hi =>by
   rw [List.getElem?_append_right (by omega)]
   congr 1
   omega))
 simpa using this

theorem REs.cons_iff {r:List C} {rs:List (List C)} {ka va:Bool} {nk:Nat} {es:List MapEntry}:REs w Z (r :: rs) ka va nk es↔∃ e es',es = e :: es'∧EntOk w Z r ka va nk e∧REs w Z rs ka va nk es' :=by
 simp only [REs,EntOk]
theorem REs.length:∀ {rows:List (List C)} {ka va:Bool} {nk:Nat} {es:List MapEntry},REs w Z rows ka va nk es→es.length = rows.length
 | [],_,_,_,_,h =>by rw [show _ = [] from h]; rfl
 | r :: rs,_,_,_,_,h =>by
  obtain ⟨e,es',rfl,_,h2⟩ :=REs.cons_iff.1 h
  simp [REs.length h2]
theorem REs.get:∀ {rows:List (List C)} {ka va:Bool} {nk:Nat} {es:List MapEntry},REs w Z rows ka va nk es→∀ {i:Nat} {row:List C},rows[i]? = some row→∃ e,es[i]? = some e∧EntOk w Z row ka va nk e
 | [],_,_,_,_,_,i,row,hi =>by simp at hi
 | r :: rs,_,_,_,_,h,i,row,hi =>by
  obtain ⟨e,es',rfl,h1,h2⟩ :=REs.cons_iff.1 h
  cases i with
  | zero =>simp at hi; subst hi; exact ⟨e,rfl,h1⟩
  | succ i =>
   simp at hi
   obtain ⟨e',h3,h4⟩ :=REs.get h2 hi
   exact ⟨e',by simpa using h3,h4⟩
theorem REs.snoc:∀ {rows:List (List C)} {ka va:Bool} {nk:Nat} {es:List MapEntry} {row:List C} {e:MapEntry},REs w Z rows ka va nk es→EntOk w Z row ka va nk e→REs w Z (rows ++ [row]) ka va nk (es ++ [e])
 | [],_,_,_,_,row,e,h,he =>by
  rw [show _ = [] from h]
  exact REs.cons_iff.2 ⟨e,[],rfl,he,rfl⟩
 | r :: rs,_,_,_,_,row,e,h,he =>by
  obtain ⟨e0,es',rfl,h1,h2⟩ :=REs.cons_iff.1 h
  exact REs.cons_iff.2 ⟨e0,es' ++ [e],rfl,h1,REs.snoc h2 he⟩
theorem REs.set:∀ {rows:List (List C)} {ka va:Bool} {nk:Nat} {es:List MapEntry} {i:Nat} {row:List C} {e:MapEntry},REs w Z rows ka va nk es→EntOk w Z row ka va nk e→REs w Z (rows.set i row) ka va nk (es.set i e)
 | [],_,_,_,_,i,row,e,h,he =>by
  rw [show _ = [] from h]
  rfl
 | r :: rs,_,_,_,_,i,row,e,h,he =>by
  obtain ⟨e0,es',rfl,h1,h2⟩ :=REs.cons_iff.1 h
  cases i with
  | zero =>exact REs.cons_iff.2 ⟨e,es',rfl,he,h2⟩
  | succ i =>exact REs.cons_iff.2 ⟨e0,es'.set i e,rfl,h1,REs.set h2 he⟩
theorem REs.erase:∀ {rows:List (List C)} {ka va:Bool} {nk:Nat} {es:List MapEntry} {i:Nat},REs w Z rows ka va nk es→REs w Z (rows.eraseIdx i) ka va nk (es.eraseIdx i)
 | [],_,_,_,_,i,h =>by
  rw [show _ = [] from h]
  rfl
 | r :: rs,_,_,_,_,i,h =>by
  obtain ⟨e0,es',rfl,h1,h2⟩ :=REs.cons_iff.1 h
  cases i with
  | zero =>exact h2
  | succ i =>exact REs.cons_iff.2 ⟨e0,es'.eraseIdx i,rfl,h1,REs.erase h2⟩

theorem EntOk.key {row:List C} {ka va:Bool} {nk:Nat} {e:MapEntry} (h:EntOk w Z row ka va nk e) {us:List Value} (hp:allPrim (row.take nk) = some us):Packs ka us e.key∧us.length = nk :=by
 obtain ⟨ks,vs,h1,h2,h3,h4,h5⟩ :=h
 obtain ⟨r1,_⟩ :=row_split h5 h3 h4
 have he :=allPrim_eq hp
 have hl:us.length = nk :=by
  have :=congrArg List.length he
  simp at this
  omega
 rw [he] at r1
 have :=r1.prims (by omega)
 subst this
 exact ⟨h1,h3⟩
theorem EntOk.val {row:List C} {ka va:Bool} {nk:Nat} {e:MapEntry} (h:EntOk w Z row ka va nk e):∃ vs,Packs va vs e.val∧vs.length = (row.drop nk).length∧RL w Z (row.drop nk) (fun i =>vs[i]?) [] :=by
 obtain ⟨ks,vs,h1,h2,h3,h4,h5⟩ :=h
 exact ⟨vs,h2,by simp; omega,(row_split h5 h3 h4).2⟩
theorem EntOk.keyR {row:List C} {ka va:Bool} {nk:Nat} {e:MapEntry} (h:EntOk w Z row ka va nk e):∃ ks,Packs ka ks e.key∧ks.length = (row.take nk).length∧RL w Z (row.take nk) (fun i =>ks[i]?) [] :=by
 obtain ⟨ks,vs,h1,h2,h3,h4,h5⟩ :=h
 exact ⟨ks,h1,by simp; omega,(row_split h5 h3 h4).1⟩

theorem primC_eq:∀ ks:List Value,primC ks = ks.map .p
 | [] =>rfl
 | v :: r =>by simp [primC,primC_eq r]
theorem RL.primC:∀ {ks:List Value},(∀ v ∈ ks,v.oneCell' = true)→RL w Z (Sx.primC ks) (fun i =>ks[i]?) []
 | [],_ =>rfl
 | v :: r,h =>⟨v,[],[],rfl,⟨rfl,h v (by simp),rfl⟩,by
   have :=RL.primC (ks :=r) (fun u hu =>h u (List.mem_cons_of_mem _ hu))
   simpa using this,rfl⟩

theorem EntOk.mk {ks vs:List Value} {ds:List C} {ka va:Bool} {nk:Nat} {k v:Value} {born:Nat} (hk:Packs ka ks k) (hv:Packs va vs v) (hn:ks.length = nk) (hl:vs.length = ds.length) (ho:∀ u ∈ ks,u.oneCell' = true) (hr:RL w Z ds (fun i =>vs[i]?) []) :
  EntOk w Z (primC ks ++ ds) ka va nk ⟨k,v,born⟩ :=
 ⟨ks,vs,hk,hv,hn,by rw [primC_eq]; simp; omega,row_join (RL.primC ho) hr (by rw [primC_eq]; simp)⟩
end

/-! ### Keys -/

theorem bytes_beq (a b:ByteArray):(a == b) = decide (a = b) :=by rw [beq_toListBytes,str_eq]

theorem shape_one:∀ {z:List C} {ks:List Value},shapeOk z ks = true→∀ v ∈ ks,v.oneCell' = true
 | [],[],_ =>by simp
 | .p (.int k _) :: z,.int k' _ :: r,h =>by
  simp [shapeOk] at h
  intro v hv
  rcases List.mem_cons.1 hv with rfl | hv
  ·rfl
  ·exact shape_one h.2 v hv
 | .p (.string _) :: z,.string _ :: r,h =>by
  simp only [shapeOk] at h
  intro v hv
  rcases List.mem_cons.1 hv with rfl | hv
  ·rfl
  ·exact shape_one h v hv
 | .p (.bool _) :: z,.bool _ :: r,h =>by
  simp only [shapeOk] at h
  intro v hv
  rcases List.mem_cons.1 hv with rfl | hv
  ·rfl
  ·exact shape_one h v hv
 | [],_ :: _,h =>by simp [shapeOk] at h
 | c :: z,[],h =>by unfold shapeOk at h; split at h <;> simp_all

theorem shape_same:∀ {z:List C} {ks:List Value},shapeOk z ks = true→∀ v ∈ ks,∀ n,Instr.sameBits n v v = true :=by
 intro z
 induction z with
 | nil =>
  intro ks h v hv
  cases ks with
  | nil =>cases hv
  | cons _ _ =>simp [shapeOk] at h
 | cons c z ih =>
  intro ks h v hv n
  cases ks with
  | nil =>cases hv
  | cons u r =>
   have hu:(∃ k m,u = .int k m)∨(∃ s,u = .string s)∨(∃ b,u = .bool b) :=by
    unfold shapeOk at h
    split at h <;> simp_all
   have hr:shapeOk z r = true :=by
    unfold shapeOk at h
    split at h <;> simp_all
   rcases List.mem_cons.1 hv with rfl | hv
   ·rcases hu with ⟨k,m,rfl⟩ | ⟨s,rfl⟩ | ⟨b,rfl⟩
    ·cases n <;> simp [Instr.sameBits]
    ·cases n <;> simp [Instr.sameBits,bytes_beq]
    ·cases n <;> simp [Instr.sameBits]
   ·exact ih hr v hv n

theorem eqVals_true:∀ {xs ys:List Value},eqVals xs ys = some true→xs = ys
 | [],[],_ =>rfl
 | a :: x,b :: y,h =>by
  obtain ⟨v,hv,h1⟩ :=bE.1 (show bnd (bin .eql a b) _ = some true from h)
  obtain ⟨t,ht,h2⟩ :=bE.1 h1
  obtain ⟨u,hu,h3⟩ :=bE.1 h2
  simp at h3
  obtain ⟨rfl,rfl⟩ :=h3
  have hv' :=asBool_eq ht
  subst hv'
  have:a = b :=by
   cases a <;> cases b <;> simp [bin,shiftV] at hv
   ·simpa [boolBin] using hv
   ·obtain ⟨rfl,hv⟩ :=hv
    simp [intBin] at hv
    rw [hv]
   ·simp [strBin] at hv
    rw [hv]
  rw [this,eqVals_true hu]
 | [],_ :: _,h =>by simp [eqVals] at h
 | _ :: _,[],h =>by simp [eqVals] at h

theorem sameBits_packs {a:Bool} {z:List C} {ks:List Value} {k k':Value} (hs:shapeOk z ks = true) (h:Packs a ks k) (h':Packs a ks k'):k' = k∧Instr.sameBits 10000 k k = true :=by
 have hkk:k' = k :=by
  rcases h with ⟨ha,rfl⟩ | ⟨ha,rfl,_⟩ <;> rcases h' with ⟨ha',rfl⟩ | ⟨ha',e,_⟩
  ·rfl
  ·rw [ha] at ha'; cases ha'
  ·rw [ha] at ha'; cases ha'
  ·simpa using e.symm
 refine ⟨hkk,?_⟩
 rcases h with ⟨ha,rfl⟩ | ⟨ha,rfl,_⟩
 ·have key:∀ (l:List Value),(∀ v ∈ l,Instr.sameBits 9999 v v = true)→(l.zip l).all (fun (x,y) =>Instr.sameBits 9999 x y) = true :=by
   intro l
   induction l with
   | nil =>intro _; rfl
   | cons v r ih =>
    intro h
    simp only [List.zip_cons_cons,List.all_cons,Bool.and_eq_true]
    exact ⟨h v (by simp),ih (fun u hu =>h u (List.mem_cons_of_mem _ hu))⟩
  show Instr.sameBits (9999 + 1) (.agg ks.toArray) (.agg ks.toArray) = true
  simp only [Instr.sameBits,beq_self_eq_true,Bool.true_and]
  exact key ks (fun v hv =>shape_same hs v hv 9999)
 ·exact shape_same hs _ (by simp) _

section
variable {P:Program} {E:Env} {w:World} {Z:CA→Prop}

theorem keyS_eq {t:TypeId} {i:TI} {y:S} {ks:List Value} (h:keyS E t i y = some ks):keyT E t i = true∧shapeOk i.zero ks = true∧∃ g,y = .val g i.k.agg (ks.map .p)∧ks.length = i.size :=by
 cases y with
 | val g a cs =>
  obtain ⟨h1,h2⟩ :=(tE.1 (show tst _ _ none = some ks from h)).resolve_right (fun h =>by cases h.2)
  simp only [Bool.and_eq_true,decide_eq_true_eq] at h1
  obtain ⟨⟨h3,h4⟩,h5⟩ :=h1
  obtain ⟨vs,h6,h7⟩ :=bE.1 h2
  obtain ⟨h8,h9⟩ :=(tE.1 h7).resolve_right (fun h =>by cases h.2)
  simp at h9
  subst h9
  have he :=allPrim_eq h6
  have ha:a = i.k.agg :=by
   revert h4
   cases a <;> cases i.k.agg <;> simp [eqB]
  refine ⟨h3,h8,g,by rw [ha,he],?_⟩
  rw [he] at h5
  simpa using h5
 | _ =>simp [keyS] at h

theorem key_packs {l:List (Tmp × S)} {tm:Tmp→Value} {g:Nat} {b:Bool} {ks:List Value} {v:Value} {F:List CA} (h:Rep w Z l tm v F (.val g b (ks.map .p))):Packs b ks v :=by
 obtain ⟨vs,hp,hl,hr⟩ :=h
 have :=hr.prims (by simpa using hl)
 subst this
 exact hp

theorem key_prim (hT:TOk P E) {t:TypeId} {i:TI} (hi:E.T t = some i) (hk:keyT E t i = true) (ha:i.k.agg = false) {ks:List Value} (hs:shapeOk i.zero ks = true) :
  ∃ k d,ks = [k]∧P.underlying t = some d∧((∃ kk n,d = .int kk∧k = .int kk n)∨(d = .string∧∃ s,k = .string s)∨(d = .bool∧∃ b,k = .bool b)) :=by
 have hti :=hT _ _ hi
 simp only [keyT,ha,Bool.false_eq_true,if_false,Bool.or_eq_true] at hk
 rcases hk with (h | h) | h
 ·obtain ⟨kk,h⟩ :=Option.isSome_iff_exists.1 h
  obtain ⟨n,hz⟩ :=intT_eq h
  rw [hz] at hs
  match ks,hs with
  | [.int k' m],hs =>
   simp [shapeOk] at hs
   subst hs
   exact ⟨_,_,rfl,hti.int _ _ hz,.inl ⟨_,_,rfl,rfl⟩⟩
  | [],hs =>simp [shapeOk] at hs
  | .int _ _ :: _ :: _,hs =>simp [shapeOk] at hs
  | .bool _ :: _,hs =>simp [shapeOk] at hs
  | .string _ :: _,hs =>simp [shapeOk] at hs
  | .float _ _ :: _,hs =>simp [shapeOk] at hs
  | .complex _ _ _ :: _,hs =>simp [shapeOk] at hs
  | .pointer _ :: _,hs =>simp [shapeOk] at hs
  | .slice _ _ _ :: _,hs =>simp [shapeOk] at hs
  | .map _ :: _,hs =>simp [shapeOk] at hs
  | .chan _ :: _,hs =>simp [shapeOk] at hs
  | .func _ _ _ :: _,hs =>simp [shapeOk] at hs
  | .nilFunc :: _,hs =>simp [shapeOk] at hs
  | .iface _ _ :: _,hs =>simp [shapeOk] at hs
  | .nilIface :: _,hs =>simp [shapeOk] at hs
  | .agg _ :: _,hs =>simp [shapeOk] at hs
  | .tuple _ :: _,hs =>simp [shapeOk] at hs
 ·obtain ⟨b,hz⟩ :=strT_eq h
  rw [hz] at hs
  cases ks with
  | nil =>simp [shapeOk] at hs
  | cons v r =>
   cases v <;> simp [shapeOk] at hs
   cases r with
   | nil =>exact ⟨_,_,rfl,hti.str _ hz,.inr (.inl ⟨rfl,_,rfl⟩)⟩
   | cons _ _ =>simp [shapeOk] at hs
 ·obtain ⟨j,b,hj,hz⟩ :=boolT_eq h
  simp at hj
  subst hj
  rw [hz] at hs
  cases ks with
  | nil =>simp [shapeOk] at hs
  | cons v r =>
   cases v <;> simp [shapeOk] at hs
   cases r with
   | nil =>exact ⟨_,_,rfl,hti.bool _ hz,.inr (.inr ⟨rfl,_,rfl⟩)⟩
   | cons _ _ =>simp [shapeOk] at hs

theorem same_prim {d:TypeDesc} {k u:Value} {b:Bool} (hd:(∃ kk n,d = .int kk∧k = .int kk n)∨(d = .string∧∃ s,k = .string s)∨(d = .bool∧∃ b,k = .bool b)) (h:eqVals [k] [u] = some b):Instr.sameNow d k u = some b :=by
 obtain ⟨v,hv,h1⟩ :=bE.1 (show bnd (bin .eql k u) _ = some b from h)
 obtain ⟨t,ht,h2⟩ :=bE.1 h1
 obtain ⟨x,hx,h3⟩ :=bE.1 h2
 simp [eqVals] at hx
 subst hx
 simp at h3
 subst h3
 have hv' :=asBool_eq ht
 subst hv'
 rcases hd with ⟨kk,n,rfl,rfl⟩ | ⟨rfl,s,rfl⟩ | ⟨rfl,c,rfl⟩
 ·cases u <;> simp [bin,shiftV] at hv
  obtain ⟨rfl,hv⟩ :=hv
  simp [intBin] at hv
  subst hv
  simp [Instr.sameNow]
  by_cases e:n = ‹Int› <;> simp [e]
 ·cases u <;> simp [bin,shiftV] at hv
  simp [strBin] at hv
  subst hv
  simp [Instr.sameNow,bytes_beq]
 ·cases u <;> simp [bin,shiftV] at hv
  simp [boolBin] at hv
  subst hv
  simp [Instr.sameNow]

def resAt (es:List MapEntry) (r:Option (Nat × List C)) (o:Nat):Option (Nat × Value) :=r.bind fun q =>(es[q.1]?).map fun e =>(o + q.1,e.val)

theorem resAt_bump (e:MapEntry) (es:List MapEntry) (r:Option (Nat × List C)) (o:Nat):resAt (e :: es) (bump r) o = resAt es r (o + 1) :=by
 cases r with
 | none =>rfl
 | some q =>
  obtain ⟨i,row⟩ :=q
  simp only [resAt,bump,Option.bind_some,List.getElem?_cons_succ]
  congr 1
  funext e
  congr 1
  omega

theorem findNow_rep {d:TypeDesc} {k:Value} (hd:(∃ kk n,d = .int kk∧k = .int kk n)∨(d = .string∧∃ s,k = .string s)∨(d = .bool∧∃ b,k = .bool b)) {va:Bool} {nk:Nat} :
  ∀ {rows:List (List C)} {es:List MapEntry} {r:Option (Nat × List C)} (o:Nat),REs w Z rows false va nk es→findR [k] nk rows = some r→Instr.findNow d k es o = some (resAt es r o)
 | [],es,r,o,h,hf =>by
  rw [show es = [] from h]
  simp [findR] at hf
  subst hf
  rfl
 | row :: rs,es,r,o,h,hf =>by
  obtain ⟨e,es',rfl,h1,h2⟩ :=REs.cons_iff.1 h
  obtain ⟨us,hu,hf1⟩ :=bE.1 (show bnd (allPrim (row.take nk)) _ = some r from hf)
  obtain ⟨t,ht,hf2⟩ :=bE.1 hf1
  obtain ⟨hk,hl⟩ :=h1.key hu
  rcases hk with ⟨hk,_⟩ | ⟨_,hk,_⟩
  ·cases hk
  subst hk
  have hs :=same_prim hd ht
  rcases tE.1 hf2 with ⟨rfl,hf3⟩ | ⟨rfl,hf3⟩
  ·simp at hf3
   subst hf3
   simp [Instr.findNow,hs,resAt]
  ·obtain ⟨q,hq,hf4⟩ :=bE.1 hf3
   simp at hf4
   subst hf4
   rw [resAt_bump]
   simp only [Instr.findNow,hs]
   exact findNow_rep hd (o + 1) h2 hq

theorem findAsking_rep (hE:EqOk P E) {t:TypeId} {i:TI} (hi:E.T t = some i) (hk:E.eqT t = true) {ks:List Value} (hs:shapeOk i.zero ks = true) {va:Bool} {nk:Nat} :
  ∀ {rows:List (List C)} {es:List MapEntry} {r:Option (Nat × List C)} (o:Nat),REs w Z rows true va nk es→findR ks nk rows = some r→(Instr.findAsking t (.agg ks.toArray) es o).run P w = .ok (resAt es r o) w
 | [],es,r,o,h,hf =>by
  rw [show es = [] from h]
  simp [findR] at hf
  subst hf
  simp [Instr.findAsking,resAt]
 | row :: rs,es,r,o,h,hf =>by
  obtain ⟨e,es',rfl,h1,h2⟩ :=REs.cons_iff.1 h
  obtain ⟨us,hu,hf1⟩ :=bE.1 (show bnd (allPrim (row.take nk)) _ = some r from hf)
  obtain ⟨b,hb,hf2⟩ :=bE.1 hf1
  obtain ⟨hk2,hl⟩ :=h1.key hu
  rcases hk2 with ⟨_,hk2⟩ | ⟨hk2,_⟩
  case inr =>cases hk2
  have hrun :=(((hE.1 t i hk hi w ks hs).1 us b hb).2)
  rw [← hk2] at hrun
  simp only [Instr.findAsking,Sem.run_bind,hrun,Result.andThen_ok]
  rcases tE.1 hf2 with ⟨rfl,hf3⟩ | ⟨rfl,hf3⟩
  ·simp at hf3
   subst hf3
   simp [resAt]
  ·obtain ⟨q,hq,hf4⟩ :=bE.1 hf3
   simp at hf4
   subst hf4
   rw [resAt_bump]
   simp only [Bool.false_eq_true,if_false]
   exact findAsking_rep hE hi hk hs (o + 1) h2 hq

theorem packs_agg {ks:List Value} {k:Value} (h:Packs true ks k):k = .agg ks.toArray :=by
 rcases h with ⟨_,h⟩ | ⟨h,_⟩
 ·exact h
 ·cases h
theorem packs_prim {ks:List Value} {k:Value} (h:Packs false ks k):ks = [k] :=by
 rcases h with ⟨h,_⟩ | ⟨_,h,_⟩
 ·cases h
 ·exact h

theorem run_find (hT:TOk P E) (hE:EqOk P E) {t:TypeId} {i:TI} (hi:E.T t = some i) (hk:keyT E t i = true) {ks:List Value} (hs:shapeOk i.zero ks = true) {k:Value} (hp:Packs i.k.agg ks k) {va:Bool} {nk:Nat}
  {rows:List (List C)} {es:List MapEntry} {r:Option (Nat × List C)} (h:REs w Z rows i.k.agg va nk es) (hf:findR ks nk rows = some r) :
  (Instr.findKey t k es).run P w = .ok (resAt es r 0) w∧∀ e,(Instr.checkKey e 10000 t k).run P w = .ok () w :=by
 cases ha:i.k.agg with
 | false =>
  rw [ha] at hp h
  obtain ⟨k',d,hks,hu,hd⟩ :=key_prim hT hi hk ha hs
  have :=packs_prim hp
  rw [hks] at this
  simp at this
  subst this
  subst hks
  have hn :=findNow_rep hd 0 h hf
  refine ⟨by simp [Instr.findKey,run_underlying hu,hn],fun e =>?_⟩
  have key:∀ n,(Instr.checkKey e (n + 1) t k').run P w = .ok () w :=by
   intro n
   rcases hd with ⟨kk,n,rfl,rfl⟩ | ⟨rfl,s,rfl⟩ | ⟨rfl,c,rfl⟩ <;> simp [Instr.checkKey,run_underlying hu]
  exact key 9999
 | true =>
  rw [ha] at hp h
  have :=packs_agg hp
  subst this
  have hq:E.eqT t = true :=by simpa [keyT,ha] using hk
  have hst:∃ fs,P.underlying t = some (.struct fs) :=by
   have hkd :=(hT _ _ hi).kind
   cases hki:i.k with
   | strct offs =>
    rw [hki] at hkd
    obtain ⟨fs,h,_⟩ :=hkd
    exact ⟨fs,h⟩
   | _ =>rw [hki] at ha; simp [TK.agg] at ha
  obtain ⟨fs,hu⟩ :=hst
  refine ⟨?_,fun e =>(hE.1 t i hq hi w ks hs).2 e⟩
  cases es with
  | nil =>
   have hr0:rows = [] :=by
    have :=h.length
    simp at this
    exact List.eq_nil_of_length_eq_zero this.symm
   subst hr0
   simp [findR] at hf
   subst hf
   simp [Instr.findKey,run_underlying hu,Instr.findNow,resAt]
  | cons e es' =>
   have hn:Instr.findNow (.struct fs) (.agg ks.toArray) (e :: es') 0 = none :=by
    simp [Instr.findNow,Instr.sameNow]
   simp only [Instr.findKey,Sem.run_bind,run_underlying hu,Result.andThen_ok,hn]
   exact findAsking_rep hE hi hq hs 0 h hf

theorem findR_get {ks:List Value} {nk:Nat}:∀ {rows:List (List C)} {i:Nat} {row:List C},findR ks nk rows = some (some (i,row))→rows[i]? = some row∧allPrim (row.take nk) = some ks
 | [],i,row,h =>by simp [findR] at h
 | r :: rs,i,row,h =>by
  obtain ⟨us,hu,h1⟩ :=bE.1 (show bnd (allPrim (r.take nk)) _ = some (some (i,row)) from h)
  obtain ⟨b,hb,h2⟩ :=bE.1 h1
  rcases tE.1 h2 with ⟨rfl,h3⟩ | ⟨rfl,h3⟩
  ·simp at h3
   obtain ⟨rfl,rfl⟩ :=h3
   exact ⟨rfl,by rw [eqVals_true hb]; exact hu⟩
  ·obtain ⟨q,hq,h4⟩ :=bE.1 h3
   cases q with
   | none =>simp [bump] at h4
   | some q =>
    obtain ⟨j,row'⟩ :=q
    simp [bump] at h4
    obtain ⟨rfl,rfl⟩ :=h4
    obtain ⟨h5,h6⟩ :=findR_get hq
    exact ⟨by simpa using h5,h6⟩
end
end Go.Sx

/- Maps: the operations. -/
namespace Go.Sx
section
variable {P:Program} {E:Env} {w:World} {Z:CA→Prop} {a:Act} {s:St} {fp:Tmp→List CA} {ty:TypeId}

theorem asMp_eq {c:C} {m:MpV} (h:asMp c = some m):c = .mp m.f m.kd m.ka m.va m.nk m.rows :=by
 cases c with
 | mp f kd ka va nk rows =>simp [asMp] at h; subst h; rfl
 | _ =>simp [asMp] at h

theorem mapS_rep {tm:Tmp→Value} (h:Inv w Z tm s fp) {u:S} {v:Value} {m:MpV} (hu:Rep w Z s.sl tm v [] u) (hm:mapS s u = some m):∃ F,RC w Z (.mp m.f m.kd m.ka m.va m.nk m.rows) v F :=by
 obtain ⟨z,hz,h1⟩ :=bE.1 hm
 obtain ⟨c,hc,h2⟩ :=bE.1 h1
 obtain ⟨vs,F,hp,hl,hr,_,_⟩ :=cells_rep (a :=z.1) (ys :=z.2) h hu (by simpa using hz)
 obtain ⟨e1,e2⟩ :=one1_eq hc
 rw [e1] at hp
 rw [e2] at hl hr
 rw [asMp_eq h2] at hl hr
 exact ⟨F,(packs_one hp hl hr).2⟩

theorem ownMap_rep {tm:Tmp→Value} (h:Inv w Z tm s fp) {u:S} {v:Value} {r:Tmp} {m:MpV} (hu:Rep w Z s.sl tm v [] u) (hm:ownMap s u = some (r,m)) :
  (look s.sl r).root = some [.mp .own m.kd m.ka m.va m.nk m.rows]∧rget w (look s.sl r) (tm r) 0 = some v∧m.f = .own :=by
 cases u with
 | lnk q k off n b el win =>
  obtain ⟨m',hm',h1⟩ :=bE.1 (show bnd (mapS s (.lnk q k off n b el win)) _ = some (r,m) from hm)
  cases el with
  | some _ =>simp at h1
  | none =>
  cases win with
  | some _ =>simp at h1
  | none =>
  obtain ⟨h2,h3⟩ :=(tE.1 h1).resolve_right (fun h =>by cases h.2)
  obtain ⟨cs,hroot,h4⟩ :=bE.1 h3
  obtain ⟨c,hc,h5⟩ :=bE.1 h4
  simp at h5
  obtain ⟨rfl,rfl⟩ :=h5
  simp only [Bool.and_eq_true,decide_eq_true_eq] at h2
  obtain ⟨hf,rfl⟩ :=h2
  have hcs :=oneC_eq hc
  subst hcs
  obtain ⟨z,hz,h6⟩ :=bE.1 hm'
  obtain ⟨c',hc',h7⟩ :=bE.1 h6
  obtain ⟨cs',hroot',h8⟩ :=bE.1 (show bnd ((look s.sl q).rootL k) _ = some z from hz)
  rw [hroot] at hroot'
  simp at hroot'
  subst hroot'
  obtain ⟨xs,hg,h9⟩ :=bE.1 h8
  obtain ⟨ys,hw,h10⟩ :=bE.1 h9
  simp [winC] at hw
  subst hw
  simp at h10
  subst h10
  obtain ⟨hb,hx⟩ :=one1_eq hc'
  simp only at hb hx
  subst hb hx
  obtain ⟨pre,post,e1,e2,e3⟩ :=getP_none hg
  have hpre:pre = [] :=List.eq_nil_of_length_eq_zero e2
  subst hpre
  simp at e1
  obtain ⟨rfl,rfl⟩ :=e1
  have hmc :=asMp_eq h7
  have hfo:m'.f = .own :=by cases hmf:m'.f <;> rw [hmf] at hf <;> first | rfl | cases hf
  rw [hmc,hfo] at hroot
  refine ⟨(rootL_root hroot).1,?_,hfo⟩
  obtain ⟨_,vs,hn,hj,hp⟩ :=hu.2 _ hroot
  have hp:Packs false vs v :=hp
  have hvs :=packs_prim hp
  subst hvs
  have :=hj 0 (by rw [← e3]; simp)
  simpa [pget] using this
 | _ =>simp [ownMap] at hm

theorem Inv.mapTurn {tm:Tmp→Value} (h:Inv w Z tm s fp) {r:Tmp} {kd nk:Nat} {ka va:Bool} {rows:List (List C)} (hroot:(look s.sl r).root = some [.mp .own kd ka va nk rows]) {v:Value} (hv:rget w (look s.sl r) (tm r) 0 = some v) :
  ∃ b l,(b,0) ∈ fp r∧MapAt w Z b l kd v∧REs w Z rows ka va nk l∧Mine w Z (b,0) ∧
   ∀ (w':World) (Z':CA→Prop) (c':C) (F':List CA),Goes w w' (fun c =>c = (b,0))→(∀ c,Z c→Z' c)→(∀ c,Z' c→Z c∨(c = (b,0)∧F' = []))→RC w' Z' c' v F'→(F' = []∨F' = [(b,0)]) →
    ∃ fp',Inv w' Z' tm (Sx.upd r [c'] s) fp'∧(∀ t,∀ c ∈ fp' t,c ∈ fp t) :=by
 obtain ⟨D,G,hF,hG,hget,hmk⟩ :=(h.rep r).root2 hroot
 obtain ⟨v0,F1,F2,h0,hrc,hr2,hGe⟩ :=hG
 have hF2:F2 = [] :=hr2
 subst hF2
 rw [hv] at h0
 simp at h0
 subst h0
 obtain ⟨b,l,hma,hre,hf⟩ :=hrc
 have hF1:F1 = [(b,0)] :=by
  rcases hf with ⟨hf,_⟩ | ⟨_,hf⟩
  ·cases hf
  ·exact hf
 subst hF1
 simp at hGe
 subst hGe
 have hb:(b,0) ∈ fp r :=by rw [hF]; simp
 have hmb :=h.mine r _ hb
 have hnd :=h.nd r
 rw [hF,List.nodup_append] at hnd
 have hbD:(b,0) ∉ D :=fun hm =>hnd.2.2 _ hm (b,0) (by simp) rfl
 refine ⟨b,l,hb,hma,hre,hmb,?_⟩
 intro w' Z' c' F' hgo hZ hZ' hc' hF'
 have hF's:∀ c ∈ F',c = (b,0) :=fun c hc =>by
  rcases hF' with e | e
  ·rw [e] at hc; cases hc
  ·rw [e] at hc; simpa using hc
 have mineK:∀ {t:Tmp} {c:CA},c ∈ fp t→c ≠ (b,0)→Mine w' Z' c :=fun {t c} hc hne =>by
  have hm :=h.mine t c hc
  exact ⟨hgo.some c hm.1,by rw [hgo.fro c (cell_lt hm.1)]; exact hm.2.1,fun hz =>(hZ' c hz).elim hm.2.2 (fun e =>hne e.1)⟩
 have hsub:∀ c ∈ D ++ F',c ∈ fp r :=fun c hc =>by
  rw [hF]
  rcases List.mem_append.1 hc with hc | hc
  ·exact List.mem_append_left _ hc
  ·rw [hF's c hc]; simp
 have hkeep:∀ c,(c ∈ D∨Z c)→gcell w' c = gcell w c :=fun c hc =>by
  rcases hc with hc | hc
  ·have hcf:c ∈ fp r :=by rw [hF]; exact List.mem_append_left _ hc
   exact hgo.cells c (cell_lt (h.mine r c hcf).1) (fun e =>hbD (e ▸ hc))
  ·exact hgo.cells c (cell_lt (h.zok c hc)) (fun e =>hmb.2.2 (e ▸ hc))
 have hget0:rget w' (look s.sl r) (tm r) 0 = some v :=by
  rw [hget w' hkeep 0 (by simp)]
  exact hv
 have hrl:RL w' Z' [c'] (rget w' (look s.sl r) (tm r)) F' :=⟨v,F',[],hget0,hc',rfl,by simp⟩
 refine ⟨fun t =>if t = r then D ++ F' else fp t,?_,fun t c hc =>?_⟩
 ·refine h.upd (r :=r) (cs' :=[c']) (F' :=D ++ F') (by rw [hroot]; rfl) hZ ?_ (fun l tm0 =>hmk w' Z' [c'] F' l tm0 s.cnt hZ rfl hrl) ?_ ?_ ?_ ?_ ?_
  ·intro t ht
   refine hgo.same (fun c hc =>?_)
   rcases hc with hc | hc
   ·exact ⟨(h.mine t c hc).1,fun e =>h.disj r t (fun e =>ht e.symm) (b,0) hb (e ▸ hc)⟩
   ·exact ⟨h.zok c hc,fun e =>hmb.2.2 (e ▸ hc)⟩
  ·rw [List.nodup_append]
   refine ⟨hnd.1,?_,fun c hc d hd e =>?_⟩
   ·rcases hF' with e | e <;> rw [e] <;> simp
   ·subst e
    rw [hF's c hd] at hc
    exact hbD hc
  ·intro c hc
   rcases List.mem_append.1 hc with hc | hc
   ·exact mineK (t :=r) (hsub c (List.mem_append_left _ hc)) (fun e =>hbD (e ▸ hc))
   ·have e :=hF's c hc
    subst e
    have hne:F' ≠ [] :=fun e =>by rw [e] at hc; cases hc
    exact ⟨hgo.some _ hmb.1,by rw [hgo.fro _ (cell_lt hmb.1)]; exact hmb.2.1,fun hz =>(hZ' _ hz).elim hmb.2.2 (fun e =>hne e.2)⟩
  ·exact fun t ht c hc =>h.disj r t (fun e =>ht e.symm) c (hsub c hc)
  ·exact fun t ht c hc =>mineK hc (fun e =>h.disj r t (fun e =>ht e.symm) (b,0) hb (e ▸ hc))
  ·intro c hc
   rcases hZ' c hc with hc | ⟨rfl,_⟩
   ·exact hgo.some c (h.zok c hc)
   ·exact hgo.some _ hmb.1
 ·by_cases ht:t = r
  ·simp only [if_pos ht] at hc
   rw [ht]
   exact hsub c hc
  ·simp only [if_neg ht] at hc
   exact hc

theorem kv_under (hT:TOk P E) {t:TypeId} {i:TI} (hi:E.T t = some i) {q:TypeId × TypeId} (hq:i.k.kv = some q):P.underlying t = some (.map q.1 q.2) :=by
 have hk :=(hT _ _ hi).kind
 cases hki:i.k with
 | mp k e =>
  rw [hki] at hk hq
  simp [TK.kv] at hq
  subst hq
  exact hk.2
 | _ =>rw [hki] at hq; simp [TK.kv] at hq

theorem zero_packs (hT:TOk P E) {t:TypeId} {i:TI} (hi:E.T t = some i):∃ z,(∀ w,(zeroValue t).run P w = .ok z w)∧Packs i.k.agg z.cells.toList z∧z.cells.toList.length = (borRow i.zero).length ∧
  ∀ (w:World) (Z:CA→Prop),RL w Z (borRow i.zero) (fun j =>z.cells.toList[j]?) [] :=by
 obtain ⟨inf,z,h1,h2,h3,h4,h5,h6,h7,h8⟩ :=(hT _ _ hi).info
 have hrl:∀ (w:World) (Z:CA→Prop),RL w Z i.zero (fun j =>z.cells.toList[j]?) [] :=fun w Z =>(zeroL_rep h6).2
 have hlen :=(zeroL_rep (w :=default) (Z :=fun _ =>False) h6).1
 refine ⟨z,fun w =>by simp [zeroValue,typeInfo,h1,h4],?_,by rw [borRow_length]; exact hlen,fun w Z =>RL.bor (fun _ h =>h) i.zero (hrl w Z) (by simp)⟩
 cases ha:i.k.agg with
 | true =>
  obtain ⟨cs,rfl⟩ :=h8 ha
  exact .inl ⟨rfl,rfl⟩
 | false =>
  have :=h7 ha
  refine .inr ⟨rfl,?_,this⟩
  cases z <;> first | rfl | simp [Value.oneCell'] at this

theorem eqB_eq {x y:Bool} (h:eqB x y = true):x = y :=by
 cases x <;> cases y <;> simp [eqB] at h <;> rfl

theorem fits_eq {m:MpV} {ik ie:TI} (h:fits m ik ie = true):m.kd = 0∧m.ka = ik.k.agg∧m.va = ie.k.agg∧m.nk = ik.size :=by
 simp only [fits,Bool.and_eq_true,decide_eq_true_eq] at h
 exact ⟨h.1.1.1,eqB_eq h.1.1.2,eqB_eq h.1.2,h.2⟩

theorem rep_two {l:List (Tmp × S)} {tm:Tmp→Value} {b:Bool} {cs:List C} {vs:List Value} {v u:Value} (hp:Packs b vs v) (hl:vs.length = cs.length) (hr:RL w Z cs (fun i =>vs[i]?) []) (hu:u.oneCell' = true) :
  Rep w Z l tm (.tuple #[v,u]) [] (.tup [(b,cs),(false,[.p u])]) :=
 ⟨[v,u],rfl,vs,[],[],hp,hl,hr,⟨[u],[],[],.inr ⟨rfl,rfl,hu⟩,rfl,⟨u,[],[],rfl,⟨rfl,hu,rfl⟩,rfl,rfl⟩,rfl,rfl⟩,rfl⟩

theorem makeMap_runs (hT:TOk P E) (h:Inv w Z (Act.tm a) s fp) {call:Sem1} {t:TypeId} {s':St} {r:S} (he:ev1 E call ty s (.makeMap t none) = some (s',r)) :
  Runs P a (.makeMap t none) ty w (Brings w Z (Act.tm a) fp s' r) :=by
 obtain ⟨i,hi,he⟩ :=bE.1 (show bnd (E.T t) _ = some (s',r) from he)
 obtain ⟨q,hq,he⟩ :=bE.1 he
 obtain ⟨ik,hik,he⟩ :=bE.1 he
 obtain ⟨ie,hie,he⟩ :=bE.1 he
 simp at he
 obtain ⟨rfl,rfl⟩ :=he
 have ho:∀ cs e f,(Obj.map #[] 0) ≠ .cells cs e f :=fun _ _ _ e =>by cases e
 have hg :=gcell_alloc w ho
 have hgo:Goes w (w.alloc (.map #[] 0)) (fun c =>∃ t,c ∈ fp t) :=goes_alloc w _ _
 have hsame:∀ t,Same w (w.alloc (.map #[] 0)) (fp t) Z :=fun t =>(goes_alloc w (.map #[] 0) (fun _ =>False)).same (fun c hc =>⟨hc.elim (fun hc =>(h.mine t c hc).1) (h.zok c),fun e =>e.elim⟩)
 have hnew:∀ t,(w.heap.size,0) ∉ fp t :=fun t hm =>by have :=cell_lt (h.mine t _ hm).1; simp at this
 have hmw:∀ {c},Mine w Z c→Mine (w.alloc (.map #[] 0)) Z c :=fun {c} hm =>⟨hgo.some c hm.1,by rw [hgo.fro c (cell_lt hm.1)]; exact hm.2.1,hm.2.2⟩
 have hinv:Inv (w.alloc (.map #[] 0)) Z (Act.tm a) s fp :=h.world (fun _ h =>h) hsame (fun t c hc =>hmw (h.mine t c hc)) (fun c hc =>hgo.some c (h.zok c hc))
 refine ⟨.map (some w.heap.size),w.alloc (.map #[] 0),⟨Z,fp,[(w.heap.size,0)],?_⟩,fun o h1 h2 =>.inl ?_⟩
 ·refine { goes :=hgo,zz :=fun _ h =>h,zfrom :=fun _ h =>.inl h,inv :=hinv,rep :=?_,lt :=trivial,nd :=by simp,mine :=?_,apart :=?_,from_ :=?_ }
  ·refine ⟨[.map (some w.heap.size)],.inr ⟨rfl,rfl,rfl⟩,rfl,_,[(w.heap.size,0)],[],rfl,⟨w.heap.size,[],⟨rfl,#[],hg,?_,rfl⟩,rfl,.inr ⟨by simp,rfl⟩⟩,rfl,by simp⟩
   intro i e hi
   simp at hi
  ·intro c hc
   simp at hc
   subst hc
   refine ⟨by rw [hg]; rfl,fro_obj (c :=(w.heap.size,0)) (alloc_new w _) ho,fun hz =>?_⟩
   have :=cell_lt (h.zok _ hz)
   simp at this
  ·intro t c hc
   simp at hc
   subst hc
   exact hnew t
  ·intro c hc
   rcases hc with hc | ⟨t,hc⟩
   ·simp at hc
    subst hc
    exact .inr (Nat.le_refl _)
   ·exact .inl ⟨t,hc⟩
 ·simp [execOp,h1,Instr.makeMap]

theorem look_rep (hT:TOk P E) {e:TypeId} {ie:TI} (hie:E.T e = some ie) {ka:Bool} {nk:Nat} {rows:List (List C)} {l:List MapEntry} (hre:REs w Z rows ka ie.k.agg nk l) {ks:List Value} {r0:Option (Nat × List C)} (hf:findR ks nk rows = some r0) :
  (∃ j row en vs,r0 = some (j,row)∧rows[j]? = some row∧l[j]? = some en∧resAt l r0 0 = some (j,en.val)∧Packs ie.k.agg vs en.val∧vs.length = (row.drop nk).length∧RL w Z (row.drop nk) (fun i =>vs[i]?) []) ∨
  (r0 = none∧resAt l r0 0 = none) :=by
 cases r0 with
 | none =>exact .inr ⟨rfl,rfl⟩
 | some q =>
  obtain ⟨j,row⟩ :=q
  obtain ⟨h1,_⟩ :=findR_get hf
  obtain ⟨en,h2,h3⟩ :=hre.get h1
  obtain ⟨vs,h4,h5,h6⟩ :=h3.val
  exact .inl ⟨j,row,en,vs,rfl,h1,h2,by simp [resAt,h2],h4,h5,h6⟩

theorem lookup_runs (hT:TOk P E) (hE:EqOk P E) (h:Inv w Z (Act.tm a) s fp) {call:Sem1} {t:TypeId} {x y:Operand} {ok:Bool} {s':St} {r:S} (he:ev1 E call ty s (.lookup t x y ok) = some (s',r)) :
  Runs P a (.lookup t x y ok) ty w (Brings w Z (Act.tm a) fp s' r) :=by
 obtain ⟨i,hi,he⟩ :=bE.1 (show bnd (E.T t) _ = some (s',r) from he)
 obtain ⟨v,hv,he⟩ :=bE.1 he
 obtain ⟨u,hu,he⟩ :=bE.1 he
 obtain ⟨q,hq,he⟩ :=bE.1 (show bnd i.k.kv _ = some (s',r) from he)
 obtain ⟨ik,hik,he⟩ :=bE.1 he
 obtain ⟨ie,hie,he⟩ :=bE.1 he
 obtain ⟨m,hm,he⟩ :=bE.1 he
 obtain ⟨ks,hks,he⟩ :=bE.1 he
 obtain ⟨hfit,he⟩ :=(tE.1 he).resolve_right (fun h =>by cases h.2)
 obtain ⟨r0,hf,he⟩ :=bE.1 he
 simp at he
 obtain ⟨rfl,rfl⟩ :=he
 have hun :=kv_under hT hi hq
 obtain ⟨ek,eka,eva,enk⟩ :=fits_eq hfit
 obtain ⟨F,b,l,hma,hre,_⟩ :=mapS_rep h (rd_rep hT h hv).1 hm
 rw [ek] at hma
 obtain ⟨hmv,es,hg,hborn,hl⟩ :=hma
 subst hl
 obtain ⟨hkt,hsh,g,hu2,hkl⟩ :=keyS_eq hks
 subst hu2
 have hkp :=key_packs (rd_rep hT h hu).1
 rw [eka,eva] at hre
 obtain ⟨hfind,hchk⟩ :=run_find (w :=w) hT hE hik hkt hsh hkp hre hf
 have hgo :=run_getO (P :=P) hg
 rcases look_rep hT hie hre hf with ⟨j,row,en,vs,rfl,h1,h2,h3,h4,h5,h6⟩ | ⟨rfl,h3⟩
 ·rw [h3] at hfind
  cases ok with
  | true =>
   refine runs_still h (x :=lookRes m ie true (some (j,row))) (v :=.tuple #[en.val,.bool true]) ?_ trivial (fun o o1 o2 =>?_)
   ·rw [← eva] at h4
    exact rep_two h4 h5 h6 rfl
   ·simp [execOp,o1,Instr.lookup,run_underlying hun,hmv,hgo,hchk,hfind]
  | false =>
   refine runs_still h (x :=lookRes m ie false (some (j,row))) (v :=en.val) ?_ trivial (fun o o1 o2 =>?_)
   ·rw [← eva] at h4
    exact ⟨vs,h4,h5,h6⟩
   ·simp [execOp,o1,Instr.lookup,run_underlying hun,hmv,hgo,hchk,hfind]
 ·rw [h3] at hfind
  obtain ⟨z,hz,hzp,hzl,hzr⟩ :=zero_packs hT hie
  cases ok with
  | true =>
   refine runs_still h (x :=lookRes m ie true none) (v :=.tuple #[z,.bool false]) (rep_two hzp hzl (hzr w Z) rfl) trivial (fun o o1 o2 =>?_)
   simp [execOp,o1,Instr.lookup,run_underlying hun,hmv,hgo,hchk,hfind,hz]
  | false =>
   refine runs_still h (x :=lookRes m ie false none) (v :=z) ⟨_,hzp,hzl,hzr w Z⟩ trivial (fun o o1 o2 =>?_)
   simp [execOp,o1,Instr.lookup,run_underlying hun,hmv,hgo,hchk,hfind,hz]

theorem done_map (h:Inv w Z (Act.tm a) s fp) {b:Nat} {o o0:Obj} {s':St} {fp':Tmp→List CA} {v:Value} {x:S} (h0:gcell w (b,0) = some (.inr o0)) (ho:∀ cs e f,o ≠ .cells cs e f) {r:Tmp} (hb:(b,0) ∈ fp r)
  (hinv:Inv (setO w b o) Z (Act.tm a) s' fp') (hsub:∀ t,∀ c ∈ fp' t,c ∈ fp t) (hx:Rep (setO w b o) Z s'.sl (Act.tm a) v [] x) (hl:x.linksLt s'.cnt):Done w Z (Act.tm a) fp (setO w b o) Z s' fp' v [] x where
 goes :=goes_setO h0 ho ⟨r,hb⟩
 zz :=fun _ h =>h
 zfrom :=fun _ h =>.inl h
 inv :=hinv
 rep :=hx
 lt :=hl
 nd :=List.nodup_nil
 mine :=by simp
 apart :=by simp
 from_ :=fun c hc =>.inl (by
  rcases hc with hc | ⟨t,hc⟩
  ·cases hc
  ·exact ⟨t,hsub t c hc⟩)

theorem born_push {es:Array MapEntry} (h:Born es) (k v:Value):Born (es.push ⟨k,v,es.size⟩) :=by
 intro i e hi
 rw [Array.getElem?_push] at hi
 split at hi
 ·rename_i e'
  simp at hi
  subst hi
  exact e'.symm
 ·exact h i e hi
theorem born_modify {es:Array MapEntry} (h:Born es) (j:Nat) (f:MapEntry→MapEntry) (hf:∀ e,(f e).born = e.born):Born (es.modify j f) :=by
 intro i e hi
 rw [Array.getElem?_modify] at hi
 split at hi
 ·rename_i hij
  cases hh:es[i]? with
  | none =>rw [hh] at hi; cases hi
  | some e0 =>
   rw [hh] at hi
   simp at hi
   subst hi
   rw [hf]
   exact h i e0 hh
 ·exact h i e hi

theorem modify_list {es:Array MapEntry} {j:Nat} {en:MapEntry} (h:es.toList[j]? = some en) (f:MapEntry→MapEntry):(es.modify j f).toList = es.toList.set j (f en) :=by
 apply List.ext_getElem?
 intro i
 have h1:(es.modify j f).toList[i]? = (es.modify j f)[i]? :=by rw [Array.getElem?_toList]
 have h2:es.toList[i]? = es[i]? :=by rw [Array.getElem?_toList]
 rw [h1,Array.getElem?_modify,List.getElem?_set]
 have hj:j < es.toList.length :=(List.getElem?_eq_some_iff.1 h).1
 by_cases e:j = i
 ·subst e
  simp only [if_true,hj]
  rw [show es[j]? = some en by simpa using h]
  rfl
 ·rw [if_neg e,if_neg e,h2]

theorem run_keep {old new:Value} (h:Instr.sameBits 10000 old new = true):(Instr.keyThatStays old new).run P w = .ok new w :=by
 simp [Instr.keyThatStays,h]

theorem free_val {tm:Tmp→Value} (h:Inv w Z tm s fp) {u:S} {v:Value} {z:Bool × List C} (hu:Rep w Z s.sl tm v [] u) (hz:cells s u = some z) (hf:allFree z.2 = true) :
  ∃ vs,Packs z.1 vs v∧vs.length = z.2.length∧RL w Z z.2 (fun i =>vs[i]?) [] :=by
 obtain ⟨vs,F,hp,hl,hr,_,_⟩ :=cells_rep (a :=z.1) (ys :=z.2) h hu (by simpa using hz)
 have hF :=hr.free hf
 subst hF
 exact ⟨vs,hp,hl,hr⟩

theorem Goes.rl {w':World} {F:CA→Prop} (hg:Goes w w' F) {cs:List C} {vs:List Value} (h:RL w Z cs (fun i =>vs[i]?) []) (hz:∀ c,Z c→(gcell w c).isSome = true∧¬ F c):RL w' Z cs (fun i =>vs[i]?) [] :=
 RL.same (fun _ h =>h) cs h (hg.same (fun c hc =>hz c (hc.resolve_left (by simp)))) (fun _ _ =>rfl)

theorem Goes.res {w':World} {F:CA→Prop} (hg:Goes w w' F) {rows:List (List C)} {ka va:Bool} {nk:Nat} {l:List MapEntry} (h:REs w Z rows ka va nk l) (hz:∀ c,Z c→(gcell w c).isSome = true∧¬ F c):REs w' Z rows ka va nk l :=
 REs.same (fun _ h =>h) rows h (fun c hc =>hg.cells c (cell_lt (hz c hc).1) (hz c hc).2)

theorem map_write (h:Inv w Z (Act.tm a) s fp) {r:Tmp} {m:MpV} {v:Value} (hroot:(look s.sl r).root = some [.mp .own m.kd m.ka m.va m.nk m.rows]) (hv:rget w (look s.sl r) (Act.tm a r) 0 = some v) (hf:m.f = .own) (hkd:m.kd = 0) :
  ∃ b es,v = .map (some b)∧gcell w (b,0) = some (.inr (.map es es.size))∧Born es∧REs w Z m.rows m.ka m.va m.nk es.toList ∧
   ∀ (rows':List (List C)) (es':Array MapEntry),Born es'→REs w Z rows' m.ka m.va m.nk es'.toList →
    ∀ {u:Value} {x:S},(∀ l tm,Rep (setO w b (.map es' es'.size)) Z l tm u [] x)→x.linksLt 0→Brings w Z (Act.tm a) fp (upd r (m.with rows') s) x u (setO w b (.map es' es'.size)) :=by
 obtain ⟨b,l,hb,hma,hre,hmb,hnew⟩ :=h.mapTurn hroot hv
 rw [hkd] at hma
 obtain ⟨hmv,es,hg,hborn,rfl⟩ :=hma
 refine ⟨b,es,hmv,hg,hborn,hre,?_⟩
 intro rows' es' hborn' hre' u x hx hl
 have ho:∀ cs e f,(Obj.map es' es'.size) ≠ .cells cs e f :=fun _ _ _ e =>by cases e
 have hgo:Goes w (setO w b (.map es' es'.size)) (fun c =>c = (b,0)) :=goes_setO hg ho rfl
 have hzz:∀ c,Z c→(gcell w c).isSome = true∧¬ c = (b,0) :=fun c hc =>⟨h.zok c hc,fun e =>hmb.2.2 (e ▸ hc)⟩
 obtain ⟨fp',hinv,hsub⟩ :=hnew _ Z (.mp .own m.kd m.ka m.va m.nk rows') [(b,0)] hgo (fun _ h =>h) (fun c hc =>.inl hc)
  ⟨b,es'.toList,by rw [hkd]; exact ⟨hmv,es',gcell_setO hg ho,hborn',rfl⟩,hgo.res hre' hzz,.inr ⟨by simp,rfl⟩⟩ (.inr rfl)
 rw [show m.with rows' = [.mp .own m.kd m.ka m.va m.nk rows'] by simp [MpV.with,hf]]
 refine ⟨Z,fp',[],done_map h hg ho hb hinv hsub (hx _ _) ?_⟩
 cases x <;> simp only [S.linksLt] at hl ⊢ <;> omega

theorem putR_rep {rows:List (List C)} {ka va:Bool} {nk:Nat} {es:Array MapEntry} (hre:REs w Z rows ka va nk es.toList) (hborn:Born es) {ks:List Value} {r0:Option (Nat × List C)} (hf:findR ks nk rows = some r0) {k v:Value} {vs:List Value} {ds:List C}
  (hk:Packs ka ks k) (hkl:ks.length = nk) (hv:Packs va vs v) (hvl:vs.length = ds.length) (ho:∀ u ∈ ks,u.oneCell' = true) (hr:RL w Z ds (fun i =>vs[i]?) []) :
  ∃ es',Born es'∧REs w Z (putR ks ds rows r0) ka va nk es'.toList∧es' = match r0 with
   | none =>es.push ⟨k,v,es.size⟩
   | some (j,_) =>es.modify j fun e =>{ e with key :=k,val :=v } :=by
 refine ⟨_,?_,?_,rfl⟩
 ·cases r0 with
  | none =>exact born_push hborn k v
  | some q =>exact born_modify hborn _ _ (fun _ =>rfl)
 ·cases r0 with
  | none =>
   simp only [putR,Array.toList_push]
   exact hre.snoc (EntOk.mk hk hv hkl hvl ho hr)
  | some q =>
   obtain ⟨j,row⟩ :=q
   obtain ⟨h1,_⟩ :=findR_get hf
   obtain ⟨en,h2,_⟩ :=hre.get h1
   simp only [putR]
   rw [modify_list h2]
   exact hre.set (EntOk.mk hk hv hkl hvl ho hr)

theorem update_runs (hT:TOk P E) (hE:EqOk P E) (h:Inv w Z (Act.tm a) s fp) {call:Sem1} {t:TypeId} {x y z:Operand} {s':St} {r:S} (he:ev1 E call ty s (.mapUpdate t x y z) = some (s',r)) :
  Runs P a (.mapUpdate t x y z) ty w (Brings w Z (Act.tm a) fp s' r) :=by
 obtain ⟨i,hi,he⟩ :=bE.1 (show bnd (E.T t) _ = some (s',r) from he)
 obtain ⟨v,hv,he⟩ :=bE.1 he
 obtain ⟨u,hu,he⟩ :=bE.1 he
 obtain ⟨c,hc,he⟩ :=bE.1 he
 obtain ⟨q,hq,he⟩ :=bE.1 (show bnd i.k.kv _ = some (s',r) from he)
 obtain ⟨ik,hik,he⟩ :=bE.1 he
 obtain ⟨ie,hie,he⟩ :=bE.1 he
 obtain ⟨⟨rt,m⟩,hm,he⟩ :=bE.1 he
 obtain ⟨ks,hks,he⟩ :=bE.1 he
 obtain ⟨zc,hzc,he⟩ :=bE.1 he
 obtain ⟨hfit,he⟩ :=(tE.1 he).resolve_right (fun h =>by cases h.2)
 obtain ⟨hlen,he⟩ :=(tE.1 he).resolve_right (fun h =>by cases h.2)
 obtain ⟨r0,hf,he⟩ :=bE.1 he
 simp at he
 obtain ⟨rfl,rfl⟩ :=he
 simp only [Bool.and_eq_true] at hfit
 obtain ⟨⟨hfit,hza⟩,hzf⟩ :=hfit
 have hza :=eqB_eq hza
 have hun :=kv_under hT hi hq
 obtain ⟨ek,eka,eva,enk⟩ :=fits_eq hfit
 obtain ⟨hroot,hget,hfo⟩ :=ownMap_rep h (rd_rep hT h hv).1 hm
 obtain ⟨b,es,hmv,hg,hborn,hre,hnew⟩ :=map_write h hroot hget hfo ek
 obtain ⟨hkt,hsh,g,hu2,hkl⟩ :=keyS_eq hks
 subst hu2
 have hkp :=key_packs (rd_rep hT h hu).1
 obtain ⟨vs,hvp,hvl,hvr⟩ :=free_val h (rd_rep hT h hc).1 hzc hzf
 rw [hza] at hvp
 have hone :=shape_one hsh
 rw [eka,eva] at hre hnew
 obtain ⟨hfind,hchk⟩ :=run_find (w :=w) hT hE hik hkt hsh hkp hre hf
 have hgo :=run_getO (P :=P) hg
 obtain ⟨es',hb',hre',hes'⟩ :=putR_rep hre hborn hf hkp (by rw [hkl,enk]) hvp hvl hone hvr
 have hset :=run_setO (P :=P) (o' :=.map es' es'.size) hg
 refine ⟨undef,_,hnew _ es' hb' hre' (x :=.dead) (fun _ _ =>rfl) trivial,fun o o1 o2 =>.inr ⟨?_,rfl⟩⟩
 cases r0 with
 | none =>
  simp only at hes'
  have hsz:es'.size = es.size + 1 :=by rw [hes']; simp
  rw [show resAt es.toList none 0 = none from rfl] at hfind
  rw [hsz] at hset
  rw [hes'] at hset
  simp [execOp,o1,Instr.mapUpdate,run_underlying hun,hmv,hgo,hchk,hfind,hset]
  rw [hes']
  simp
 | some q0 =>
  obtain ⟨j,row⟩ :=q0
  obtain ⟨h1,h1k⟩ :=findR_get hf
  obtain ⟨en,h2,h3⟩ :=hre.get h1
  have hsz:es'.size = es.size :=by rw [hes']; simp
  rw [show resAt es.toList (some (j,row)) 0 = some (j,en.val) by simp only [resAt,Option.bind_some,h2,Option.map_some,Nat.zero_add]] at hfind
  rw [hsz] at hset
  have h2':es[j]? = some en :=by simpa using h2
  obtain ⟨hkk,_⟩ :=h3.key h1k
  obtain ⟨hek,hsb⟩ :=sameBits_packs hsh hkp hkk
  have hkeep :=run_keep (P :=P) (w :=w) hsb
  simp only at hes'
  rw [hes'] at hset
  simp [execOp,o1,Instr.mapUpdate,run_underlying hun,hmv,hgo,hchk,hfind,h2',hek,hkeep,hset]
  rw [hes']
  simp

theorem mapEntry_runs (hT:TOk P E) (hE:EqOk P E) (h:Inv w Z (Act.tm a) s fp) {call:Sem1} {t:TypeId} {x y:Operand} {s':St} {r:S} (he:ev1 E call ty s (.mapEntry t x y) = some (s',r)) :
  Runs P a (.mapEntry t x y) ty w (Brings w Z (Act.tm a) fp s' r) :=by
 obtain ⟨i,hi,he⟩ :=bE.1 (show bnd (E.T t) _ = some (s',r) from he)
 obtain ⟨v,hv,he⟩ :=bE.1 he
 obtain ⟨u,hu,he⟩ :=bE.1 he
 obtain ⟨q,hq,he⟩ :=bE.1 (show bnd i.k.kv _ = some (s',r) from he)
 obtain ⟨ik,hik,he⟩ :=bE.1 he
 obtain ⟨ie,hie,he⟩ :=bE.1 he
 obtain ⟨⟨rt,m⟩,hm,he⟩ :=bE.1 he
 obtain ⟨ks,hks,he⟩ :=bE.1 he
 obtain ⟨hfit,he⟩ :=(tE.1 he).resolve_right (fun h =>by cases h.2)
 obtain ⟨r0,hf,he⟩ :=bE.1 he
 simp at he
 obtain ⟨rfl,rfl⟩ :=he
 have hun :=kv_under hT hi hq
 obtain ⟨ek,eka,eva,enk⟩ :=fits_eq hfit
 obtain ⟨hroot,hget,hfo⟩ :=ownMap_rep h (rd_rep hT h hv).1 hm
 obtain ⟨b,es,hmv,hg,hborn,hre,hnew⟩ :=map_write h hroot hget hfo ek
 obtain ⟨hkt,hsh,g,hu2,hkl⟩ :=keyS_eq hks
 subst hu2
 have hkp :=key_packs (rd_rep hT h hu).1
 have hone :=shape_one hsh
 rw [eka,eva] at hre hnew
 obtain ⟨hfind,hchk⟩ :=run_find (w :=w) hT hE hik hkt hsh hkp hre hf
 have hgo :=run_getO (P :=P) hg
 have hzz:∀ (es':Array MapEntry) c,Z c→(gcell w c).isSome = true∧¬ c = (b,0) :=fun es' c hc =>⟨h.zok c hc,fun e =>by
  obtain ⟨b',l',hb',hma',_,hmb',_⟩ :=h.mapTurn hroot hget
  rw [ek] at hma'
  have hbb:b = b' :=by
   have :=hma'.1
   rw [hmv] at this
   simpa using this
  subst hbb
  exact hmb'.2.2 (e ▸ hc)⟩
 have hgoes:∀ es':Array MapEntry,Goes w (setO w b (.map es' es'.size)) (fun c =>c = (b,0)) :=fun es' =>goes_setO hg (fun _ _ _ e =>by cases e) rfl
 rcases look_rep hT hie hre hf with ⟨j,row,en,vs,rfl,h1,h2,h3,h4,h5,h6⟩ | ⟨rfl,h3⟩
 ·have h2':es[j]? = some en :=by simpa using h2
  obtain ⟨en',h2'',hen⟩ :=hre.get h1
  rw [h2] at h2''
  simp at h2''
  subst h2''
  obtain ⟨_,h1k⟩ :=findR_get hf
  obtain ⟨hkk,_⟩ :=hen.key h1k
  obtain ⟨hek,hsb⟩ :=sameBits_packs hsh hkp hkk
  have hkeep :=run_keep (P :=P) (w :=w) hsb
  let es' :=es.modify j fun e =>{ e with key :=a.eval y }
  have hsz:es'.size = es.size :=by simp [es']
  have hre':REs w Z (entryRows ks m ie (some (j,row))) ik.k.agg ie.k.agg m.nk es'.toList :=by
   simp only [entryRows,es']
   rw [modify_list h2]
   exact hre.set (EntOk.mk hkp h4 (by rw [hkl,enk]) h5 hone h6)
  have hset :=run_setO (P :=P) (o' :=.map es' es'.size) hg
  have hbj:en.born = j :=hborn j en h2'
  rw [h3] at hfind
  refine ⟨.tuple #[en.val,goInt j],_,hnew _ es' (born_modify hborn _ _ (fun _ =>rfl)) hre' (x :=entryRes m ie (some (j,row))) (fun l tm =>?_) trivial,fun o o1 o2 =>.inl ?_⟩
  ·rw [← eva] at h4
   exact rep_two h4 h5 ((hgoes es').rl h6 (hzz es')) rfl
  ·rw [hsz] at hset
   have hes':es' = es.modify j fun e =>{ e with key :=a.eval y } :=rfl
   rw [hes'] at hset
   simp [execOp,o1,Instr.mapEntry,run_underlying hun,hmv,hgo,hchk,hfind,h2',hek,hkeep,hset,hbj]
   rw [hes']
   simp
 ·obtain ⟨z,hz,hzp,hzl,hzr⟩ :=zero_packs hT hie
  let es' :=es.push ⟨a.eval y,z,es.size⟩
  have hsz:es'.size = es.size + 1 :=by simp [es']
  have hre':REs w Z (entryRows ks m ie none) ik.k.agg ie.k.agg m.nk es'.toList :=by
   simp only [entryRows,es',Array.toList_push]
   exact hre.snoc (EntOk.mk hkp hzp (by rw [hkl,enk]) hzl hone (hzr w Z))
  have hset :=run_setO (P :=P) (o' :=.map es' es'.size) hg
  have hlen :=hre.length
  rw [h3] at hfind
  refine ⟨.tuple #[z,goInt es.size],_,hnew _ es' (born_push hborn _ _) hre' (x :=entryRes m ie none) (fun l tm =>?_) trivial,fun o o1 o2 =>.inl ?_⟩
  ·have e:es.size = m.rows.length :=by rw [← hlen]; simp
   simp only [entryRes,e]
   exact rep_two hzp hzl (hzr _ Z) rfl
  ·rw [hsz] at hset
   have hes':es' = es.push ⟨a.eval y,z,es.size⟩ :=rfl
   rw [hes'] at hset
   simp [execOp,o1,Instr.mapEntry,run_underlying hun,hmv,hgo,hchk,hfind,hz,hset]
   rw [hes']
   simp

theorem find_born {es:Array MapEntry} (h:Born es) {n:Nat} {en:MapEntry} (hn:es[n]? = some en):es.findIdx? (fun e =>(e.born:Int) == (n:Int)) = some n :=by
 rw [Array.findIdx?_eq_some_iff_getElem]
 obtain ⟨hlt,he⟩ :=Array.getElem?_eq_some_iff.1 hn
 refine ⟨hlt,?_,fun j hj =>?_⟩
 ·have :=h n en hn
  rw [he]
  simp [this]
 ·have hjl:j < es.size :=by omega
  have :=h j es[j] (by simp [hjl])
  simp [this]
  omega

theorem entryStore_runs (hT:TOk P E) (h:Inv w Z (Act.tm a) s fp) {call:Sem1} {t:TypeId} {x y z:Operand} {s':St} {r:S} (he:ev1 E call ty s (.entryStore t x y z) = some (s',r)) :
  Runs P a (.entryStore t x y z) ty w (Brings w Z (Act.tm a) fp s' r) :=by
 obtain ⟨i,hi,he⟩ :=bE.1 (show bnd (E.T t) _ = some (s',r) from he)
 obtain ⟨v,hv,he⟩ :=bE.1 he
 obtain ⟨u,hu,he⟩ :=bE.1 he
 obtain ⟨c,hc,he⟩ :=bE.1 he
 obtain ⟨q,hq,he⟩ :=bE.1 (show bnd i.k.kv _ = some (s',r) from he)
 obtain ⟨ik,hik,he⟩ :=bE.1 he
 obtain ⟨ie,hie,he⟩ :=bE.1 he
 obtain ⟨⟨rt,m⟩,hm,he⟩ :=bE.1 he
 obtain ⟨uv,huv,he⟩ :=bE.1 he
 obtain ⟨n,hn,he⟩ :=bE.1 he
 obtain ⟨zc,hzc,he⟩ :=bE.1 he
 obtain ⟨hfit,he⟩ :=(tE.1 he).resolve_right (fun h =>by cases h.2)
 obtain ⟨hlen,he⟩ :=(tE.1 he).resolve_right (fun h =>by cases h.2)
 obtain ⟨row,hrow,he⟩ :=bE.1 he
 simp at he
 obtain ⟨rfl,rfl⟩ :=he
 simp only at hrow
 simp only [Bool.and_eq_true] at hfit
 obtain ⟨⟨hfit,hza⟩,hzf⟩ :=hfit
 have hza :=eqB_eq hza
 obtain ⟨ek,eka,eva,enk⟩ :=fits_eq hfit
 obtain ⟨hroot,hget,hfo⟩ :=ownMap_rep h (rd_rep hT h hv).1 hm
 obtain ⟨b,es,hmv,hg,hborn,hre,hnew⟩ :=map_write h hroot hget hfo ek
 obtain ⟨vs,hvp,hvl,hvr⟩ :=free_val h (rd_rep hT h hc).1 hzc hzf
 rw [hza,← eva] at hvp
 obtain ⟨k',n',rfl,hn0,hnn⟩ :=asIdx_eq hn
 have hyv :=(prim_val (rd_rep hT h hu).1 huv).1
 obtain ⟨en,h2,hen⟩ :=hre.get hrow
 have h2':es[n]? = some en :=by simpa using h2
 obtain ⟨ks,hk1,hk2,hk3⟩ :=hen.keyR
 let es' :=es.modify n fun e =>{ e with val :=a.eval z }
 have hsz:es'.size = es.size :=by simp [es']
 have hent:EntOk w Z (row.take m.nk ++ zc.2) m.ka m.va m.nk { en with val :=a.eval z } :=by
  obtain ⟨ks',vs',g1,g2,g3,g4,g5⟩ :=hen
  refine ⟨ks',vs,g1,hvp,g3,by simp; omega,row_join (row_split g5 g3 g4).1 hvr (by simp; omega)⟩
 have hre':REs w Z (m.rows.set n (row.take m.nk ++ zc.2)) m.ka m.va m.nk es'.toList :=by
  simp only [es']
  rw [modify_list h2]
  exact hre.set hent
 have hset :=run_setO (P :=P) (o' :=.map es' es'.size) hg
 have hgo :=run_getO (P :=P) hg
 have hidx :=find_born hborn h2'
 refine ⟨undef,_,hnew _ es' (born_modify hborn _ _ (fun _ =>rfl)) hre' (x :=.dead) (fun _ _ =>rfl) trivial,fun o o1 o2 =>.inr ⟨?_,rfl⟩⟩
 rw [hsz] at hset
 have hes':es' = es.modify n fun e =>{ e with val :=a.eval z } :=rfl
 rw [hes'] at hset
 have hnI:n' = (n:Int) :=by omega
 subst hnI
 simp [execOp,o1,Instr.entryStore,hmv,hgo,hyv,Go.asInt,asIntOf,hidx,hset]
 rw [hes']
 simp
end
end Go.Sx

/- Walks over maps. -/
namespace Go.Sx
section
variable {P:Program} {E:Env} {w:World} {Z:CA→Prop} {a:Act} {s:St} {fp:Tmp→List CA} {ty:TypeId}

theorem walk_new {tm:Tmp→Value} (h:Inv w Z tm s fp) {b:Nat} {es:Array MapEntry} (hg:gcell w (b,0) = some (.inr (.map es es.size))) (hz:Z (b,0)) (hborn:Born es) {rows:List (List C)} {ka va:Bool} {nk:Nat} (hre:REs w Z rows ka va nk es.toList) :
  Done w Z tm fp (w.alloc (.mapIter (some b) es.size #[] es.size)) Z s fp (.pointer (some ⟨w.heap.size,0,none⟩)) [(w.heap.size,0)] (.val 0 false [.mp .own 1 ka va nk rows]) :=by
 have ho:∀ cs e f,(Obj.mapIter (some b) es.size #[] es.size) ≠ .cells cs e f :=fun _ _ _ e =>by cases e
 have hgn :=gcell_alloc w ho
 have hgo:Goes w (w.alloc (.mapIter (some b) es.size #[] es.size)) (fun c =>∃ t,c ∈ fp t) :=goes_alloc w _ _
 have hsame:∀ t,Same w (w.alloc (.mapIter (some b) es.size #[] es.size)) (fp t) Z :=fun t =>(goes_alloc w _ (fun _ =>False)).same (fun c hc =>⟨hc.elim (fun hc =>(h.mine t c hc).1) (h.zok c),fun e =>e.elim⟩)
 have hnew:∀ t,(w.heap.size,0) ∉ fp t :=fun t hm =>by have :=cell_lt (h.mine t _ hm).1; simp at this
 have hmw:∀ {c},Mine w Z c→Mine (w.alloc (.mapIter (some b) es.size #[] es.size)) Z c :=fun {c} hm =>⟨hgo.some c hm.1,by rw [hgo.fro c (cell_lt hm.1)]; exact hm.2.1,hm.2.2⟩
 have hinv:Inv (w.alloc (.mapIter (some b) es.size #[] es.size)) Z tm s fp :=h.world (fun _ h =>h) hsame (fun t c hc =>hmw (h.mine t c hc)) (fun c hc =>hgo.some c (h.zok c hc))
 have hzs:∀ c,Z c→gcell (w.alloc (.mapIter (some b) es.size #[] es.size)) c = gcell w c :=fun c hc =>(goes_alloc w _ (fun _ =>False)).cells c (cell_lt (h.zok c hc)) (fun e =>e)
 refine { goes :=hgo,zz :=fun _ h =>h,zfrom :=fun _ h =>.inl h,inv :=hinv,rep :=?_,lt :=trivial,nd :=by simp,mine :=?_,apart :=?_,from_ :=?_ }
 ·refine ⟨[.pointer (some ⟨w.heap.size,0,none⟩)],.inr ⟨rfl,rfl,rfl⟩,rfl,_,[(w.heap.size,0)],[],rfl,⟨w.heap.size,es.toList,⟨rfl,b,es,#[],hz,by rw [hzs _ hz]; exact hg,hborn,hgn,?_⟩,REs.same (fun _ h =>h) rows hre hzs,.inr ⟨by simp,rfl⟩⟩,rfl,by simp⟩
  show es.toList = es.toList.filter _
  exact (List.filter_eq_self.2 (fun x _ =>by simp)).symm
 ·intro c hc
  simp at hc
  subst hc
  refine ⟨by rw [hgn]; rfl,fro_obj (c :=(w.heap.size,0)) (alloc_new w _) ho,fun hz =>?_⟩
  have :=cell_lt (h.zok _ hz)
  simp at this
 ·intro t c hc
  simp at hc
  subst hc
  exact hnew t
 ·intro c hc
  rcases hc with hc | ⟨t,hc⟩
  ·simp at hc
   subst hc
   exact .inr (Nat.le_refl _)
  ·exact .inl ⟨t,hc⟩

theorem range_runs (hT:TOk P E) (h:Inv w Z (Act.tm a) s fp) {call:Sem1} {t:TypeId} {x:Operand} {s':St} {r:S} (he:ev1 E call ty s (.range t x) = some (s',r)) :
  Runs P a (.range t x) ty w (Brings w Z (Act.tm a) fp s' r) :=by
 obtain ⟨i,hi,he⟩ :=bE.1 (show bnd (E.T t) _ = some (s',r) from he)
 obtain ⟨q,hq,he⟩ :=bE.1 he
 obtain ⟨v,hv,he⟩ :=bE.1 he
 have hun :=kv_under hT hi hq
 have rv :=(rd_rep hT h hv).1
 have run:∀ {b:Nat} {es:Array MapEntry},a.eval x = .map (some b)→gcell w (b,0) = some (.inr (.map es es.size))→∀ o:Oper,o.op = .range t x →
   (execOp a.eval o).run P w = .ok (.value (.pointer (some ⟨w.heap.size,0,none⟩))) (w.alloc (.mapIter (some b) es.size #[] es.size)) :=by
  intro b es hmv hg o o1
  have hgo :=run_getO (P :=P) hg
  simp [execOp,o1,Instr.range,run_underlying hun,hmv,hgo]
 cases v with
 | val g b cs =>
  obtain ⟨m,hm,he⟩ :=bE.1 (show bnd (mapS s (.val g b cs)) _ = some (s',r) from he)
  obtain ⟨hkd,he⟩ :=(tE.1 he).resolve_right (fun h =>by cases h.2)
  simp at he hkd
  obtain ⟨rfl,rfl⟩ :=he
  obtain ⟨z,hz,h1⟩ :=bE.1 hm
  obtain ⟨c,hc,h2⟩ :=bE.1 h1
  simp [cells] at hz
  subst hz
  obtain ⟨vs,hp,hl,hr⟩ :=rv
  obtain ⟨e1,e2⟩ :=one1_eq hc
  simp only at e1 e2
  subst e1 e2
  rw [asMp_eq h2] at hl hr
  obtain ⟨b0,l,hma,hre,hf⟩ :=(packs_one hp hl hr).2
  have hzb:Z (b0,0) :=by
   rcases hf with ⟨_,_,hz⟩ | ⟨_,hf⟩
   ·exact hz
   ·simp at hf
  rw [hkd] at hma
  obtain ⟨hmv,es,hg,hborn,rfl⟩ :=hma
  exact ⟨_,_,⟨Z,fp,_,walk_new h hg hzb hborn hre⟩,fun o o1 o2 =>.inl (run hmv hg o o1)⟩
 | lnk q' k off n b el win =>
  obtain ⟨⟨rt,m⟩,hm,he⟩ :=bE.1 (show bnd (ownMap s (.lnk q' k off n b el win)) _ = some (s',r) from he)
  obtain ⟨hkd,he⟩ :=(tE.1 he).resolve_right (fun h =>by cases h.2)
  simp at he hkd
  obtain ⟨rfl,rfl⟩ :=he
  obtain ⟨hroot,hget,hfo⟩ :=ownMap_rep h rv hm
  obtain ⟨b0,l,hb,hma,hre,hmb,hnew⟩ :=h.mapTurn hroot hget
  rw [hkd] at hma
  obtain ⟨hmv,es,hg,hborn,rfl⟩ :=hma
  let Z':CA→Prop :=fun c =>Z c∨c = (b0,0)
  have hre':REs w Z' m.rows m.ka m.va m.nk es.toList :=REs.same (fun c h =>.inl h) m.rows hre (fun _ _ =>rfl)
  obtain ⟨fp',hinv,hsub⟩ :=hnew w Z' (.mp .shr 0 m.ka m.va m.nk m.rows) [] (Goes.refl _ _) (fun c h =>.inl h) (fun c hc =>hc.imp id (fun e =>⟨e,rfl⟩))
   ⟨b0,es.toList,⟨hmv,es,hg,hborn,rfl⟩,hre',.inl ⟨rfl,rfl,.inr rfl⟩⟩ (.inl rfl)
  have D :=walk_new hinv hg (.inr rfl) hborn hre'
  refine ⟨_,_,⟨Z',fp',_,{ goes :=goes_alloc w _ _,zz :=fun c h =>.inl h,zfrom :=fun c hc =>hc.imp id (fun (e:c = (b0,0)) =>.inl ⟨rt,by rw [e]; exact hb⟩),inv :=D.inv,rep :=D.rep,lt :=D.lt,nd :=D.nd,mine :=D.mine,apart :=D.apart,from_ :=fun c hc =>?_ }⟩,fun o o1 o2 =>.inl (run hmv hg o o1)⟩
  rcases D.from_ c hc with ⟨t,ht⟩ | h8
  ·exact .inl ⟨t,hsub t c ht⟩
  ·exact .inr h8
 | _ =>simp [rangeS] at he

theorem born_nodup {es:Array MapEntry} (h:Born es):(es.toList.map (·.born)).Nodup :=by
 have:es.toList.map (·.born) = List.range es.size :=by
  apply List.ext_getElem?
  intro i
  rw [List.getElem?_map]
  by_cases hi:i < es.size
  ·have h1:es[i]? = some es[i] :=by simp [hi]
   have :=h i _ h1
   rw [Array.getElem?_toList,h1]
   simp [this,hi]
  ·rw [Array.getElem?_toList]
   simp [hi]
 rw [this]
 exact List.nodup_range

theorem entry_runs (hT:TOk P E) (h:Inv w Z (Act.tm a) s fp) {call:Sem1} {x:Operand} {s':St} {r:S} (he:ev1 E call ty s (.entry x) = some (s',r)) :
  Runs P a (.entry x) ty w (Brings w Z (Act.tm a) fp s' r) :=by
 obtain ⟨v,hv,he⟩ :=bE.1 (show bnd (rd E 0 s x) _ = some (s',r) from he)
 obtain ⟨m,hm,he⟩ :=bE.1 (show bnd (mapS s v) _ = some (s',r) from he)
 obtain ⟨hkd,he⟩ :=(tE.1 he).resolve_right (fun h =>by cases h.2)
 simp at hkd
 cases hrows:m.rows with
 | nil =>rw [hrows] at he; simp [headR] at he
 | cons row rest =>
  rw [hrows] at he
  simp [headR] at he
  obtain ⟨rfl,rfl⟩ :=he
  obtain ⟨F,b,l,hma,hre,_⟩ :=mapS_rep h (rd_rep hT h hv).1 hm
  rw [hkd] at hma
  obtain ⟨hmv,bm,es,seen,hz,hg,hborn,hgi,e,l',rfl,hback,hes,_⟩ :=hma
  rw [hrows] at hre
  obtain ⟨e0,es',hee,hent,_⟩ :=REs.cons_iff.1 hre
  simp at hee
  obtain ⟨rfl,rfl⟩ :=hee
  obtain ⟨ks,k1,k2,k3⟩ :=hent.keyR
  obtain ⟨vs,v1,v2,v3⟩ :=hent.val
  obtain ⟨seen',hseen⟩:∃ seen':Array Nat,seen = seen'.push e.born :=by
   have hne:seen.size ≠ 0 :=fun h0 =>by
    have:seen = #[] :=Array.eq_empty_of_size_eq_zero h0
    subst this
    simp at hback
   refine ⟨seen.pop,?_⟩
   have h9 :=Array.back?_eq_some_iff.1 hback
   obtain ⟨ys,hys⟩ :=h9
   rw [hys]
   simp
  have hrun :=run_entry_at (P :=P) w b bm es.size seen' es es.size e (by rw [← hseen]; exact (gcell_inr hgi).1) (gcell_inr hg).1 (by
   have :=Array.mem_of_getElem? hes
   simpa using this) (born_nodup hborn)
  refine runs_still h (x :=.tup [(m.ka,row.take m.nk),(m.va,row.drop m.nk)]) (v :=.tuple #[e.key,e.val]) ?_ trivial (fun o o1 o2 =>?_)
  ·exact ⟨[e.key,e.val],rfl,ks,[],[],k1,k2,k3,⟨vs,[],[],v1,v2,v3,rfl,rfl⟩,rfl⟩
  ·simp only [execOp,o1,hmv,Sem.run_bind,hrun,Result.andThen_ok,Sem.run_pure]

theorem filter_erase:∀ {L:List MapEntry} {c:Nat} {e:MapEntry},(L.map (·.born)).Nodup→L[c]? = some e→L.filter (fun x =>!(x.born == e.born)) = L.eraseIdx c
 | [],c,e,_,h =>by simp at h
 | x :: L,0,e,hn,h =>by
  simp at h
  subst h
  simp only [List.map_cons,List.nodup_cons] at hn
  simp only [List.filter_cons,beq_self_eq_true,Bool.not_true,Bool.false_eq_true,if_false,List.eraseIdx_zero,List.tail_cons]
  refine List.filter_eq_self.2 (fun y hy =>?_)
  have:y.born ≠ x.born :=fun e =>hn.1 (List.mem_map.2 ⟨y,hy,e⟩)
  simp [this]
 | x :: L,c + 1,e,hn,h =>by
  simp only [List.map_cons,List.nodup_cons] at hn
  simp only [List.getElem?_cons_succ] at h
  have hne:x.born ≠ e.born :=fun e' =>hn.1 (List.mem_map.2 ⟨e,List.mem_of_getElem? h,e'.symm⟩)
  simp only [List.filter_cons,List.eraseIdx_cons_succ]
  rw [if_pos (by simp [hne]),filter_erase hn.2 h]

theorem next_brings (h:Inv w Z (Act.tm a) s fp) {t:Tmp} {q0:St × S} (h0:nextS t 0 s = some q0) :
  ∃ i,(i = 0∨i < leftV (walkV (look s.sl t)))∧∀ q,nextS t i s = some q→∃ v w',Brings w Z (Act.tm a) fp q.1 q.2 v w'∧∀ o:Oper,o.op = .next (.tmp t) false→(execOp a.eval o).run P w = .ok (.value v) w' :=by
 obtain ⟨m,hm,h1⟩ :=bE.1 (show bnd (walkV (look s.sl t)) _ = some q0 from h0)
 obtain ⟨hw,h1⟩ :=(tE.1 h1).resolve_right (fun h =>by cases h.2)
 simp only [walks,Bool.and_eq_true,Bool.or_eq_true,decide_eq_true_eq] at hw
 obtain ⟨hfo,hkd⟩ :=hw
 have hfo:m.f = .own :=by cases hmf:m.f <;> rw [hmf] at hfo <;> first | rfl | cases hfo
 have hnext:∀ i,nextS t i s = nextR (t,m) i s (restOf m) :=fun i =>by
  unfold nextS
  rw [hm]
  show tst (walks m) _ none = _
  rw [show walks m = true by simp [walks,hfo,Fl.isOwn]; exact hkd]
  rfl
 have hrep :=h.rep t
 -- the slot
 obtain ⟨g,hlk⟩:∃ g,look s.sl t = .val g false [.mp .own m.kd m.ka m.va m.nk m.rows] :=by
  cases hl:look s.sl t with
  | val g b cs =>
   rw [hl] at hm
   obtain ⟨c,hc,h2⟩ :=bE.1 (show bnd (one1 b cs) asMp = some m from hm)
   obtain ⟨e1,e2⟩ :=one1_eq hc
   exact ⟨g,by rw [e1,e2,asMp_eq h2,hfo]⟩
  | _ =>rw [hl] at hm; simp [walkV] at hm
 rw [hlk] at hrep
 obtain ⟨vs,hp,hl,hr⟩ :=hrep
 obtain ⟨hvs,hrc⟩ :=packs_one hp hl hr
 have hroot:(look s.sl t).root = some [.mp .own m.kd m.ka m.va m.nk m.rows] :=by rw [hlk]; rfl
 have hget:rget w (look s.sl t) (Act.tm a t) 0 = some (Act.tm a t) :=by
  rw [hlk]
  simp only [rget,hp.cells,hvs]
  rfl
 obtain ⟨b,l,hb,hma,hre,hmb,hnew⟩ :=h.mapTurn hroot hget
 -- what is left
 have hleft:∃ bm es seen,Act.tm a t = .pointer (some ⟨b,0,none⟩)∧Z (bm,0)∧gcell w (bm,0) = some (.inr (.map es es.size))∧Born es∧gcell w (b,0) = some (.inr (.mapIter (some bm) es.size seen es.size)) ∧
   REs w Z (restOf m) m.ka m.va m.nk (es.toList.filter fun e =>!seen.contains e.born) :=by
  rcases hkd with hkd | hkd
  ·rw [hkd] at hma
   obtain ⟨hmv,bm,es,seen,hz,hg,hborn,hgi,hwk⟩ :=hma
   refine ⟨bm,es,seen,hmv,hz,hg,hborn,hgi,?_⟩
   have hwk:l = _ :=hwk
   rw [← hwk,restOf,if_neg (by omega)]
   exact hre
  ·rw [hkd] at hma
   obtain ⟨hmv,bm,es,seen,hz,hg,hborn,hgi,e,l',rfl,_,_,hl'⟩ :=hma
   refine ⟨bm,es,seen,hmv,hz,hg,hborn,hgi,?_⟩
   rw [← hl',restOf,if_pos hkd]
   cases hrw:m.rows with
   | nil =>rw [hrw] at hre; cases hre
   | cons r0 rs =>
    rw [hrw] at hre
    obtain ⟨e0,es0,hee,_,h9⟩ :=REs.cons_iff.1 hre
    simp at hee
    rw [hee.2]
    exact h9
 obtain ⟨bm,es,seen,hmv,hz,hg,hborn,hgi,hre2⟩ :=hleft
 have hnd :=born_nodup hborn
 have hold:∀ x ∈ es.toList,x.born < es.size :=by
  intro x hx
  obtain ⟨i,hi⟩ :=List.getElem?_of_mem hx
  have h9:es[i]? = some x :=by simpa using hi
  rw [hborn i x h9]
  exact (Array.getElem?_eq_some_iff.1 h9).1
 have hrun :=run_next_at (P :=P) w
 have hlen:leftV (walkV (look s.sl t)) = (restOf m).length :=by rw [hm]; rfl
 have hkr:∀ (w':World) (Z':CA→Prop),True :=fun _ _ =>trivial
 cases hro:restOf m with
 | nil =>
  refine ⟨0,.inl rfl,fun q hq =>?_⟩
  rw [hnext,hro] at hq
  simp [nextR] at hq
  subst hq
  rw [hro] at hre2
  have hl0:(es.toList.filter fun e =>!seen.contains e.born) = [] :=hre2
  have hl0':(leftOf es seen).size = 0 :=by
   have:(leftOf es seen).toList = [] :=by unfold leftOf; rw [Array.toList_filter]; exact hl0
   rw [← Array.length_toList,this]
   rfl
  have hc':RC w Z (.mp .own 1 m.ka m.va m.nk []) (Act.tm a t) [(b,0)] :=⟨b,[],⟨hmv,bm,es,seen,hz,hg,hborn,hgi,hl0.symm⟩,rfl,.inr ⟨by simp,rfl⟩⟩
  obtain ⟨fp',hinv,hsub⟩ :=hnew w Z _ [(b,0)] (Goes.refl _ _) (fun _ h =>h) (fun c hc =>.inl hc) hc' (.inr rfl)
  refine ⟨.tuple #[.bool false],w,⟨Z,fp',[],?_⟩,fun o o1 =>?_⟩
  ·exact { goes :=Goes.refl _ _,zz :=fun _ h =>h,zfrom :=fun _ h =>.inl h,inv :=hinv,rep :=⟨[.bool false],rfl,[.bool false],[],[],.inr ⟨rfl,rfl,rfl⟩,rfl,⟨.bool false,[],[],rfl,⟨rfl,rfl,rfl⟩,rfl,rfl⟩,rfl,rfl⟩,lt :=trivial,nd :=List.nodup_nil,mine :=by simp,apart :=by simp,from_ :=fun c hc =>.inl (by
    rcases hc with hc | ⟨t,hc⟩
    ·cases hc
    ·exact ⟨t,hsub t c hc⟩) }
  ·rcases hrun o.type b bm es.size es.size seen es es.size (gcell_inr hgi).1 (gcell_inr hg).1 hold (Nat.le_refl _) with ⟨_,hrun⟩ | ⟨e,he,_⟩
   ·have hev:a.eval (.tmp t) = .pointer (some ⟨b,0,none⟩) :=hmv
    simp only [execOp,o1,hev,Sem.run_bind,hrun,Result.andThen_ok,Sem.run_pure]
   ·have:(leftOf es seen).toList = [] :=by unfold leftOf; rw [Array.toList_filter]; exact hl0
    rw [this] at he
    cases he
 | cons r0 rs =>
  -- which of them?
  have hlist:(leftOf es seen).toList = es.toList.filter fun e =>!seen.contains e.born :=by unfold leftOf; rw [Array.toList_filter]
  rcases hrun 0 b bm es.size es.size seen es es.size (gcell_inr hgi).1 (gcell_inr hg).1 hold (Nat.le_refl _) with ⟨h9,_⟩ | ⟨e,he,w1,hw1,hrun1⟩
  ·exfalso
   have h8 :=hre2.length
   rw [← hlist,hro] at h8
   simp at h8
   omega
  ·rw [hlist] at he
   obtain ⟨c,hc⟩ :=List.getElem?_of_mem he
   have hclt :=(List.getElem?_eq_some_iff.1 hc).1
   rw [hre2.length] at hclt
   refine ⟨c,.inr (by rw [hlen]; exact hclt),fun q hq =>?_⟩
   rw [hnext,hro] at hq
   obtain ⟨row,hrow,hq⟩ :=bE.1 (show bnd (r0 :: rs)[c]? _ = some q from hq)
   simp at hq
   subst hq
   rw [hro] at hre2
   obtain ⟨e',he',hent⟩ :=hre2.get hrow
   rw [hc] at he'
   simp at he'
   subst he'
   have hgi1:gcell w1 (b,0) = some (.inr (.mapIter (some bm) es.size seen es.size)) :=by rcases hw1 with rfl | rfl <;> exact hgi
   have hg1:gcell w1 (bm,0) = some (.inr (.map es es.size)) :=by rcases hw1 with rfl | rfl <;> exact hg
   let o':Obj :=.mapIter (some bm) es.size (seen.push e.born) es.size
   have ho:∀ cs e f,o' ≠ .cells cs e f :=fun _ _ _ e =>(by simp only [o'] at e; cases e)
   have hgo1:Goes w w1 (fun c =>c = (b,0)) :=by
    rcases hw1 with rfl | rfl
    ·exact Goes.refl _ _
    ·exact goes_drew _ _
   have hgo:Goes w (setO w1 b o') (fun c =>c = (b,0)) :=hgo1.trans (goes_setO hgi1 ho (F :=fun c =>c = (b,0)) rfl) (fun c hc =>.inl hc)
   have hzs:∀ c,Z c→gcell (setO w1 b o') c = gcell w c :=fun c hc =>hgo.cells c (cell_lt (h.zok c hc)) (fun e =>hmb.2.2 (e ▸ hc))
   have hfil:(es.toList.filter fun x =>!(seen.push e.born).contains x.born) = (es.toList.filter fun x =>!seen.contains x.born).eraseIdx c :=by
    have hsubl:((es.toList.filter fun x =>!seen.contains x.born).map (·.born)).Nodup :=(List.Sublist.map _ List.filter_sublist).nodup hnd
    rw [← filter_erase hsubl hc,List.filter_filter]
    congr 1
    funext x
    rw [Array.contains_push]
    cases seen.contains x.born <;> simp
   have hre3:REs (setO w1 b o') Z (row :: (r0 :: rs).eraseIdx c) m.ka m.va m.nk (e :: (es.toList.filter fun x =>!seen.contains x.born).eraseIdx c) :=
    REs.same (fun _ h =>h) _ (REs.cons_iff.2 ⟨e,_,rfl,hent,hre2.erase⟩) hzs
   have hem:e ∈ es.toList :=(List.mem_filter.1 (List.mem_of_getElem? hc)).1
   have hese:es[e.born]? = some e :=by
    obtain ⟨i,hi⟩ :=List.getElem?_of_mem hem
    have h9:es[i]? = some e :=by simpa using hi
    rw [hborn i e h9]
    exact h9
   have hc':RC (setO w1 b o') Z (.mp .own 2 m.ka m.va m.nk (row :: (r0 :: rs).eraseIdx c)) (Act.tm a t) [(b,0)] :=
    ⟨b,_,⟨hmv,bm,es,seen.push e.born,hz,by rw [hzs _ hz]; exact hg,hborn,gcell_setO hgi1 ho,e,_,rfl,by simp,hese,hfil.symm⟩,hre3,.inr ⟨by simp,rfl⟩⟩
   obtain ⟨fp',hinv,hsub⟩ :=hnew _ Z _ [(b,0)] hgo (fun _ h =>h) (fun c hc =>.inl hc) hc' (.inr rfl)
   obtain ⟨ks,k1,k2,k3⟩ :=hent.keyR
   obtain ⟨vs',v1,v2,v3⟩ :=hent.val
   have hzz:∀ c,Z c→(gcell w c).isSome = true∧¬ c = (b,0) :=fun c hc =>⟨h.zok c hc,fun e =>hmb.2.2 (e ▸ hc)⟩
   refine ⟨.tuple #[.bool true,e.key,e.val],setO w1 b o',⟨Z,fp',[],?_⟩,fun o o1 =>?_⟩
   ·exact { goes :=hgo.mono (fun c hc =>⟨t,hc ▸ hb⟩),zz :=fun _ h =>h,zfrom :=fun _ h =>.inl h,inv :=hinv,rep :=⟨[.bool true,e.key,e.val],rfl,[.bool true],[],[],.inr ⟨rfl,rfl,rfl⟩,rfl,⟨.bool true,[],[],rfl,⟨rfl,rfl,rfl⟩,rfl,rfl⟩,⟨ks,[],[],k1,k2,hgo.rl k3 hzz,⟨vs',[],[],v1,v2,hgo.rl v3 hzz,rfl,rfl⟩,rfl⟩,rfl⟩,lt :=trivial,nd :=List.nodup_nil,mine :=by simp,apart :=by simp,from_ :=fun c hc =>.inl (by
     rcases hc with hc | ⟨t,hc⟩
     ·cases hc
     ·exact ⟨t,hsub t c hc⟩) }
   ·have hev:a.eval (.tmp t) = .pointer (some ⟨b,0,none⟩) :=hmv
    have hty:∀ ty,Instr.next (.pointer (some ⟨b,0,none⟩)) false ty = Instr.next (.pointer (some ⟨b,0,none⟩)) false 0 :=fun _ =>rfl
    simp only [execOp,o1,hev,hty,Sem.run_bind,hrun1,Result.andThen_ok,Sem.run_pure]
    rfl
end
end Go.Sx

/- clear: rows of an own slice are made zero. -/
namespace Go.Sx
section
variable {P:Program} {E:Env} {w:World} {Z:CA→Prop} {a:Act} {s:St} {fp:Tmp→List CA} {ty:TypeId}

theorem rootV_eq {x:S} {h:Nat} {cs:List C} (e:x.rootV h = some cs):x = .val h false cs :=by
 cases x with
 | val g a ds =>
  cases a with
  | false =>
   simp only [S.rootV] at e
   split at e
   ·rename_i hg
    simp at e
    rw [hg,e]
   ·cases e
  | true =>simp [S.rootV] at e
 | _ =>simp [S.rootV] at e

theorem getElem?_zeroCells {z:Array Value} {n k:Nat} (hz:0 < z.size) (hk:k < n * z.size):(Builtin.zeroCells z n).toList[k]? = z.toList[k % z.size]? :=by
 have h1:k % z.size < z.size :=Nat.mod_lt _ hz
 simp [Builtin.zeroCells,hk,h1]

theorem clear_core {tm:Tmp→Value} (h:Inv w Z tm s fp) {r:Tmp} {g sz:Nat} {rows:List (List C)} (hlk:look s.sl r = .val g false [.sl .own sz rows]) {lo k:Nat} (hk:lo + k≤rows.length) (hk0:0 < k)
  {z:List C} {zc vs:List Value} (hz:∀ w Z,RL w Z z (fun j =>zc[j]?) []) (hzl:z.length = sz) (hsz:0 < sz) (hzc:zc.length = sz) (hvs:∀ i,i < k * sz→vs[i]? = zc[i % sz]?) (hvl:vs.length = k * sz) :
  ∃ b o cap,tm r = .slice (some ⟨b,o,none⟩) rows.length cap∧rows.length≤cap∧(∀ c ∈ span (b,o + lo * sz) vs.length,c ∈ fp r∧(cell w c).isSome = true∧fro w c = false) ∧
   ∃ fp',Inv (w.setCells b (o + lo * sz) vs) Z tm (upd r [.sl .own sz (rows.take lo ++ (List.replicate k z ++ rows.drop (lo + k)))] s) fp'∧∀ t,∀ c ∈ fp' t,c ∈ fp t :=by
 have hrep :=h.rep r
 rw [hlk] at hrep
 obtain ⟨us,hp,hl,hrl⟩ :=hrep
 obtain ⟨hus,hrc⟩ :=packs_one hp hl hrl
 obtain ⟨ad,cap,hv,hle,hrc⟩ :=hrc
 rcases hrc with ⟨hf,_⟩ | ⟨_,hrc⟩
 ·cases hf
 rcases hrc with ⟨_,hr,_⟩ | ⟨b,o,G,had,⟨hr,hreal⟩,hF⟩
 ·subst hr
  simp at hk
  omega
 subst had
 have hrows:rows = rows.take lo ++ ((rows.drop lo).take k ++ rows.drop (lo + k)) :=by
  rw [← List.drop_drop,List.take_append_drop,List.take_append_drop]
 have hr' :=hrows ▸ hr
 obtain ⟨G1,G0,h1,h2,hG⟩ :=RRs.split hr'
 obtain ⟨G2,G3,_,h4,hG0⟩ :=RRs.split h2
 have e1:(rows.take lo).length = lo :=by simp; omega
 have e2:((rows.drop lo).take k).length = k :=by simp; omega
 rw [e1] at h4 h2
 rw [e2] at h4
 have hcs:(lo + k) * sz≤cap * sz :=Nat.mul_le_mul_right _ (by omega)
 rw [Nat.add_mul] at hcs
 have hin:∀ c ∈ span (b,o + lo * sz) vs.length,c ∈ span (b,o) (cap * sz) :=fun c hc =>by
  rw [mem_span] at hc ⊢
  rw [hvl] at hc
  simp only at hc ⊢
  omega
 have hinr:∀ c ∈ span (b,o + lo * sz) vs.length,c ∈ fp r :=fun c hc =>by rw [hF]; exact List.mem_append_left _ (hin c hc)
 have hre:∀ c ∈ span (b,o + lo * sz) vs.length,(cell w c).isSome = true :=fun c hc =>hreal c (hin c hc)
 refine ⟨b,o,cap,hv,hle,fun c hc =>⟨hinr c hc,hre c hc,(h.mine r c (hinr c hc)).2.1⟩,?_⟩
 have hgo:Goes w (w.setCells b (o + lo * sz) vs) (fun c =>c ∈ span (b,o + lo * sz) vs.length) :=goes_setCells b _ vs _ w hre (fun c hc =>hc)
 have hoff:∀ c,c ∉ span (b,o + lo * sz) vs.length→gcell (w.setCells b (o + lo * sz) vs) c = gcell w c :=fun c hc =>gcell_setCells_off b vs _ w c hc
 have hnd :=h.nd r
 rw [hF,List.nodup_append] at hnd
 have hGs:∀ c ∈ G,c ∉ span (b,o + lo * sz) vs.length :=fun c hc hs =>hnd.2.2 c (hin c hs) c hc rfl
 have hZs:∀ c,Z c→c ∉ span (b,o + lo * sz) vs.length :=fun c hc hs =>(h.mine r c (hinr c hs)).2.2 hc
 have hsame:∀ X:List CA,(∀ c ∈ X,c ∈ G)→Same w (w.setCells b (o + lo * sz) vs) X Z :=fun X hX c hc =>hoff c (hc.elim (fun hc =>hGs c (hX c hc)) (hZs c))
 have hsub1:∀ c ∈ G1,c ∈ G :=fun c hc =>by rw [hG]; exact List.mem_append_left _ hc
 have hsub3:∀ c ∈ G3,c ∈ G :=fun c hc =>by rw [hG,hG0]; exact List.mem_append_right _ (List.mem_append_right _ hc)
 have n1:RRs (w.setCells b (o + lo * sz) vs) Z (rows.take lo) sz b o G1 :=RRs.same (fun _ h =>h) _ h1 (hsame _ hsub1) (fun c hc =>cell_of_g (hoff c (fun hs =>by
  rw [mem_span] at hc hs
  rw [e1] at hc
  simp only at hc hs
  omega)))
 have n3:RRs (w.setCells b (o + lo * sz) vs) Z (rows.drop (lo + k)) sz b (o + lo * sz + k * sz) G3 :=RRs.same (fun _ h =>h) _ h4 (hsame _ hsub3) (fun c hc =>cell_of_g (hoff c (fun hs =>by
  rw [mem_span] at hc hs
  rw [hvl] at hs
  simp only at hc hs
  omega)))
 have n2:RRs (w.setCells b (o + lo * sz) vs) Z (List.replicate k z) sz b (o + lo * sz) [] :=rrs_const hz hzl hsz hzc k _ (fun i hi =>by
  have hlt:i < vs.length :=by omega
  have h5 :=cell_setCells_in b vs (o + lo * sz) w hre i vs[i] (List.getElem?_eq_getElem hlt)
  rw [h5,← hvs i hi,List.getElem?_eq_getElem hlt])
 have hnew:RRs (w.setCells b (o + lo * sz) vs) Z (rows.take lo ++ (List.replicate k z ++ rows.drop (lo + k))) sz b o (G1 ++ ([] ++ G3)) :=
  RRs.append n1 (by rw [e1]; exact RRs.append n2 (by rw [List.length_replicate]; exact n3))
 have hlen:(rows.take lo ++ (List.replicate k z ++ rows.drop (lo + k))).length = rows.length :=by simp; omega
 have hsubF:∀ c ∈ span (b,o) (cap * sz) ++ (G1 ++ ([] ++ G3)),c ∈ fp r :=fun c hc =>by
  rw [hF]
  rcases List.mem_append.1 hc with hc | hc
  ·exact List.mem_append_left _ hc
  ·refine List.mem_append_right _ ?_
   rcases List.mem_append.1 hc with hc | hc
   ·exact hsub1 c hc
   ·exact hsub3 c (by simpa using hc)
 have hmine:∀ t,∀ c ∈ fp t,Mine (w.setCells b (o + lo * sz) vs) Z c :=fun t c hc =>(h.mine t c hc).goes hgo
 have hinv :=h.upd (w' :=w.setCells b (o + lo * sz) vs) (Z' :=Z) (r :=r) (cs' :=[.sl .own sz (rows.take lo ++ (List.replicate k z ++ rows.drop (lo + k)))]) (F' :=span (b,o) (cap * sz) ++ (G1 ++ ([] ++ G3)))
  (by rw [hlk]; rfl) (fun _ h =>h) (fun t ht c hc =>hoff c (hc.elim (fun hc hs =>h.disj t r ht c hc (hinr c hs)) (hZs c))) ?_ ?_ (fun c hc =>hmine r c (hsubF c hc))
  (fun t ht c hc hm =>h.disj t r ht c hm (hsubF c hc)) (fun t _ c hc =>hmine t c hc) (fun c hc =>hgo.some c (h.zok c hc))
 ·refine ⟨_,hinv,fun t c hc =>?_⟩
  by_cases ht:t = r
  ·simp only [if_pos ht] at hc
   rw [ht]
   exact hsubF c hc
  ·simp only [if_neg ht] at hc
   exact hc
 ·intro l tm0
  rw [hlk]
  refine ⟨[tm r],.inr ⟨rfl,rfl,by rw [hv]; rfl⟩,rfl,tm r,_,[],rfl,⟨some ⟨b,o,none⟩,cap,by rw [hlen]; exact hv,by rw [hlen]; exact hle,.inr ⟨by simp,.inr ⟨b,o,G1 ++ ([] ++ G3),rfl,⟨hnew,fun c hc =>?_⟩,rfl⟩⟩⟩,rfl,by simp⟩
  have :=hreal c hc
  by_cases hs:c ∈ span (b,o + lo * sz) vs.length
  ·obtain ⟨c1,c2⟩ :=c
   have hs' :=hs
   rw [mem_span] at hs'
   simp only at hs'
   obtain ⟨rfl,h6,h7⟩ :=hs'
   have hlt:c2 - (o + lo * sz) < vs.length :=by omega
   have h5 :=cell_setCells_in c1 vs (o + lo * sz) w hre (c2 - (o + lo * sz)) vs[c2 - (o + lo * sz)] (List.getElem?_eq_getElem hlt)
   rw [show o + lo * sz + (c2 - (o + lo * sz)) = c2 by omega] at h5
   rw [h5]
   rfl
  ·rw [cell_of_g (hoff c hs)]
   exact this
 ·rw [List.nodup_append]
  refine ⟨hnd.1,hnd.2.1.sublist ?_,fun c hc d hd e =>?_⟩
  ·rw [hG,hG0]
   exact List.Sublist.append (List.Sublist.refl _) (List.Sublist.append (List.nil_sublist _) (List.Sublist.refl _))
  ·subst e
   refine hnd.2.2 c hc c ?_ rfl
   rcases List.mem_append.1 hd with hd | hd
   ·exact hsub1 c hd
   ·exact hsub3 c (by simpa using hd)

theorem clearR_eq {z:List C} {win:El} {rows rows':List (List C)} (h:clearR z win rows = some rows'):winLo win + (winK win rows.length)≤rows.length∧rows' = rows.take (winLo win) ++ (List.replicate (winK win rows.length) z ++ rows.drop (winLo win + winK win rows.length)) :=by
 cases win with
 | none =>
  simp [clearR] at h
  subst h
  simp [winLo,winK]
 | some q =>
  obtain ⟨lo,k⟩ :=q
  obtain ⟨h1,h2⟩ :=(tE.1 (show tst (decide (lo + k≤rows.length)) _ none = some rows' from h)).resolve_right (fun h =>by cases h.2)
  simp at h1 h2
  exact ⟨h1,by rw [← h2]; rfl⟩

theorem clear_runs (hT:TOk P E) (h:Inv w Z (Act.tm a) s fp) {call:Sem1} {x:Operand} {t:TypeId} {args:Array Operand} {tys:Array TypeId} (hargs:args.toList = [x]) (htys:tys.toList = [t]) {s':St} {r:S}
  (he:ev1 E call ty s (.call { callee :=.builtin .clear,args :=args,argTypes :=tys }) = some (s',r)) :
  Runs P a (.call { callee :=.builtin .clear,args :=args,argTypes :=tys }) ty w (Brings w Z (Act.tm a) fp s' r) :=by
 have he':builtinS E s .clear args.toList tys.toList = some (s',r) :=he
 rw [hargs,htys] at he'
 have hargs':args = #[x] :=by cases args; simp at hargs; rw [hargs]
 have htys':tys = #[t] :=by cases tys; simp at htys; rw [htys]
 subst hargs' htys'
 clear he hargs htys
 obtain ⟨i,hi,he⟩ :=bE.1 (show bnd (E.T t) _ = some (s',r) from he')
 obtain ⟨e,hel,he⟩ :=bE.1 he
 obtain ⟨j,hj,he⟩ :=bE.1 he
 obtain ⟨v,hv,he⟩ :=bE.1 he
 obtain ⟨rv,_⟩ :=rd_rep hT h hv
 have hun :=slc_under hT hi hel
 obtain ⟨inf,z,z1,z2,z3,z4,z5,z6,z7⟩ :=zero_of hT hj
 have hsz :=(hT _ _ hj).size
 have hzv:(zeroValue e).run P w = .ok z w :=by simp [zeroValue,typeInfo,z1,z4]
 cases v with
 | lnk q hh off n ag el win =>
  cases el with
  | some _ =>simp [clearS] at he
  | none =>
  obtain ⟨h1,he⟩ :=(tE.1 (show tst (decide (off = 0) && decide (n = 1) && !ag) _ none = some (s',r) from he)).resolve_right (fun h =>by cases h.2)
  obtain ⟨cs,hroot,he⟩ :=bE.1 he
  obtain ⟨c,hc,he⟩ :=bE.1 he
  obtain ⟨⟨f,sz,rows⟩,hq,he⟩ :=bE.1 he
  obtain ⟨h2,he⟩ :=(tE.1 he).resolve_right (fun h =>by cases h.2)
  obtain ⟨rows',hrw,he⟩ :=bE.1 he
  simp at he
  obtain ⟨rfl,rfl⟩ :=he
  simp only [Bool.and_eq_true,decide_eq_true_eq,Bool.not_eq_true'] at h1 h2
  obtain ⟨⟨rfl,rfl⟩,rfl⟩ :=h1
  obtain ⟨hf,hsz2⟩ :=h2
  have hlk :=rootV_eq hroot
  have hcs :=oneC_eq hc
  have hcq :=asSl_eq hq
  simp only at hcq
  have hfo:f = .own :=by cases f <;> first | rfl | cases hf
  subst hfo hcq hcs hsz2
  obtain ⟨hle,hrows⟩ :=clearR_eq hrw
  simp only at hle hrows
  obtain ⟨_,hlnk⟩ :=rv
  have hlnk :=hlnk [.sl .own j.size rows] (by rw [hlk]; simp [S.rootL])
  rw [hlk] at hlnk
  obtain ⟨_,ws,hwl,hwg,hwin⟩ :=hlnk
  have hws:ws = [Act.tm a q] :=by
   have hcells:(Act.tm a q).cells.toList = [Act.tm a q] :=by
    have hrep :=h.rep q
    rw [hlk] at hrep
    obtain ⟨us,hp,hl,hrl⟩ :=hrep
    obtain ⟨hus,hrc⟩ :=packs_one hp hl hrl
    rw [hp.cells,hus]
   have h0 :=hwg 0 (by omega)
   simp only [pget,rget,Nat.add_zero,hcells] at h0
   match ws,hwl with
   | [u],_ =>simp at h0; rw [h0]
  have hval:a.eval x = cutV (winLo win) (winK win rows.length) j.size (Act.tm a q)∨(win = none∧a.eval x = Act.tm a q) :=by
   cases win with
   | none =>
    right
    have hwin:Packs false ws (a.eval x) :=hwin
    have :=packs_prim hwin
    rw [hws] at this
    simp at this
    exact ⟨rfl,this.symm⟩
   | some p =>
    left
    obtain ⟨lo,k⟩ :=p
    obtain ⟨_,u,f,sz,rows2,e1,e2,e3,e4⟩ :=hwin
    rw [hws] at e1
    simp at e1
    simp [getP,dropL,takeL,bnd] at e2
    obtain ⟨_,rfl,_⟩ :=e2
    rw [e4,← e1]
    rfl
  by_cases hk0:winK win rows.length = 0
  ·-- nothing to clear
   have hsame:rows' = rows :=by rw [hrows,hk0]; simp
   rw [hsame]
   have hrep :=h.rep q
   have hinv :=h.upd (w' :=w) (Z' :=Z) (r :=q) (cs' :=[.sl .own j.size rows]) (F' :=fp q) (by rw [hlk]; rfl) (fun _ h =>h) (fun t ht c hc =>rfl)
    (fun l tm0 =>by rw [hlk] at hrep ⊢; exact hrep) (h.nd q) (h.mine q) (fun t ht c hc hm =>h.disj t q ht c hm hc) (fun t _ =>h.mine t) h.zok
   refine ⟨.tuple #[],w,⟨Z,_,[],{ goes :=Goes.refl _ _,zz :=fun _ h =>h,zfrom :=fun _ h =>.inl h,inv :=hinv,rep :=rfl,lt :=trivial,nd :=List.nodup_nil,mine :=by simp,apart :=by simp,from_ :=fun c hc =>.inl (by
     rcases hc with hc | ⟨t,hc⟩
     ·cases hc
     ·by_cases ht:t = q
      ·simp only [if_pos ht] at hc
       exact ⟨q,hc⟩
      ·simp only [if_neg ht] at hc
       exact ⟨t,hc⟩) }⟩,fun o o1 o2 =>.inl ?_⟩
   have hx:∃ ad cap,a.eval x = .slice ad 0 cap :=by
    rw [hlk] at hrep
    obtain ⟨us,hp,hl,hrl⟩ :=hrep
    obtain ⟨hus,ad,cap,hvv,_⟩ :=packs_one hp hl hrl
    rcases hval with e1 | ⟨hw,e1⟩
    ·rw [e1,hvv,hk0]
     exact ⟨_,_,rfl⟩
    ·rw [hw] at hk0
     simp only [winK] at hk0
     rw [e1,hvv,hk0]
     exact ⟨_,_,rfl⟩
   obtain ⟨ad,cap,hx⟩ :=hx
   cases ad <;> simp [execOp,o1,resolve,invoke,builtin,Builtin.clear_,hx,run_underlying hun]
  ·obtain ⟨m,hm⟩:∃ m,winK win rows.length = m + 1 :=⟨winK win rows.length - 1,by omega⟩
   have hzs:(Builtin.zeroCells z.cells (winK win rows.length)).toList.length = winK win rows.length * j.size :=by simp [size_zeroCells,z5]
   obtain ⟨b,o,cap,hvq,hcap,hsp,fp',hinv,hsub⟩ :=clear_core h hlk hle (by omega) (z :=j.zero) (zc :=z.cells.toList) z7 z6 hsz (by simpa using z5)
    (fun i hi =>by rw [getElem?_zeroCells (by omega) (by rw [z5]; exact hi),z5]) hzs
   rw [← hrows] at hinv
   have hx:∃ cap',a.eval x = .slice (some ⟨b,o + winLo win * j.size,none⟩) (winK win rows.length) cap' :=by
    rcases hval with e1 | ⟨hw,e1⟩
    ·rw [e1,hvq]
     have hne:cap ≠ winLo win :=by omega
     refine ⟨cap - winLo win,?_⟩
     simp only [cutV,hne,if_false,Option.map_some,Addr.add]
     by_cases h0:winLo win * j.size = 0
     ·simp [h0]
     ·simp [h0]
    ·rw [e1,hvq,hw]
     exact ⟨cap,by simp [winLo,winK]⟩
   obtain ⟨cap',hx⟩ :=hx
   have hone:∀ v ∈ (Builtin.zeroCells z.cells (winK win rows.length)).toList,v.oneCell' = true :=by
    intro v hv
    obtain ⟨zv,hl0,hg0,h1⟩ :=(z7 w Z).values
    obtain ⟨n,hn⟩ :=List.getElem?_of_mem hv
    have hlt:n < winK win rows.length * j.size :=by
     rcases Nat.lt_or_ge n (winK win rows.length * j.size) with h | h
     ·exact h
     ·rw [List.getElem?_eq_none (by omega)] at hn; cases hn
    rw [getElem?_zeroCells (by omega) (by rw [z5]; exact hlt),z5] at hn
    have hm2:n % j.size < j.size :=Nat.mod_lt _ hsz
    rw [hg0 _ (by omega)] at hn
    exact h1 v (List.mem_of_getElem? hn)
   have hst :=run_storeCells_cells (P :=P) b (o + winLo win * j.size) (Builtin.zeroCells z.cells (winK win rows.length)).toList 0 w
    (fun i hi =>by rw [Nat.add_zero]; exact (hsp (b,o + winLo win * j.size + i) (mem_span.2 ⟨rfl,Nat.le_add_right _ _,Nat.add_lt_add_left hi _⟩)).2.1) (fun i hi =>by rw [Nat.add_zero]; exact (hsp (b,o + winLo win * j.size + i) (mem_span.2 ⟨rfl,Nat.le_add_right _ _,Nat.add_lt_add_left hi _⟩)).2.2) hone
   simp only [Nat.add_zero] at hst
   refine ⟨.tuple #[],_,⟨Z,fp',[],{ goes :=(goes_setCells b _ _ _ w (fun c hc =>(hsp c hc).2.1) (fun c hc =>hc)).mono (fun c hc =>⟨q,(hsp c hc).1⟩),zz :=fun _ h =>h,zfrom :=fun _ h =>.inl h,inv :=hinv,rep :=rfl,lt :=trivial,nd :=List.nodup_nil,mine :=by simp,apart :=by simp,from_ :=fun c hc =>.inl (by
     rcases hc with hc | ⟨t,hc⟩
     ·cases hc
     ·exact ⟨t,hsub t c hc⟩) }⟩,fun o o1 o2 =>.inl ?_⟩
   rw [hm] at hx hst
   rw [hm]
   simp [execOp,o1,resolve,invoke,builtin,Builtin.clear_,hx,run_underlying hun,hzv,hst]
 | _ =>simp [clearS] at he
end
end Go.Sx

/- Before and after a call: places cleared,written,many roots at once. -/
namespace Go.Sx
section
variable {P:Program} {E:Env} {w:World} {Z:CA→Prop} {s:St} {fp:Tmp→List CA}

structure Later (s s1:St):Prop where
 cnt:s.cnt≤s1.cnt
 look:∀ q,look s1.sl q = look s.sl q∨s.cnt≤(look s1.sl q).linkStamp

theorem Later.refl (s:St):Later s s :=⟨Nat.le_refl _,fun _ =>.inl rfl⟩
theorem Later.trans {s s1 s2:St} (h:Later s s1) (h2:Later s1 s2):Later s s2 where
 cnt :=Nat.le_trans h.cnt h2.cnt
 look q :=by
  rcases h2.look q with e | e
  ·rw [e]; exact h.look q
  ·exact .inr (Nat.le_trans h.cnt e)
theorem with_stamp {x:S} {c:Nat} {cs:List C} (h:x.root.isSome = true):(x.withCells c cs).linkStamp = c :=by
 cases x <;> first | rfl | simp [S.root] at h
theorem Later.upd {r:Tmp} {cs:List C} (h:(Sx.look s.sl r).root.isSome = true):Later s (upd r cs s) where
 cnt :=Nat.le_succ _
 look q :=by
  rw [look_upd]
  by_cases hq:r = q
  ·rw [if_pos hq,with_stamp h]; exact .inr (Nat.le_refl _)
  ·rw [if_neg hq]; exact .inl rfl
theorem Later.take {lv:El→List C→List C} {u:S} {q:St × Bool × List C} (h:takeW lv s u = some q):Later s q.1 :=by
 rcases take_look h with e | ⟨r,cs,e,hr⟩
 ·rw [e]; exact Later.refl s
 ·rw [e]; exact Later.upd hr

theorem Later.lnk {s1:St} {tm:Tmp→Value} {v:Value} {r k off n:Nat} {b:Bool} {el win:El} (hl:Later s s1) (hk:k < s.cnt) (h:Rep w Z s.sl tm v [] (.lnk r k off n b el win)):Rep w Z s1.sl tm v [] (.lnk r k off n b el win) :=by
 refine ⟨rfl,fun cs hroot =>?_⟩
 rcases hl.look r with e | e
 ·rw [e] at hroot ⊢
  exact h.2 cs hroot
 ·have :=(rootL_root hroot).2
  omega

theorem PtrTo.setP {get:Nat→Option Value} {cs xs ys cs':List C} {tv v:Value} {off n:Nat} {el:El} (h:PtrTo get cs tv off el v) (hg:getP cs off el n = some xs) (hset:setP cs off el ys = some cs') (hl:ys.length = n):PtrTo get cs' tv off el v :=by
 cases el with
 | none =>exact h
 | some q =>
  obtain ⟨i,o'⟩ :=q
  obtain ⟨b,o,len,cap,f,sz,rows,e1,e2,e3⟩ :=h
  obtain ⟨pre,post,f',sz',rows',row,rpre,rpost,hc,hp,hr,hrow,ho,hn⟩ :=getP_some hg
  have hat:cs[off]? = some (.sl f' sz' rows') :=by rw [hc,List.getElem?_append_right (by omega),hp]; simp
  rw [e2] at hat
  simp at hat
  obtain ⟨rfl,rfl,rfl⟩ :=hat
  have hcs' :=(setP_some hc hp hr hrow ho (by omega) hset).2
  exact ⟨b,o,len,cap,f,sz,rows.set i (rpre ++ (ys ++ rpost)),e1,by rw [hcs',List.getElem?_append_right (by omega),hp]; simp,e3⟩

theorem setP_length {cs xs ys cs':List C} {off n:Nat} {el:El} (hg:getP cs off el n = some xs) (hset:setP cs off el ys = some cs') (hl:ys.length = n):cs'.length = cs.length :=by
 cases el with
 | none =>
  obtain ⟨pre,post,hc,hp,hn⟩ :=getP_none hg
  rw [setP_none hc hp (by omega) hset,hc]
  simp
  omega
 | some q =>
  obtain ⟨i,o'⟩ :=q
  obtain ⟨pre,post,f',sz',rows',row,rpre,rpost,hc,hp,hr,hrow,ho,hn⟩ :=getP_some hg
  rw [(setP_some hc hp hr hrow ho (by omega) hset).2,hc]
  simp

theorem dropL_append:∀ (pre l:List C),dropL pre.length (pre ++ l) = some l
 | [],l =>dropL_zero l
 | _ :: pre,l =>dropL_append pre l
theorem takeL_append:∀ (xs post:List C),takeL xs.length (xs ++ post) = some xs
 | [],_ =>by simp [takeL]
 | x :: xs,post =>by
  show bnd (takeL xs.length (xs ++ post)) _ = _
  rw [takeL_append xs post]
  rfl

theorem getP_setP {cs xs ys cs':List C} {off n:Nat} {el:El} (hg:getP cs off el n = some xs) (hset:setP cs off el ys = some cs') (hl:ys.length = n):getP cs' off el n = some ys :=by
 subst hl
 cases el with
 | none =>
  obtain ⟨pre,post,hc,hp,hn⟩ :=getP_none hg
  rw [setP_none hc hp (by omega) hset,← hp]
  show bnd (dropL pre.length (pre ++ (ys ++ post))) _ = _
  rw [dropL_append]
  exact takeL_append ys post
 | some q =>
  obtain ⟨i,o'⟩ :=q
  obtain ⟨pre,post,f',sz',rows',row,rpre,rpost,hc,hp,hr,hrow,ho,hn⟩ :=getP_some hg
  rw [(setP_some hc hp hr hrow ho (by omega) hset).2]
  have hi:i < rows'.length :=by
   rcases Nat.lt_or_ge i rows'.length with h | h
   ·exact h
   ·simp [List.getElem?_eq_none h] at hr
  have h1:atL (pre ++ C.sl f' sz' (rows'.set i (rpre ++ (ys ++ rpost))) :: post) off = some (C.sl f' sz' (rows'.set i (rpre ++ (ys ++ rpost)))) :=by
   rw [atL_getElem,List.getElem?_append_right (by omega),hp]
   simp
  have h2:(rows'.set i (rpre ++ (ys ++ rpost)))[i]? = some (rpre ++ (ys ++ rpost)) :=by simp [hi]
  show bnd (atL _ off) _ = _
  rw [h1]
  simp only [bnd,asSl,h2]
  rw [← ho,dropL_append]
  exact takeL_append ys rpost

theorem over_append:∀ (pre mid post ys:List C),mid.length = ys.length→over pre.length (pre ++ (mid ++ post)) ys = some (pre ++ (ys ++ post))
 | [],[],post,[],_ =>by cases post <;> rfl
 | [],m :: mid,post,y :: ys,h =>by
  have :=over_append [] mid post ys (by simpa using h)
  simp only [List.length_nil,List.nil_append] at this
  show bnd (over 0 (mid ++ post) ys) _ = _
  rw [this]
  rfl
 | [],[],_,_ :: _,h =>by simp at h
 | [],_ :: _,_,[],h =>by simp at h
 | p :: pre,mid,post,ys,h =>by
  show bnd (over pre.length (pre ++ (mid ++ post)) ys) _ = _
  rw [over_append pre mid post ys h]
  rfl

theorem setP_again {cs xs ys cs':List C} {off n:Nat} {el:El} (hg:getP cs off el n = some xs) (hset:setP cs off el ys = some cs') (hl:ys.length = n):∃ cs2,setP cs' off el ys = some cs2 :=by
 cases el with
 | none =>
  obtain ⟨pre,post,hc,hp,hn⟩ :=getP_none hg
  rw [setP_none hc hp (by omega) hset,← hp]
  exact ⟨_,over_append pre ys post ys rfl⟩
 | some q =>
  obtain ⟨i,o'⟩ :=q
  obtain ⟨pre,post,f',sz',rows',row,rpre,rpost,hc,hp,hr,hrow,ho,hn⟩ :=getP_some hg
  obtain ⟨hf,hcs'⟩ :=setP_some hc hp hr hrow ho (by omega) hset
  rw [hcs']
  have hi:i < rows'.length :=by
   rcases Nat.lt_or_ge i rows'.length with h | h
   ·exact h
   ·simp [List.getElem?_eq_none h] at hr
  have h1:atL (pre ++ C.sl f' sz' (rows'.set i (rpre ++ (ys ++ rpost))) :: post) off = some (C.sl f' sz' (rows'.set i (rpre ++ (ys ++ rpost)))) :=by
   rw [atL_getElem,List.getElem?_append_right (by omega),hp]
   simp
  have h2:(rows'.set i (rpre ++ (ys ++ rpost)))[i]? = some (rpre ++ (ys ++ rpost)) :=by simp [hi]
  have h3:f'.isShr = false :=by cases f' <;> first | rfl | exact absurd rfl hf
  apply Option.isSome_iff_exists.1
  unfold Sx.setP
  simp only [h1,bnd,asSl,h2,h3,tst]
  rw [← ho,over_append rpre ys rpost ys rfl]
  rfl

theorem pget_setP {get:Nat→Option Value} {cs xs ys cs':List C} {off n:Nat} {el:El} (hg:getP cs off el n = some xs) (hset:setP cs off el ys = some cs') (hl:ys.length = n):pget w get cs' off el = pget w get cs off el :=by
 cases el with
 | none =>rfl
 | some q =>
  obtain ⟨i,o'⟩ :=q
  obtain ⟨pre,post,f',sz',rows',row,rpre,rpost,hc,hp,hr,hrow,ho,hn⟩ :=getP_some hg
  have h0:cs[off]? = some (.sl f' sz' rows') :=by rw [hc,List.getElem?_append_right (by omega),hp]; simp
  have h1:cs'[off]? = some (.sl f' sz' (rows'.set i (rpre ++ (ys ++ rpost)))) :=by rw [(setP_some hc hp hr hrow ho (by omega) hset).2,List.getElem?_append_right (by omega),hp]; simp
  funext j
  simp only [pget,h0,h1]
  cases get off with
  | none =>rfl
  | some v =>
   cases v with
   | slice ad _ _ =>cases ad <;> rfl
   | _ =>rfl

theorem with_root {x:S} {c:Nat} {cs ds:List C} (h:x.root = some ds):(x.withCells c cs).root = some cs :=by
 cases x <;> first | rfl | simp [S.root] at h
theorem with_rootP' {x:S} {c g:Nat} {el:El} {cs ds:List C} (h:x.rootP g el = some ds):∃ g',(x.withCells c cs).rootP g' el = some cs :=by
 cases x with
 | val k b es =>
  cases el with
  | none =>simp [S.rootP] at h
  | some q =>exact ⟨c,by simp [S.withCells,S.rootP]⟩
 | box k k' es =>
  cases el with
  | none =>
   refine ⟨k,by simp [S.withCells,S.rootP]⟩
  | some q =>exact ⟨c,by simp [S.withCells,S.rootP]⟩
 | fz k es =>
  cases el with
  | none =>simp [S.rootP] at h
  | some q =>exact ⟨c,by simp [S.withCells,S.rootP]⟩
 | _ =>simp [S.rootP] at h

theorem place_turn {tm:Tmp→Value} (h:Inv w Z tm s fp) {r:Tmp} {cs xs ys cs':List C} {off n:Nat} {el:El} (hroot:(look s.sl r).root = some cs) (hg:getP cs off el n = some xs) (hset:setP cs off el ys = some cs') (hl:ys.length = n) :
  ∃ D A Fx B,fp r = D ++ (A ++ Fx ++ B)∧RL w Z xs (pget w (rget w (look s.sl r) (tm r)) cs off el) Fx ∧
   ∀ (w':World) (Z':CA→Prop) (Fy:List CA),(∀ c,Z c→Z' c)→Same w w' (D ++ (A ++ B)) Z→RL w' Z' ys (pget w (rget w (look s.sl r) (tm r)) cs off el) Fy →
    ∀ c l tm0,Rep w' Z' l tm0 (tm r) (D ++ (A ++ Fy ++ B)) ((look s.sl r).withCells c cs') :=by
 obtain ⟨D,G,hF,hG,hget,hmk⟩ :=(h.rep r).root2 hroot
 have hndr:(D ++ G).Nodup :=hF ▸ h.nd r
 have hndG:G.Nodup :=by
  rw [List.nodup_append] at hndr
  exact hndr.2.1
 have hsub:∀ c ∈ G,c ∈ fp r :=fun c hc =>by rw [hF]; exact List.mem_append_right _ hc
 have hxl :=(place_read hG hg).1
 cases el with
 | none =>
  obtain ⟨A,Fx,B,hGe,hx,hnew⟩ :=place_set_none hG hg
  refine ⟨D,A,Fx,B,by rw [hF,hGe],hx,fun w' Z' Fy hZ hs hy c l tm0 =>?_⟩
  have hgo:∀ i,i < cs.length→rget w' (look s.sl r) (tm r) i = rget w (look s.sl r) (tm r) i :=hget w' (fun c hc =>hs c (hc.imp (fun hc =>List.mem_append_left _ hc) id))
  obtain ⟨pre,post,hcs,hpre,hlen⟩ :=getP_none hg
  have :=hnew w' Z' (rget w' (look s.sl r) (tm r)) ys Fy cs' hZ hs.right (fun i hi _ =>hgo i hi) hl (RL.same (fun _ h =>h) ys hy (fun _ _ =>rfl) (fun j hj =>hgo _ (by rw [hcs]; simp; omega))) hset
  exact hmk w' Z' cs' _ l tm0 c hZ this.2 this.1
 | some q =>
  obtain ⟨i,o⟩ :=q
  obtain ⟨A,Fx,B,b',p,hGe,hx,hD,hpg,_,hnew⟩ :=place_set_some hG hg hndG hset hl
  have e:pget w (rget w (look s.sl r) (tm r)) cs off (some (i,o)) = fun j =>cell w (b',p + j) :=funext hpg
  refine ⟨D,A,Fx,B,by rw [hF,hGe],by rw [e]; exact hx,fun w' Z' Fy hZ hs hy c l tm0 =>?_⟩
  have hAr:∀ c ∈ span (b',p) n,c ∈ A :=hD
  have hDZ:∀ c ∈ span (b',p) n,¬ Z c :=fun c hc =>(h.mine r c (hsub c (by rw [hGe]; exact List.mem_append_left _ (List.mem_append_left _ (hD c hc))))).2.2
  have hgo:∀ i,i < cs.length→rget w' (look s.sl r) (tm r) i = rget w (look s.sl r) (tm r) i :=hget w' (fun c hc =>hs c (hc.imp (fun hc =>List.mem_append_left _ hc) id))
  rw [e] at hy
  have :=hnew w' Z' (rget w' (look s.sl r) (tm r)) ys Fy cs' hZ (fun c hc _ =>hs c (hc.imp (fun h =>List.mem_append_right _ h) id)) hDZ hgo hl
   (RL.same (fun _ h =>h) ys hy (fun _ _ =>rfl) (fun j hj =>cell_of_g (hs _ (.inl (List.mem_append_right _ (List.mem_append_left _ (hAr _ (mem_span.2 ⟨rfl,by simp,by simp; omega⟩)))))))) hset
  exact hmk w' Z' cs' _ l tm0 c hZ this.2 this.1

theorem place_write {tm:Tmp→Value} (h:Inv w Z tm s fp) {r:Tmp} {g:Nat} {v:Value} {cs old ys cs':List C} {off n:Nat} {el:El} (hroot:(look s.sl r).rootP g el = some cs) (hptr:PtrTo (rget w (look s.sl r) (tm r)) cs (tm r) off el v)
  (hg:getP cs off el n = some old) (hset:setP cs off el ys = some cs') (hl:ys.length = n) :
  ∃ b p,v = .pointer (some ⟨b,p,none⟩)∧(∀ c ∈ span (b,p) n,c ∈ fp r)∧∃ R:List CA,(∀ c ∈ R,c ∈ fp r)∧R.Nodup∧(∀ c ∈ span (b,p) n,c ∈ R)∧(∀ j,j < n→pget w (rget w (look s.sl r) (tm r)) cs off el j = cell w (b,p + j)) ∧
   ∀ (w':World) (Z':CA→Prop) (Fy:List CA),(∀ c,Z c→Z' c)→RL w' Z' ys (fun j =>cell w' (b,p + j)) Fy→(∀ c,(c ∈ R∨Z c)→c ∉ span (b,p) n→gcell w' c = gcell w c)→(∀ j,j < n→(cell w' (b,p + j)).isSome = true)→Fy.Nodup→(∀ c ∈ Fy,c ∉ R) →
    ∃ F',(∀ c l tm0,Rep w' Z' l tm0 (tm r) F' ((look s.sl r).withCells c cs'))∧F'.Nodup∧∀ c,c ∈ F'↔c ∈ R∨c ∈ Fy :=by
 have hrt :=rootP_root hroot
 have hnd :=h.nd r
 -- the end,alike in both cases
 have nodups:∀ {D A B Fy:List CA},(D ++ (A ++ B)).Nodup→Fy.Nodup→(∀ c ∈ Fy,c ∉ D ++ (A ++ B))→(D ++ (A ++ Fy ++ B)).Nodup :=by
  intro D A B Fy h1 h2 h3
  have hp:(D ++ (A ++ Fy ++ B)).Perm ((D ++ (A ++ B)) ++ Fy) :=by
   refine List.perm_iff_count.2 fun c =>?_
   simp only [List.count_append]
   omega
  rw [hp.nodup_iff,List.nodup_append]
  exact ⟨h1,h2,fun c hc d hd e =>h3 d hd (e ▸ hc)⟩
 have mems:∀ {D A B Fy:List CA},∀ c,c ∈ D ++ (A ++ Fy ++ B)↔c ∈ D ++ (A ++ B)∨c ∈ Fy :=by
  intro D A B Fy c
  simp only [List.mem_append]
  constructor
  ·rintro (h | (h | h) | h)
   ·exact .inl (.inl h)
   ·exact .inl (.inr (.inl h))
   ·exact .inr h
   ·exact .inl (.inr (.inr h))
  ·rintro ((h | h | h) | h)
   ·exact .inl h
   ·exact .inr (.inl (.inl h))
   ·exact .inr (.inr h)
   ·exact .inr (.inl (.inr h))
 cases el with
 | none =>
  cases hlk:look s.sl r with
  | box k g' ds =>
   rw [hlk] at hroot hptr
   simp only [S.rootP] at hroot
   split at hroot
   case isFalse =>cases hroot
   simp at hroot
   subst hroot
   have hrep :=h.rep r
   rw [hlk] at hrep
   obtain ⟨b,o,G,htv,hG,hF⟩ :=hrep
   obtain ⟨b2,o2,htv2,hv⟩ :=hptr
   rw [htv] at htv2
   simp at htv2
   obtain ⟨rfl,rfl⟩ :=htv2
   obtain ⟨A,Fx,B,hGe,hx,hnew⟩ :=place_set_none hG hg
   obtain ⟨pre,post,hcs,hpre,hol⟩ :=getP_none hg
   have hdl:ds.length = pre.length + (old.length + post.length) :=by rw [hcs]; simp
   have hin:∀ c ∈ span (b,o + off) n,c ∈ span (b,o) ds.length :=by
    intro c hc
    rw [mem_span] at hc ⊢
    simp only at hc ⊢
    omega
   rw [hF,hGe] at hnd
   have hndR:(span (b,o) ds.length ++ (A ++ B)).Nodup :=by
    have hp:(span (b,o) ds.length ++ (A ++ Fx ++ B)).Perm ((span (b,o) ds.length ++ (A ++ B)) ++ Fx) :=by
     refine List.perm_iff_count.2 fun c =>?_
     simp only [List.count_append]
     omega
    have :=hp.nodup_iff.1 hnd
    rw [List.nodup_append] at this
    exact this.1
   have hRsub:∀ c ∈ span (b,o) ds.length ++ (A ++ B),c ∈ fp r :=fun c hc =>by rw [hF,hGe]; exact (mems (Fy :=Fx) c).2 (.inl hc)
   refine ⟨b,o + off,hv,fun c hc =>hRsub c (List.mem_append_left _ (hin c hc)),span (b,o) ds.length ++ (A ++ B),hRsub,hndR,fun c hc =>List.mem_append_left _ (hin c hc),fun j hj =>?_,fun w' Z' Fy hZ hy hoff hsome hFy hFyR =>?_⟩
   ·simp only [pget,rget,htv]
    congr 2
    omega
   ·have hZoff:∀ c,Z c→c ∉ span (b,o + off) n :=fun c hz hs =>(h.mine r c (hRsub c (List.mem_append_left _ (hin c hs)))).2.2 hz
    have hsame:Same w w' (A ++ B) Z :=fun c hc =>hoff c (hc.imp (fun hc =>List.mem_append_right _ hc) id) (fun hs =>by
     rcases hc with hc | hc
     ·rw [List.nodup_append] at hndR
      exact hndR.2.2 c (hin c hs) c hc rfl
     ·exact hZoff c hc hs)
    have :=hnew w' Z' (fun i =>cell w' (b,o + i)) ys Fy cs' hZ hsame (fun j hj hj2 =>cell_of_g (hoff _ (.inl (List.mem_append_left _ (mem_span.2 ⟨rfl,by simp,by simp; omega⟩))) (fun hs =>by
      rw [mem_span] at hs
      simp only at hs
      omega))) hl (by
      have e:(fun j =>cell w' (b,o + (off + j))) = fun j =>cell w' (b,o + off + j) :=by
       funext j
       rw [Nat.add_assoc]
      rw [e]
      exact hy) hset
    exact ⟨span (b,o) ds.length ++ (A ++ Fy ++ B),fun c l tm0 =>⟨b,o,_,htv,this.1,by rw [this.2]⟩,nodups hndR hFy hFyR,mems⟩
  | val g' b' ds =>rw [hlk] at hroot; simp [S.rootP] at hroot
  | _ =>rw [hlk] at hroot; simp [S.rootP] at hroot
 | some z =>
  obtain ⟨ix,o'⟩ :=z
  obtain ⟨D,G,hF,hG,hget,hmk⟩ :=(h.rep r).root2 hrt
  rw [hF] at hnd
  have hndG:G.Nodup :=by
   rw [List.nodup_append] at hnd
   exact hnd.2.1
  obtain ⟨A,Fx,B,b,p,hGe,hx,hD,hpg,⟨o2,len2,cap2,f2,sz2,rows2,e1,e2,e3⟩,hnew⟩ :=place_set_some hG hg hndG hset hl
  obtain ⟨b3,o3,len3,cap3,f3,sz3,rows3,e4,e5,hv⟩ :=hptr
  rw [e1] at e4
  rw [e2] at e5
  simp at e4 e5
  obtain ⟨⟨rfl,rfl⟩,rfl,rfl⟩ :=e4
  obtain ⟨rfl,rfl,rfl⟩ :=e5
  rw [e3] at hv
  rw [hGe] at hnd
  have hndR:(D ++ (A ++ B)).Nodup :=by
   have hp:(D ++ (A ++ Fx ++ B)).Perm ((D ++ (A ++ B)) ++ Fx) :=by
    refine List.perm_iff_count.2 fun c =>?_
    simp only [List.count_append]
    omega
   have :=hp.nodup_iff.1 hnd
   rw [List.nodup_append] at this
   exact this.1
  have hRsub:∀ c ∈ D ++ (A ++ B),c ∈ fp r :=fun c hc =>by rw [hF,hGe]; exact (mems (Fy :=Fx) c).2 (.inl hc)
  have hinR:∀ c ∈ span (b,p) n,c ∈ D ++ (A ++ B) :=fun c hc =>List.mem_append_right _ (List.mem_append_left _ (hD c hc))
  refine ⟨b,p,hv,fun c hc =>hRsub c (hinR c hc),D ++ (A ++ B),hRsub,hndR,hinR,fun j hj =>hpg j,fun w' Z' Fy hZ hy hoff hsome hFy hFyR =>?_⟩
  have hgo:∀ i,i < cs.length→rget w' (look s.sl r) (tm r) i = rget w (look s.sl r) (tm r) i :=hget w' (fun c hc =>hc.elim (fun hc =>hoff c (.inl (List.mem_append_left _ hc)) (fun hs =>by
   rw [List.nodup_append] at hndR
   exact hndR.2.2 c hc c (List.mem_append_left _ (hD c hs)) rfl)) (fun hc =>hoff c (.inr hc) (fun hs =>(h.mine r c (hRsub c (hinR c hs))).2.2 hc)))
  have :=hnew w' Z' (rget w' (look s.sl r) (tm r)) ys Fy cs' hZ (fun c hc hs =>hoff c (hc.imp (fun h =>List.mem_append_right _ h) id) hs) (fun c hc =>(h.mine r c (hRsub c (hinR c hc))).2.2) hgo hl hy hset
  exact ⟨D ++ (A ++ Fy ++ B),fun c l tm0 =>hmk w' Z' cs' _ l tm0 c hZ this.2 this.1,nodups hndR hFy hFyR,mems⟩

theorem Inv.upds {w':World} {Z':CA→Prop} {tm:Tmp→Value} (h:Inv w Z tm s fp) (hZ:∀ c,Z c→Z' c) {s':St} {fp':Tmp→List CA} (hcnt:s.cnt≤s'.cnt)
  (hl:∀ t,(look s'.sl t = look s.sl t∧fp' t = fp t∧Same w w' (fp t) Z)∨(∃ c cs,look s'.sl t = (look s.sl t).withCells c cs∧(look s.sl t).root.isSome = true∧s.cnt≤c∧c < s'.cnt∧∀ l tm0,Rep w' Z' l tm0 (tm t) (fp' t) (look s'.sl t)))
  (hnd:∀ t,(fp' t).Nodup) (hdis:∀ t u,t ≠ u→∀ c ∈ fp' t,c ∉ fp' u) (hm:∀ t,∀ c ∈ fp' t,Mine w' Z' c) (hz:∀ c,Z' c→(gcell w' c).isSome = true):Inv w' Z' tm s' fp' :=by
 have hf:Follows w w' Z s.sl s'.sl tm tm s.cnt :=by
  intro q
  rcases hl q with ⟨e1,_,e3⟩ | ⟨c,cs,e1,e2,e3,_,_⟩
  ·exact .inl ⟨e1,rfl,h.rootKept e3⟩
  ·right
   rw [e1]
   exact ⟨fun k ds e =>by rw [with_rootL e]; exact e3,fun g i ds e =>by rw [with_rootR e]; exact e3,fun g ds e =>(with_rootN e).elim (fun h =>.inl (by rw [h]; exact e3)) (fun h =>.inr ⟨rfl,h⟩)⟩
 refine ⟨fun t =>?_,hnd,hdis,hm,hz,fun t =>?_⟩
 ·rcases hl t with ⟨e1,e2,e3⟩ | ⟨c,cs,e1,_,_,_,e5⟩
  ·rw [e1,e2]
   exact Rep.follow hZ hf (h.rep t) (h.stamps t) e3
  ·exact e5 _ _
 ·rcases hl t with ⟨e1,_,_⟩ | ⟨c,cs,e1,e2,e3,e4,_⟩
  ·rw [e1]
   exact stampsLt_mono (h.stamps t) hcnt
  ·rw [e1]
   have hst :=h.stamps t
   cases hx:look s.sl t <;> rw [hx] at hst e2 <;> simp only [S.withCells,S.stampsLt] at hst ⊢ <;> first | omega | simp [S.root] at e2

theorem Inv.clear {tm:Tmp→Value} (h:Inv w Z tm s fp) {r:Tmp} {cs xs ys cs':List C} {off n:Nat} {el:El} (hroot:(look s.sl r).root = some cs) (hg:getP cs off el n = some xs) (hset:setP cs off el ys = some cs') (hl:ys.length = n)
  (hys:∀ {get:Nat→Option Value} {F:List CA},RL w Z xs get F→RL w Z ys get []) :
  ∃ fp' Fx,Inv w Z tm (Sx.upd r cs' s) fp'∧RL w Z xs (pget w (rget w (look s.sl r) (tm r)) cs off el) Fx∧Fx.Nodup∧(∀ c ∈ Fx,c ∈ fp r)∧(∀ t,∀ c ∈ Fx,c ∉ fp' t)∧(∀ t,∀ c ∈ fp' t,c ∈ fp t)∧(∀ t,t ≠ r→fp' t = fp t) :=by
 obtain ⟨D,A,Fx,B,hF,hx,hnew⟩ :=place_turn h hroot hg hset hl
 have hnd :=h.nd r
 rw [hF] at hnd
 have hp:(D ++ (A ++ Fx ++ B)).Perm ((D ++ (A ++ [] ++ B)) ++ Fx) :=by
  refine List.perm_iff_count.2 fun c =>?_
  simp only [List.count_append,List.count_nil]
  omega
 have hnd2 :=hp.nodup_iff.1 hnd
 rw [List.nodup_append] at hnd2
 have hmem:∀ c,c ∈ fp r↔(c ∈ D ++ (A ++ [] ++ B)∨c ∈ Fx) :=fun c =>by rw [hF,hp.mem_iff,List.mem_append]
 have hrep :=hnew w Z [] (fun _ h =>h) (fun _ _ =>rfl) (hys hx) s.cnt
 have hinv :=h.upd (w' :=w) (Z' :=Z) (r :=r) (cs' :=cs') (F' :=D ++ (A ++ [] ++ B)) (by rw [hroot]; rfl) (fun _ h =>h) (fun _ _ _ _ =>rfl) (fun l tm0 =>hrep l tm0) hnd2.1 (fun c hc =>h.mine r c ((hmem c).2 (.inl hc)))
  (fun t ht c hc =>h.disj r t (fun e =>ht e.symm) c ((hmem c).2 (.inl hc))) (fun t _ c hc =>h.mine t c hc) h.zok
 refine ⟨_,Fx,hinv,hx,hnd2.2.1,fun c hc =>(hmem c).2 (.inr hc),fun t c hc =>?_,fun t c hc =>?_,fun t ht =>if_neg ht⟩
 ·by_cases ht:t = r
  ·simp only [if_pos ht]
   exact fun hm =>hnd2.2.2 c hm c hc rfl
  ·simp only [if_neg ht]
   exact h.disj r t (fun e =>ht e.symm) c ((hmem c).2 (.inr hc))
 ·by_cases ht:t = r
  ·simp only [if_pos ht] at hc
   rw [ht]
   exact (hmem c).2 (.inl hc)
  ·simp only [if_neg ht] at hc
   exact hc
end
end Go.Sx
