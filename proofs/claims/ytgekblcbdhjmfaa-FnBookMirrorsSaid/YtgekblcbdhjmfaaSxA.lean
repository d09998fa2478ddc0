/- An evaluator for the translated code over values that are trees,and that it is sound: part SxA. -/
import Derived.WalkKit
import Derived.Orders
import Derived.ArgAppend
import Derived.Laws.MakeOwn
set_option linter.unusedVariables false
set_option linter.unusedSimpArgs false
set_option maxRecDepth 100000
/- A small evaluator for the translated Go code,over values that are trees (no memory): the definitions. -/
namespace Go.Sx

/-! Steps that are looked into only when their first part is known. -/
def bnd {α β:Type} (x:Option α) (k:α→Option β):Option β :=
 match x with
 | some a =>k a
 | none =>none
def tst {β:Type} (b:Bool) (x y:Option β):Option β :=
 match b with
 | true =>x
 | false =>y
inductive Fl where
 | shr | own | lent

def Fl.isShr:Fl→Bool
 | .shr =>true
 | .own =>false
 | .lent =>false
def Fl.isOwn:Fl→Bool
 | .shr =>false
 | .own =>true
 | .lent =>false

inductive C where
 | p (v:Value)
 | sl (f:Fl) (sz:Nat) (rows:List (List C))
 | hole
 /-- A map (kd 0),or a walk over one (1: what is left; 2: where it is,then what is left): entries (the key's cells,the value's); 'ka','va': are they structs? 'nk': the key's cells. -/
 | mp (f:Fl) (kd:Nat) (ka va:Bool) (nk:Nat) (rows:List (List C))

def C.free:C→Bool
 | .p _ =>true
 | .sl f _ _ =>f.isShr
 | .hole =>false
 | .mp f _ _ _ _ _ =>f.isShr

def C.loose:C→Bool
 | .p _ =>true
 | .sl .shr _ _ =>true
 | .sl .own _ _ =>true
 | .sl .lent _ _ =>false
 | .hole =>true
 | .mp .shr _ _ _ _ _ =>true
 | .mp .own _ _ _ _ _ =>true
 | .mp .lent _ _ _ _ _ =>false

mutual
def C.bor:C→C
 | .p v =>.p v
 | .sl f sz rows =>.sl .shr sz (if f.isShr then rows else borRows rows)
 | .hole =>.hole
 | .mp _ it ka va nk rows =>.mp .shr it ka va nk rows
def borRow:List C→List C
 | [] =>[]
 | c :: cs =>c.bor :: borRow cs
def borRows:List (List C)→List (List C)
 | [] =>[]
 | r :: rs =>borRow r :: borRows rs
end

mutual
def C.mine:C→Bool
 | .p _ =>true
 | .sl f _ rows =>f.isOwn && mineRows rows
 | .hole =>false
 | .mp .. =>false
def mineRow:List C→Bool
 | [] =>true
 | c :: cs =>c.mine && mineRow cs
def mineRows:List (List C)→Bool
 | [] =>true
 | r :: rs =>mineRow r && mineRows rs
end

mutual
def C.whole:C→Bool
 | .p _ =>true
 | .sl f _ rows =>f.isShr || (f.isOwn && wholeRows rows)
 | .hole =>false
 | .mp f _ _ _ _ _ =>f.isShr || f.isOwn
def wholeRow:List C→Bool
 | [] =>true
 | c :: cs =>c.whole && wholeRow cs
def wholeRows:List (List C)→Bool
 | [] =>true
 | r :: rs =>wholeRow r && wholeRows rs
end

abbrev El :=Option (Nat × Nat)

inductive S where
 | val (g:Nat) (agg:Bool) (cs:List C)
 | box (g h:Nat) (cs:List C)
 | lnk (r h off n:Nat) (agg:Bool) (el:El) (win:El)
 | ptr (r g off:Nat) (el:El)
 | rp (cs:List C)
 /-- A variable whose own cells do not turn any more; what its slices hold may. -/
 | fz (g:Nat) (cs:List C)
 | fn (f:FuncId) (caps:List (List C))
 | tup (vs:List (Bool × List C))
 | dead

inductive TK where
 | prim
 | strct (offs:List (Nat × Nat × Bool))   -- of each field: its offset,its cells,whether it is a struct
 | slc (e:TypeId)
 | ptr (e:TypeId)
 | mp (k e:TypeId)

structure TI where
 k:TK
 size:Nat
 bytes:Nat
 zero:List C

def TK.agg:TK→Bool
 | .prim =>false
 | .strct _ =>true
 | .slc _ =>false
 | .ptr _ =>false
 | .mp _ _ =>false
def TK.offs:TK→Option (List (Nat × Nat × Bool))
 | .prim =>none
 | .strct l =>some l
 | .slc _ =>none
 | .ptr _ =>none
 | .mp _ _ =>none
def TK.elem:TK→Option TypeId
 | .prim =>none
 | .strct _ =>none
 | .slc e =>some e
 | .ptr _ =>none
 | .mp _ _ =>none
def TK.at:TK→Option TypeId
 | .prim =>none
 | .strct _ =>none
 | .slc _ =>none
 | .ptr e =>some e
 | .mp _ _ =>none
def TK.kv:TK→Option (TypeId × TypeId)
 | .prim =>none
 | .strct _ =>none
 | .slc _ =>none
 | .ptr _ =>none
 | .mp k e =>some (k,e)

inductive Mode where
 | shr | mv | io

structure DNode where
 p:List Nat
 es:List (Nat × Nat × List Tmp)

structure Ann where
 /-- Loops that walk over a map: the walk,the slot of a step. -/
 rng:Nat→Option (Tmp × Tmp) :=fun _ =>none
 /-- A function without a body: it compares two strings. -/
 ext:Bool :=false
 modes:List Mode :=[]
 keep:List Tmp :=[]
 heads:Nat→List Tmp :=fun _ =>[]
 ends:Nat→Option (List Tmp) :=fun _ =>none
 /-- Of a region that draws its order: for each operation the slots that it touches,and those that it may turn. -/
 draws:Nat→List (List Tmp × List Tmp) :=fun _ =>[]
 /-- Parameters that live on in a variable that is not written itself: parameter,slot of the variable. -/
 mir:List (Tmp × Tmp) :=[]
 /-- Regions that draw their order and are run in every order. -/
 free:Nat→Option (List DNode) :=fun _ =>none
 /-- A function whose contract stands elsewhere: which one (0: none). -/
 sum:Nat :=0
 /-- What is frozen ahead of a region that draws its order: roots; whole,or what hangs on the rows of their slices (true). -/
 frz:Nat→List (Tmp × Bool) :=fun _ =>[]
 /-- Elements that are taken out ahead of an append to them. -/
 lf:List Tmp :=[]
 /-- Callees whose results are frozen where they are called. -/
 fc:List FuncId :=[]

structure Res where
 vals:List (Bool × List C)
 outs:List (List C)

abbrev Sem1 :=FuncId→List S→Option Res

def textOf:List C→Option ByteArray
 | [.p (.string b)] =>some b
 | _ =>none
def textsOf:List (List C)→Option (List ByteArray)
 | [] =>some []
 | r :: rs =>match textOf r,textsOf rs with
  | some b,some l =>some (b :: l)
  | _,_ =>none
def rowsT (l:List ByteArray):List (List C) :=l.map fun b =>[.p (.string b)]
def sortT (l:List ByteArray):List ByteArray :=((l.map fun b =>b.data.toList).mergeSort fun x y =>decide (x≤y)).map fun l =>⟨l.toArray⟩
def sumSort:List S→Option Res
 | [.val _ false [.sl .own 1 rows]] =>match textsOf rows with
  | some l =>if l.length < 4194304 then some ⟨[],[[.sl .own 1 (rowsT (sortT l))]]⟩ else none
  | none =>none
 | _ =>none
def sumDel:List S→Option Res
 | [.val _ false [.sl .own 1 rows],.val _ false [.p (.int .i64 i)],.val _ false [.p (.int .i64 j)]] =>match textsOf rows with
  | some l =>if 0≤i∧i < j∧j≤l.length then some ⟨[(false,[.sl .own 1 (rowsT (l.take i.toNat ++ l.drop j.toNat))])],[]⟩ else none
  | none =>none
 | _ =>none
def sumOf:Nat→List S→Option Res
 | 0 =>sumSort
 | 1 =>sumDel
 | _ =>fun _ =>none

structure Env where
 T:TypeId→Option TI
 eqT:TypeId→Bool
 ann:FuncId→Ann
 /-- Parameters whose variables are not written themselves. -/
 fz:List Tmp :=[]
 lf:List Tmp :=[]
 /-- Callees whose results are frozen where they are called. -/
 fc:List FuncId :=[]

structure St where
 cnt:Nat
 sl:List (Tmp × S)

def look:List (Tmp × S)→Tmp→S
 | [],_ =>.dead
 | (u,x) :: r,t =>if u = t then x else look r t

def S.stamp (c:Nat):S→S
 | .fz _ cs =>.fz c cs
 | .val _ a cs =>.val c a cs
 | .box _ _ cs =>.box c c cs
 | .lnk r h off n a el win =>.lnk r h off n a el win
 | .ptr r g off el =>.ptr r g off el
 | .rp cs =>.rp cs
 | .fn f caps =>.fn f caps
 | .tup vs =>.tup vs
 | .dead =>.dead

def put (t:Option Tmp) (x:S):St→St
 | ⟨c,l⟩ =>match t with
  | some t =>⟨c + 1,(t,x.stamp c) :: l⟩
  | none =>⟨c,l⟩

def setL {α:Type}:List α→Nat→α→List α
 | [],_,_ =>[]
 | _ :: r,0,b =>b :: r
 | a :: r,n + 1,b =>a :: setL r n b

def atL {α:Type}:List α→Nat→Option α
 | [],_ =>none
 | a :: _,0 =>some a
 | _ :: r,n + 1 =>atL r n

def takeL:Nat→List C→Option (List C)
 | 0,_ =>some []
 | _ + 1,[] =>none
 | n + 1,c :: r =>bnd (takeL n r) fun l =>some (c :: l)
def dropL:Nat→List C→Option (List C)
 | 0,l =>some l
 | _ + 1,[] =>none
 | n + 1,_ :: r =>dropL n r
def over:Nat→List C→List C→Option (List C)
 | 0,cs,[] =>some cs
 | 0,[],_ :: _ =>none
 | 0,_ :: cs,x :: xs =>bnd (over 0 cs xs) fun l =>some (x :: l)
 | _ + 1,[],_ =>none
 | n + 1,c :: cs,xs =>bnd (over n cs xs) fun l =>some (c :: l)

def asSl:C→Option (Fl × Nat × List (List C))
 | .p _ =>none
 | .sl f sz rows =>some (f,sz,rows)
 | .hole =>none
 | .mp .. =>none

def getP (cs:List C) (off:Nat) (el:El) (n:Nat):Option (List C) :=
 match el with
 | none =>bnd (dropL off cs) fun l =>takeL n l
 | some (i,o) =>bnd (atL cs off) fun c =>bnd (asSl c) fun q =>bnd q.2.2[i]? fun row =>bnd (dropL o row) fun l =>takeL n l

def setP (cs:List C) (off:Nat) (el:El) (xs:List C):Option (List C) :=
 match el with
 | none =>over off cs xs
 | some (i,o) =>bnd (atL cs off) fun c =>bnd (asSl c) fun q =>bnd q.2.2[i]? fun row =>
   tst q.1.isShr none (bnd (over o row xs) fun row' =>some (setL cs off (.sl q.1 q.2.1 (q.2.2.set i row'))))

def S.root:S→Option (List C)
 | .fz _ cs =>some cs
 | .val _ _ cs =>some cs
 | .box _ _ cs =>some cs
 | .lnk .. =>none
 | .ptr .. =>none
 | .rp _ =>none
 | .fn .. =>none
 | .tup _ =>none
 | .dead =>none

def S.rootL (h:Nat):S→Option (List C)
 | .fz g cs =>if g = h then some cs else none
 | .val g _ cs =>if g = h then some cs else none
 | .box _ g cs =>if g = h then some cs else none
 | .lnk .. =>none
 | .ptr .. =>none
 | .rp _ =>none
 | .fn .. =>none
 | .tup _ =>none
 | .dead =>none

def S.rootP (g:Nat) (el:El):S→Option (List C)
 | .fz h cs =>match el with
  | some _ =>if h = g then some cs else none
  | none =>none
 | .val h _ cs =>match el with
  | some _ =>if h = g then some cs else none
  | none =>none
 | .box k h cs =>match el with
  | some _ =>if h = g then some cs else none
  | none =>if k = g then some cs else none
 | .lnk .. =>none
 | .ptr .. =>none
 | .rp _ =>none
 | .fn .. =>none
 | .tup _ =>none
 | .dead =>none

def S.rootR (g:Nat) (el:El):S→Option (List C)
 | .fz h cs =>if h = g then some cs else none
 | .val h a cs =>S.rootP g el (.val h a cs)
 | .box k h cs =>S.rootP g el (.box k h cs)
 | .lnk .. =>none
 | .ptr .. =>none
 | .rp _ =>none
 | .fn .. =>none
 | .tup _ =>none
 | .dead =>none

def S.linkStamp:S→Nat
 | .fz g _ =>g
 | .val g _ _ =>g
 | .box _ h _ =>h
 | .lnk .. =>0
 | .ptr .. =>0
 | .rp _ =>0
 | .fn .. =>0
 | .tup _ =>0
 | .dead =>0

def S.withCells (c:Nat) (cs:List C):S→S
 | .fz _ _ =>.fz c cs
 | .val _ a _ =>.val c a cs
 | .box g _ _ =>.box g c cs
 | .lnk r h off n a el win =>.lnk r h off n a el win
 | .ptr r g off el =>.ptr r g off el
 | .rp cs =>.rp cs
 | .fn f caps =>.fn f caps
 | .tup vs =>.tup vs
 | .dead =>.dead

def upd (r:Nat) (cs:List C):St→St
 | ⟨c,l⟩ =>⟨c + 1,(r,(look l r).withCells c cs) :: l⟩

def isNilSlice:Value→Bool
 | .slice none 0 0 =>true
 | _ =>false

def allFree:List C→Bool
 | [] =>true
 | c :: r =>c.free && allFree r
def allLoose:List C→Bool
 | [] =>true
 | c :: r =>c.loose && allLoose r

def allFreeT:List (Bool × List C)→Bool
 | [] =>true
 | v :: r =>allFree v.2 && allFreeT r
def S.read (t:Tmp):S→Option S
 | .val g a cs =>if allFree cs then some (.val g a cs) else some (.lnk t g 0 cs.length a none none)
 | .box g _ _ =>some (.ptr t g 0 none)
 | .fz g _ =>some (.ptr t g 0 none)
 | .lnk r h off n a el win =>some (.lnk r h off n a el win)
 | .ptr r g off el =>some (.ptr r g off el)
 | .rp cs =>some (.rp cs)
 | .fn f caps =>some (.fn f caps)
 | .tup vs =>if allFreeT vs then some (.tup vs) else none
 | .dead =>none

def rd (E:Env) (ty:TypeId) (s:St):Operand→Option S
 | .tmp t =>(look s.sl t).read t
 | .const v =>if isNilSlice v then bnd (E.T ty) fun i =>bnd i.k.elem fun _ =>some (.val 0 false i.zero) else tst v.oneCell' (some (.val 0 false [.p v])) none
 | .func f =>some (.fn f [])
 | .global _ =>none

def winC (win:El) (cs:List C):Option (List C) :=
 match win with
 | none =>some cs
 | some (lo,k) =>match cs with
  | [] =>none
  | c :: r =>match r with
   | [] =>bnd (asSl c) fun q =>tst (decide (lo + k≤q.2.2.length)) (some [.sl q.1 q.2.1 ((q.2.2.drop lo).take k)]) none
   | _ :: _ =>none

def cells (s:St):S→Option (Bool × List C)
 | .fz .. =>none
 | .val _ a cs =>some (a,cs)
 | .lnk r h off n a el win =>bnd ((look s.sl r).rootL h) fun cs =>bnd (getP cs off el n) fun xs =>bnd (winC win xs) fun ys =>some (a,ys)
 | .box .. =>none
 | .ptr .. =>none
 | .rp _ =>none
 | .fn .. =>none
 | .tup _ =>none
 | .dead =>none

def C.left:C→C
 | .p v =>.p v
 | .sl f sz rows =>if f.isShr then .sl .shr sz rows else .hole
 | .hole =>.hole
 | .mp f it ka va nk rows =>if f.isShr then .mp .shr it ka va nk rows else .hole
def leftRow:List C→List C
 | [] =>[]
 | c :: r =>c.left :: leftRow r

def C.ghost:C→C
 | .p v =>.p v
 | .sl f sz rows =>if f.isShr then .sl .shr sz rows else .sl .shr 0 (List.replicate rows.length [])
 | .hole =>.hole
 | .mp f it ka va nk rows =>if f.isShr then .mp .shr it ka va nk rows else .hole
def ghostRow:List C→List C
 | [] =>[]
 | c :: r =>c.ghost :: ghostRow r

def leaveL:El→List C→List C :=fun _ xs =>leftRow xs
def leaveG:El→List C→List C
 | none =>ghostRow
 | some _ =>leftRow
def takeW (lv:El→List C→List C) (s:St):S→Option (St × Bool × List C)
 | .fz .. =>none
 | .val _ a cs =>some (s,a,cs)
 | .lnk r h off n a el win =>bnd ((look s.sl r).rootL h) fun cs =>bnd (getP cs off el n) fun xs =>tst (wholeRow xs)
   (bnd (winC win xs) fun ys =>bnd (setP cs off el (lv el xs)) fun cs' =>some (upd r cs' s,a,ys)) none
 | .box .. =>none
 | .ptr .. =>none
 | .rp _ =>none
 | .fn .. =>none
 | .tup _ =>none
 | .dead =>none
abbrev take (s:St) (x:S):Option (St × Bool × List C) :=takeW leaveL s x
abbrev takeG (s:St) (x:S):Option (St × Bool × List C) :=takeW leaveG s x

def oneC:List C→Option C
 | [] =>none
 | c :: r =>match r with
  | [] =>some c
  | _ :: _ =>none

def asP:C→Option Value
 | .p v =>some v
 | .sl .. =>none
 | .hole =>none
 | .mp .. =>none

def one1 (a:Bool) (cs:List C):Option C :=tst a none (oneC cs)

def S.prim:S→Option Value
 | .fz .. =>none
 | .val _ a cs =>bnd (one1 a cs) asP
 | .box .. =>none
 | .lnk .. =>none
 | .ptr .. =>none
 | .rp _ =>none
 | .fn .. =>none
 | .tup _ =>none
 | .dead =>none

def asBool:Value→Option Bool
 | .bool b =>some b
 | _ =>none
def asIdx:Value→Option Nat
 | .int _ n =>tst (decide (0≤n)) (some n.toNat) none
 | _ =>none

def LIM:Nat :=4294967296

def shiftV (op:BinOp) (k:IntKind) (a b:Int):Option Value :=
 match op with
 | .shl =>tst (decide (b < 0)) none (some (.int k (k.wrap (a * 2 ^ (min b.toNat k.bits)))))
 | .shr =>tst (decide (b < 0)) none (some (.int k (a.fdiv (2 ^ (min b.toNat k.bits)))))
 | _ =>none
def bitsV (f:∀ n,BitVec n→BitVec n→BitVec n) (k:IntKind) (a b:Int):Int :=k.wrap (f k.bits (BitVec.ofInt k.bits a) (BitVec.ofInt k.bits b)).toNat
def xorV:IntKind→Int→Int→Int :=bitsV fun _ x y =>x ^^^ y
def andV:IntKind→Int→Int→Int :=bitsV fun _ x y =>x &&& y
def orV:IntKind→Int→Int→Int :=bitsV fun _ x y =>x ||| y
def intBin (op:BinOp) (k:IntKind) (a b:Int):Option Value :=
 match op with
 | .xor =>some (.int k (xorV k a b))
 | .and =>some (.int k (andV k a b))
 | .or =>some (.int k (orV k a b))
 | .shl =>shiftV .shl k a b
 | .shr =>shiftV .shr k a b
 | .add =>some (.int k (k.wrap (a + b)))
 | .sub =>some (.int k (k.wrap (a - b)))
 | .mul =>some (.int k (k.wrap (a * b)))
 | .quo =>tst (decide (b = 0)) none (some (.int k (k.wrap (a.tdiv b))))
 | .rem =>tst (decide (b = 0)) none (some (.int k (a.tmod b)))
 | .eql =>some (.bool (decide (a = b)))
 | .neq =>some (.bool (!decide (a = b)))
 | .lss =>some (.bool (decide (a < b)))
 | .leq =>some (.bool (decide (a≤b)))
 | .gtr =>some (.bool (decide (b < a)))
 | .geq =>some (.bool (decide (b≤a)))
 | _ =>none

def strBin (op:BinOp) (x y:ByteArray):Option Value :=
 match op with
 | .add =>tst (decide (x.size + y.size < 9223372036854775807)) (some (.string (x ++ y))) none
 | .eql =>some (.bool (decide (x = y)))
 | .neq =>some (.bool (!decide (x = y)))
 | .lss =>some (.bool (Op.bytesLess x.toList y.toList))
 | .leq =>some (.bool (!Op.bytesLess y.toList x.toList))
 | .gtr =>some (.bool (Op.bytesLess y.toList x.toList))
 | .geq =>some (.bool (!Op.bytesLess x.toList y.toList))
 | _ =>none

def boolBin (op:BinOp) (x y:Bool):Option Value :=
 match op with
 | .eql =>some (.bool (x == y))
 | .neq =>some (.bool (!(x == y)))
 | _ =>none

def bin (op:BinOp) (x y:Value):Option Value :=
 match x,y with
 | .int k a,.int k' b =>if k = k' then intBin op k a b else shiftV op k a b
 | .string a,.string b =>strBin op a b
 | .bool a,.bool b =>boolBin op a b
 | _,_ =>none

def un (op:UnOp) (x:Value):Option Value :=
 match op,x with
 | .not,.bool b =>some (.bool !b)
 | _,_ =>none

def takeAll (E:Env):List (Nat × Operand)→St→Option (St × List (Nat × List C))
 | [],s =>some (s,[])
 | (i,x) :: r,s =>bnd (rd E 0 s x) fun v =>bnd (take s v) fun q =>bnd (takeAll E r q.1) fun z =>some (z.1,(i,q.2.2) :: z.2)

def lay (place:Nat→Option (Nat × Nat)):List C→List (Nat × List C)→Option (List C)
 | z,[] =>some z
 | z,(i,cs) :: r =>bnd (place i) fun q =>tst (decide (cs.length = q.2)) (bnd (over q.1 z cs) fun z' =>lay place z' r) none

def rowsOf (sz:Nat):Nat→List C→List (List C)
 | 0,_ =>[]
 | n + 1,cs =>cs.take sz :: rowsOf sz n (cs.drop sz)

inductive Back where
 | at (r off:Nat) (el:El) (n:Nat) (whole:Bool) (k:Nat)
 | drop

structure Args where
 s:St
 xs:List S
 backs:List Back

def holesOf:List C→List C
 | [] =>[]
 | _ :: r =>.hole :: holesOf r

def Mode.isIo:Mode→Bool
 | .io =>true
 | .mv =>false
 | .shr =>false

def ptrN (E:Env) (i:TI):Option Nat :=match i.k with
 | .prim =>some i.size
 | .strct _ =>some i.size
 | .slc _ =>some i.size
 | .mp _ _ =>some i.size
 | .ptr e =>bnd (E.T e) fun j =>some j.size

def argOf (E:Env) (ty:TypeId) (m:Mode) (s:St):S→Option (St × S × List Back)
 | .fz .. =>none
 | .val _ a cs =>some (s,.val 0 a cs,if m.isIo then [.drop] else [])
 | .rp cs =>tst m.isIo none (some (s,.rp cs,[]))
 | .ptr q g off el =>bnd (E.T ty) fun i =>bnd (ptrN E i) fun n =>bnd ((look s.sl q).rootP g el) fun cs =>
   bnd (getP cs off el n) fun xs =>bnd (setP cs off el (holesOf xs)) fun cs' =>
    some (upd q cs' s,.box 0 0 xs,[.at q off el n true s.cnt])
 | .lnk q h off n a el win =>match m with
  | .shr =>some (s,.lnk q h off n a el win,[])
  | .mv =>bnd (take s (.lnk q h off n a el win)) fun z =>some (z.1,.val 0 z.2.1 z.2.2,[])
  | .io =>match win with
   | some _ =>none
   | none =>bnd (take s (.lnk q h off n a el none)) fun z =>some (z.1,.val 0 z.2.1 z.2.2,[.at q off el n false s.cnt])
 | .box .. =>none
 | .fn f caps =>tst m.isIo none (some (s,.fn f caps,[]))
 | .tup _ =>none
 | .dead =>none

def headM:List Mode→Mode
 | [] =>.shr
 | m :: _ =>m

def argsOf (E:Env):List Operand→List TypeId→List Mode→St→Option Args
 | [],[],_,s =>some ⟨s,[],[]⟩
 | x :: r,ty :: tys,ms,s =>bnd (rd E ty s x) fun v =>bnd (argOf E ty (headM ms) s v) fun q =>
   bnd (argsOf E r tys ms.tail q.1) fun A =>some ⟨A.s,q.2.1 :: A.xs,q.2.2 ++ A.backs⟩
 | [],_ :: _,_,_ =>none
 | _ :: _,[],_,_ =>none

def borrowAll (s:St):List S→Option (List S × List (Nat × Nat × El × Nat))
 | [] =>some ([],[])
 | x :: r =>bnd (borrowAll s r) fun q =>match x with
  | .lnk k h off n a el win =>bnd (cells s (.lnk k h off n a el win)) fun z =>tst (wholeRow z.2) (some (.val 0 z.1 (borRow z.2) :: q.1,(k,off,el,n) :: q.2)) none
  | .val g a cs =>some (.val g a cs :: q.1,q.2)
  | .box g h cs =>some (.box g h cs :: q.1,q.2)
  | .rp cs =>some (.rp cs :: q.1,q.2)
  | .fz .. =>none
  | .ptr .. =>none
  | .fn f caps =>some (.fn f caps :: q.1,q.2)
  | .tup _ =>none
  | .dead =>none

def C.giveBack (now d:C):C :=
 match now with
 | .hole =>d
 | .p v =>.p v
 | .sl f sz rows =>.sl f sz rows
 | .mp f it ka va nk rows =>.mp f it ka va nk rows
def giveBack:List C→List C→Option (List C)
 | [],[] =>some []
 | c :: r,d :: q =>bnd (giveBack r q) fun l =>some (C.giveBack c d :: l)
 | [],_ :: _ =>none
 | _ :: _,[] =>none

def C.idle:C→Bool
 | .p _ =>true
 | .sl f _ _ =>f.isShr
 | .hole =>true
 | .mp f _ _ _ _ _ =>f.isShr
def allIdle:List C→Bool
 | [] =>true
 | c :: r =>c.idle && allIdle r

def putBacks:List Back→List (List C)→St→Option St
 | [],[],s =>some s
 | [],_ :: _,_ =>none
 | _ :: _,[],_ =>none
 | .drop :: bs,_ :: os,s =>putBacks bs os s
 | .at r off el n w _ :: bs,o :: os,s =>bnd (look s.sl r).root fun cs =>bnd (getP cs off el n) fun now =>
   bnd (tst w (tst (decide (o.length = n)) (some o) none) (tst (allIdle now) (giveBack now o) none)) fun xs =>
    bnd (setP cs off el xs) fun cs' =>putBacks bs os (upd r cs' s)

def freezeAll:List (Nat × Nat × El × Nat)→St→Option St
 | [],s =>some s
 | (r,off,el,n) :: l,s =>bnd (look s.sl r).root fun cs =>bnd (getP cs off el n) fun xs =>
   tst (wholeRow xs) (bnd (setP cs off el (borRow xs)) fun cs' =>freezeAll l (upd r cs' s)) none

def mineVals:List (Bool × List C)→Bool
 | [] =>true
 | v :: r =>mineRow v.2 && mineVals r
def Res.mine (r:Res):Bool :=mineVals r.vals && mineRows r.outs

def freshB (s:St):List Back→Bool
 | [] =>true
 | .drop :: l =>freshB s l
 | .at r _ _ _ _ k :: l =>Nat.beq (look s.sl r).linkStamp k && freshB s l
def notIn (r:Nat):List Back→Bool
 | [] =>true
 | .drop :: l =>notIn r l
 | .at q _ _ _ _ _ :: l =>!(Nat.beq q r) && notIn r l
def distinctB:List Back→Bool
 | [] =>true
 | .drop :: l =>distinctB l
 | .at r _ _ _ _ _ :: l =>notIn r l && distinctB l
def noClash:List (Nat × Nat × El × Nat)→List Back→Bool
 | [],_ =>true
 | b :: r,l =>notIn b.1 l && noClash r l
def notInR (r:Nat):List (Nat × Nat × El × Nat)→Bool
 | [] =>true
 | b :: l =>!(Nat.beq b.1 r) && notInR r l
def distinctR:List (Nat × Nat × El × Nat)→Bool
 | [] =>true
 | b :: l =>notInR b.1 l && distinctR l

def S.ofTup (w:Bool × List C) (r:List (Bool × List C)):Bool × List C→S
 | (false,[]) =>.box 0 0 w.2
 | (false,c :: cs) =>.tup ((false,c :: cs) :: w :: r)
 | (true,cs) =>.tup ((true,cs) :: w :: r)
def S.ofVals:List (Bool × List C)→S
 | [] =>.dead
 | [v] =>.val 0 v.1 v.2
 | v :: w :: r =>S.ofTup w r v

def callOf (E:Env) (call:Sem1) (f:FuncId) (args:List Operand) (tys:List TypeId) (s:St):Option (St × S) :=
 bnd (argsOf E args tys (E.ann f).modes s) fun A =>tst (freshB A.s A.backs && distinctB A.backs)
  (bnd (borrowAll A.s A.xs) fun B =>tst (noClash B.2 A.backs) (bnd (call f B.1) fun res =>
   bnd (tst (B.2.isEmpty || res.mine) (some A.s) (tst (distinctR B.2) (freezeAll B.2 A.s) none)) fun s' =>
    bnd (putBacks A.backs res.outs s') fun s'' =>some (s'',S.ofVals res.vals)) none) none

def capV (s:St):S→Option (List C)
 | .fz .. =>none
 | .val .. =>none
 | .box .. =>none
 | .lnk .. =>none
 | .ptr r g off el =>match el with
  | none =>match look s.sl r with
   | .fz h cs =>tst (decide (h = g) && allFree cs) (dropL off cs) none
   | _ =>none
  | some _ =>none
 | .rp cs =>some cs
 | .fn .. =>none
 | .tup _ =>none
 | .dead =>none
def capsOf (E:Env) (s:St):List Operand→Option (List (List C))
 | [] =>some []
 | x :: r =>bnd (rd E 0 s x) fun v =>bnd (capV s v) fun z =>bnd (capsOf E s r) fun l =>some (z :: l)
def makeF (E:Env) (s:St) (f:FuncId):List Operand→List Operand→Option (St × S)
 | [],caps =>bnd (capsOf E s caps) fun l =>some (s,.fn f l)
 | _ :: _,_ =>none
def capsS:List (List C)→List S
 | [] =>[]
 | c :: r =>.rp c :: capsS r
def S.asFn:S→Option (FuncId × List (List C))
 | .fz .. =>none
 | .val .. =>none
 | .box .. =>none
 | .lnk .. =>none
 | .ptr .. =>none
 | .rp _ =>none
 | .fn f caps =>some (f,caps)
 | .tup _ =>none
 | .dead =>none
def cmpS (a b:ByteArray):Int :=if Op.bytesLess a.toList b.toList then -1 else if Op.bytesLess b.toList a.toList then 1 else 0
def ext2 (u v:S):Option S :=bnd u.prim fun a =>bnd v.prim fun b =>match a,b with
 | .string x,.string y =>some (.val 0 false [.p (.int .i64 (cmpS x y))])
 | _,_ =>none
def extS (E:Env) (s:St):List Operand→Option (St × S)
 | [x,y] =>bnd (rd E 0 s x) fun u =>bnd (rd E 0 s y) fun v =>bnd (ext2 u v) fun r =>some (s,r)
 | _ =>none
def memT (t:Tmp):List Tmp→Bool
 | [] =>false
 | u :: r =>if u = t then true else memT t r
def borT:List (Bool × List C)→List (Bool × List C)
 | [] =>[]
 | v :: r =>(v.1,borRow v.2) :: borT r
def frV:Bool→S→S
 | false,x =>x
 | true,x =>match x with
  | .val g a cs =>.val g a (borRow cs)
  | .tup vs =>.tup (borT vs)
  | .fz g cs =>.fz g cs
  | .box g h cs =>.box g h cs
  | .lnk r h off n a el win =>.lnk r h off n a el win
  | .ptr r g off el =>.ptr r g off el
  | .rp cs =>.rp cs
  | .fn f caps =>.fn f caps
  | .dead =>.dead
def callE (E:Env) (call:Sem1) (f:FuncId) (args:List Operand) (tys:List TypeId) (s:St):Bool→Option (St × S)
 | true =>extS E s args
 | false =>bnd (callOf E call f args tys s) fun q =>some (q.1,frV (memT f E.fc) q.2)

def callClo (E:Env) (call:Sem1) (f:FuncId) (caps:List (List C)) (args:List Operand) (tys:List TypeId) (s:St):Option (St × S) :=
 bnd (argsOf E args tys (E.ann f).modes s) fun A =>tst (freshB A.s A.backs && distinctB A.backs)
  (bnd (borrowAll A.s A.xs) fun B =>tst (noClash B.2 A.backs && decide ((E.ann f).modes.length≤args.length)) (bnd (call f (B.1 ++ capsS caps)) fun res =>
   bnd (tst (B.2.isEmpty || res.mine) (some A.s) (tst (distinctR B.2) (freezeAll B.2 A.s) none)) fun s' =>
    bnd (putBacks A.backs res.outs s') fun s'' =>some (s'',S.ofVals res.vals)) none) none

def lenOf:C→Option Nat
 | .p (.string b) =>some b.size
 | .p _ =>none
 | .sl _ _ rows =>some rows.length
 | .hole =>none
 | .mp .. =>none

def allPrim:List C→Option (List Value)
 | [] =>some []
 | c :: r =>bnd (asP c) fun v =>bnd (allPrim r) fun l =>some (v :: l)

def eqVals:List Value→List Value→Option Bool
 | [],[] =>some true
 | a :: x,b :: y =>bnd (bin .eql a b) fun v =>bnd (asBool v) fun t =>bnd (eqVals x y) fun u =>some (t && u)
 | [],_ :: _ =>none
 | _ :: _,[] =>none

def allFreeRows:List (List C)→Bool
 | [] =>true
 | r :: rs =>allFree r && allFreeRows rs

def byteOf:Value→Option UInt8
 | .int .u8 n =>some (UInt8.ofNat n.toNat)
 | _ =>none
def bytesOf:List Value→Option (List UInt8)
 | [] =>some []
 | v :: r =>bnd (byteOf v) fun b =>bnd (bytesOf r) fun l =>some (b :: l)

def ofBool (b:Bool):S :=.val 0 false [.p (.bool b)]
def ofVal (v:Value):S :=.val 0 false [.p v]

def boolT:Option TI→Bool
 | some ⟨_,_,_,[.p (.bool _)]⟩ =>true
 | _ =>false
def strT:TI→Bool
 | ⟨_,_,_,[.p (.string _)]⟩ =>true
 | _ =>false
def intT:TI→Option IntKind
 | ⟨_,_,_,[.p (.int k _)]⟩ =>some k
 | _ =>none
def okB (E:Env) (t:TypeId):Value→Bool
 | .bool _ =>boolT (E.T t)
 | .int _ _ =>true
 | .string _ =>true
 | _ =>false

def eqB (t:Bool):Bool→Bool
 | true =>t
 | false =>!t
def shapeOk:List C→List Value→Bool
 | [],[] =>true
 | .p (.int k _) :: z,.int k' _ :: r =>decide (k = k') && shapeOk z r
 | .p (.string _) :: z,.string _ :: r =>shapeOk z r
 | .p (.bool _) :: z,.bool _ :: r =>shapeOk z r
 | _,_ =>false
def binS (E:Env) (t:TypeId) (op:BinOp):S→S→Option S
 | .val _ false cs,.val _ false ds =>bnd (oneC cs) fun c =>bnd (asP c) fun a =>bnd (oneC ds) fun d =>bnd (asP d) fun b =>bnd (bin op a b) fun v =>tst (okB E t a) (some (ofVal v)) none
 | .val _ true cs,.val _ true ds =>tst (E.eqT t) (bnd (E.T t) fun i =>bnd (allPrim cs) fun a =>bnd (allPrim ds) fun b =>tst (shapeOk i.zero a) (bnd (eqVals a b) fun u =>match op with
   | .eql =>some (ofBool u)
   | .neq =>some (ofBool !u)
   | _ =>none) none) none
 | _,_ =>none

def loadS (s:St) (i:TI):S→Option S
 | .fz .. =>none
 | .rp cs =>bnd (takeL i.size cs) fun xs =>some (.val 0 i.k.agg xs)
 | .ptr r g off el =>bnd ((look s.sl r).rootR g el) fun cs =>bnd (getP cs off el i.size) fun xs =>
   tst (allFree xs) (some (.val 0 i.k.agg xs)) (some (.lnk r (look s.sl r).linkStamp off i.size i.k.agg el none))
 | .val .. =>none
 | .box .. =>none
 | .lnk .. =>none
 | .fn .. =>none
 | .tup _ =>none
 | .dead =>none

def storeS (s:St) (i:TI) (v:S):S→Option (St × S)
 | .fz .. =>none
 | .ptr r g off el =>bnd ((look s.sl r).rootP g el) fun _ =>bnd (takeG s v) fun q =>bnd ((look q.1.sl r).rootP g el) fun cs =>
   bnd (getP cs off el i.size) fun old =>tst (decide (q.2.2.length = i.size)) (tst (allLoose old)
    (bnd (setP cs off el q.2.2) fun cs' =>some (upd r cs' q.1,.dead)) none) none
 | .rp _ =>none
 | .val .. =>none
 | .box .. =>none
 | .lnk .. =>none
 | .fn .. =>none
 | .tup _ =>none
 | .dead =>none

def fieldS (s:St) (d:Nat):S→Option S
 | .fz .. =>none
 | .ptr r g off el =>bnd ((look s.sl r).rootR g el) fun _ =>match el with
  | none =>some (.ptr r g (off + d) none)
  | some (i,o) =>some (.ptr r g off (some (i,o + d)))
 | .rp cs =>bnd (dropL d cs) fun l =>some (.rp l)
 | .val .. =>none
 | .box .. =>none
 | .lnk .. =>none
 | .fn .. =>none
 | .tup _ =>none
 | .dead =>none

def winLo:El→Nat
 | none =>0
 | some (lo,_) =>lo

def indexS (s:St) (i sz:Nat):S→Option S
 | .fz .. =>none
 | .val _ a cs =>bnd (one1 a cs) fun c =>bnd (asSl c) fun q =>tst q.1.isShr (bnd q.2.2[i]? fun row =>tst (decide (q.2.1 = sz)) (some (.rp row)) none) none
 | .lnk r h off n a el win =>match el with
  | some _ =>none
  | none =>bnd (cells s (.lnk r h off n a none win)) fun z =>bnd (one1 z.1 z.2) fun c =>bnd (asSl c) fun q =>
    tst q.1.isShr none (tst (decide (i < q.2.2.length)) (tst (decide (q.2.1 = sz)) (some (.ptr r h off (some (i + winLo win,0)))) none) none)
 | .rp _ =>none
 | .ptr .. =>none
 | .box .. =>none
 | .fn .. =>none
 | .tup _ =>none
 | .dead =>none

def asStr:Value→Option ByteArray
 | .string b =>some b
 | _ =>none

def boundOf (E:Env) (s:St) (d:Nat):Option Operand→Option Nat
 | none =>some d
 | some y =>bnd (rd E 0 s y) fun v =>bnd v.prim asIdx

def winOk (win:El) (l n:Nat):Bool :=
 match win with
 | none =>true
 | some _ =>decide (l < n)

def sliceS (E:Env) (s:St) (str:Bool) (sz:Nat) (lo hi:Option Operand):S→Option S
 | .fz .. =>none
 | .val _ a cs =>bnd (one1 a cs) fun c =>bnd (lenOf c) fun n =>bnd (boundOf E s 0 lo) fun l =>bnd (boundOf E s n hi) fun h =>
   tst (decide (l≤h)) (tst (decide (h≤n)) (match c with
    | .p (.string b) =>tst str (some (ofVal (.string (b.extract l h)))) none
    | .p _ =>none
    | .sl f sz' rows =>tst str none (tst f.isShr (tst (decide (sz' = sz)) (some (.val 0 false [.sl .shr sz' ((rows.drop l).take (h - l))])) none) none)
    | .hole =>none
    | .mp .. =>none) none) none
 | .lnk r g off n a el win =>bnd (cells s (.lnk r g off n a el win)) fun z =>bnd (one1 z.1 z.2) fun c =>bnd (asSl c) fun q =>
   bnd (boundOf E s 0 lo) fun l =>bnd (boundOf E s q.2.2.length hi) fun h =>tst (decide (l≤h)) (tst (decide (h≤q.2.2.length))
    (tst (decide (q.2.1 = sz)) (tst str none (tst (winOk win l q.2.2.length) (some (.lnk r g off n a el (some (winLo win + l,h - l)))) none)) none) none) none
 | .rp _ =>none
 | .ptr .. =>none
 | .box .. =>none
 | .fn .. =>none
 | .tup _ =>none
 | .dead =>none

def extractS (t:Tmp) (i:Nat):St→S→Option (St × S)
 | ⟨c,l⟩,.tup vs =>bnd (atL vs i) fun v =>tst (allFree v.2) (some (⟨c,l⟩,.val 0 v.1 v.2))
   (some (⟨c + 1,(t,.tup (setL vs i (v.1,leftRow v.2))) :: l⟩,.val 0 v.1 v.2))
 | _,_ =>none

def bytesRows:List UInt8→List (List C)
 | [] =>[]
 | x :: r =>[.p (.int .u8 x.toNat)] :: bytesRows r

def convC (i j:TI) (ie je:Option TI):C→Option S
 | .p (.int _ n) =>bnd (intT i) fun _ =>bnd (intT j) fun k =>some (ofVal (.int k (k.wrap n)))
 | .p (.string b) =>tst (strT i) (bnd je fun e =>bnd (intT e) fun k =>tst (decide (k = .u8)) (some (.val 0 false [.sl .own 1 (bytesRows b.data.toList)])) none) none
 | .p _ =>none
 | .sl _ sz rows =>bnd (allPrim rows.flatten) fun vs =>bnd ie fun e =>bnd (intT e) fun k =>tst (decide (k = .u8)) (tst (strT j) (tst (decide (sz = 1)) (bnd (bytesOf vs) fun bs =>some (ofVal (.string ⟨bs.toArray⟩))) none) none) none
 | .hole =>none
 | .mp .. =>none

def convS (s:St) (i j:TI) (ie je:Option TI) (v:S):Option S :=
 bnd (cells s v) fun z =>bnd (one1 z.1 z.2) fun c =>convC i j ie je c

def appendS (s:St) (sz:Nat) (vx vy:S):Option (St × S) :=
 bnd (cells s vy) fun z =>bnd (one1 z.1 z.2) fun cy =>bnd (asSl cy) fun y =>
  bnd (take s vx) fun q =>bnd (one1 q.2.1 q.2.2) fun cx =>bnd (asSl cx) fun x =>
   tst x.1.isOwn (tst (decide (x.2.1 = sz)) (tst (decide (y.2.1 = sz)) (tst (decide (x.2.2.length + y.2.2.length < LIM))
    (tst (allFreeRows y.2.2) (some (q.1,.val 0 false [.sl .own sz (x.2.2 ++ y.2.2)]))
     (bnd (take q.1 vy) fun w =>bnd (one1 w.2.1 w.2.2) fun cw =>bnd (asSl cw) fun y' =>
      tst (decide (y'.2.1 = sz)) (tst (decide (y'.2.2.length = y.2.2.length)) (some (w.1,.val 0 false [.sl .own sz (x.2.2 ++ y'.2.2)])) none) none)) none) none) none) none

def S.asWin:S→Option (Tmp × Nat × Nat × Nat × Nat)
 | .lnk r h off n a none (some w) =>tst (decide (n = 1) && !a) (some (r,h,off,w.1,w.2)) none
 | .lnk _ _ _ _ _ none none =>none
 | .lnk _ _ _ _ _ (some _) _ =>none
 | .fz .. =>none
 | .val .. =>none
 | .box .. =>none
 | .ptr .. =>none
 | .rp _ =>none
 | .fn .. =>none
 | .tup _ =>none
 | .dead =>none
def appendJ (s:St) (sz:Nat) (vx vy:S):Option (St × S) :=
 bnd vx.asWin fun p =>bnd vy.asWin fun q =>tst (decide (p.1 = q.1) && (decide (p.2.1 = q.2.1) && (decide (p.2.2.1 = q.2.2.1) && decide (p.2.2.2.1 = 0))))
  (bnd (take s (.lnk p.1 p.2.1 p.2.2.1 1 false none none)) fun t =>bnd (one1 t.2.1 t.2.2) fun c =>bnd (asSl c) fun x =>
   tst (x.1.isOwn && (decide (x.2.1 = sz) && (decide (p.2.2.2.2≤q.2.2.2.1) && (decide (q.2.2.2.1 + q.2.2.2.2≤x.2.2.length) && decide (x.2.2.length < LIM)))))
    (some (t.1,.val 0 false [.sl .own sz (x.2.2.take p.2.2.2.2 ++ (x.2.2.drop q.2.2.2.1).take q.2.2.2.2)])) none) none
def pcs:Option (Tmp × Nat × Nat × Nat × Nat)→Option (Tmp × Nat × Nat × Nat × Nat)→Bool
 | some p,some q =>decide (p.1 = q.1) && (decide (p.2.1 = q.2.1) && decide (p.2.2.1 = q.2.2.1))
 | some _,none =>false
 | none,_ =>false
def appendA (s:St) (sz:Nat) (vx vy:S):Option (St × S) :=tst (pcs vx.asWin vy.asWin) (appendJ s sz vx vy) (appendS s sz vx vy)

structure MpV where
 f:Fl
 kd:Nat
 ka:Bool
 va:Bool
 nk:Nat
 rows:List (List C)
def asMp:C→Option MpV
 | .p _ =>none
 | .sl .. =>none
 | .hole =>none
 | .mp f kd ka va nk rows =>some ⟨f,kd,ka,va,nk,rows⟩
def keyT (E:Env) (t:TypeId) (i:TI):Bool :=if i.k.agg then E.eqT t else (intT i).isSome || strT i || boolT (some i)
def keyS (E:Env) (t:TypeId) (i:TI):S→Option (List Value)
 | .fz .. =>none
 | .val _ a cs =>tst (keyT E t i && eqB a i.k.agg && decide (cs.length = i.size)) (bnd (allPrim cs) fun vs =>tst (shapeOk i.zero vs) (some vs) none) none
 | .box .. =>none
 | .lnk .. =>none
 | .ptr .. =>none
 | .rp _ =>none
 | .fn .. =>none
 | .tup _ =>none
 | .dead =>none
def bump:Option (Nat × List C)→Option (Nat × List C)
 | none =>none
 | some (i,r) =>some (i + 1,r)
def findR (ks:List Value) (nk:Nat):List (List C)→Option (Option (Nat × List C))
 | [] =>some none
 | row :: r =>bnd (allPrim (row.take nk)) fun vs =>bnd (eqVals ks vs) fun t =>tst t (some (some (0,row))) (bnd (findR ks nk r) fun q =>some (bump q))
def primC:List Value→List C
 | [] =>[]
 | v :: r =>.p v :: primC r
def putR (ks:List Value) (vs:List C) (rows:List (List C)):Option (Nat × List C)→List (List C)
 | none =>rows ++ [primC ks ++ vs]
 | some (i,_) =>rows.set i (primC ks ++ vs)
def mapS (s:St) (v:S):Option MpV :=bnd (cells s v) fun z =>bnd (one1 z.1 z.2) asMp
def lookRes (m:MpV) (ie:TI) (ok:Bool):Option (Nat × List C)→S
 | some (_,row) =>match ok with
  | true =>.tup [(m.va,row.drop m.nk),(false,[.p (.bool true)])]
  | false =>.val 0 m.va (row.drop m.nk)
 | none =>match ok with
  | true =>.tup [(ie.k.agg,borRow ie.zero),(false,[.p (.bool false)])]
  | false =>.val 0 ie.k.agg (borRow ie.zero)
def fits (m:MpV) (ik ie:TI):Bool :=decide (m.kd = 0) && eqB m.ka ik.k.agg && eqB m.va ie.k.agg && decide (m.nk = ik.size)
def lookupS (E:Env) (s:St) (i:TI) (ok:Bool) (v y:S):Option (St × S) :=
 bnd i.k.kv fun q =>bnd (E.T q.1) fun ik =>bnd (E.T q.2) fun ie =>bnd (mapS s v) fun m =>bnd (keyS E q.1 ik y) fun ks =>
  tst (fits m ik ie) (bnd (findR ks m.nk m.rows) fun r =>some (s,lookRes m ie ok r)) none
def ownMap (s:St):S→Option (Tmp × MpV)
 | .fz .. =>none
 | .val .. =>none
 | .box .. =>none
 | .lnk r h off n a el win =>bnd (mapS s (.lnk r h off n a el win)) fun m =>match el,win with
  | none,none =>tst (m.f.isOwn && decide (off = 0)) (bnd ((look s.sl r).rootL h) fun cs =>bnd (oneC cs) fun _ =>some (r,m)) none
  | _,_ =>none
 | .ptr .. =>none
 | .rp _ =>none
 | .fn .. =>none
 | .tup _ =>none
 | .dead =>none
def MpV.with (m:MpV) (rows:List (List C)):List C :=[.mp m.f m.kd m.ka m.va m.nk rows]
def updateS (E:Env) (s:St) (i:TI) (v y x:S):Option (St × S) :=
 bnd i.k.kv fun q =>bnd (E.T q.1) fun ik =>bnd (E.T q.2) fun ie =>bnd (ownMap s v) fun m =>bnd (keyS E q.1 ik y) fun ks =>bnd (cells s x) fun z =>
  tst (fits m.2 ik ie && eqB z.1 ie.k.agg && allFree z.2) (tst (decide (z.2.length = ie.size)) (bnd (findR ks m.2.nk m.2.rows) fun r =>some (upd m.1 (m.2.with (putR ks z.2 m.2.rows r)) s,.dead)) none) none
def entryRes (m:MpV) (ie:TI):Option (Nat × List C)→S
 | some (i,row) =>.tup [(m.va,row.drop m.nk),(false,[.p (.int .i64 i)])]
 | none =>.tup [(ie.k.agg,borRow ie.zero),(false,[.p (.int .i64 m.rows.length)])]
def entryRows (ks:List Value) (m:MpV) (ie:TI):Option (Nat × List C)→List (List C)
 | some (i,row) =>m.rows.set i (primC ks ++ row.drop m.nk)
 | none =>m.rows ++ [primC ks ++ borRow ie.zero]
def mapEntryS (E:Env) (s:St) (i:TI) (v y:S):Option (St × S) :=
 bnd i.k.kv fun q =>bnd (E.T q.1) fun ik =>bnd (E.T q.2) fun ie =>bnd (ownMap s v) fun m =>bnd (keyS E q.1 ik y) fun ks =>
  tst (fits m.2 ik ie) (bnd (findR ks m.2.nk m.2.rows) fun r =>some (upd m.1 (m.2.with (entryRows ks m.2 ie r)) s,entryRes m.2 ie r)) none
def entryStoreS (E:Env) (s:St) (i:TI) (v y x:S):Option (St × S) :=
 bnd i.k.kv fun q =>bnd (E.T q.1) fun ik =>bnd (E.T q.2) fun ie =>bnd (ownMap s v) fun m =>bnd y.prim fun u =>bnd (asIdx u) fun n =>bnd (cells s x) fun z =>
  tst (fits m.2 ik ie && eqB z.1 ie.k.agg && allFree z.2) (tst (decide (z.2.length = ie.size)) (bnd m.2.rows[n]? fun row =>
   some (upd m.1 (m.2.with (m.2.rows.set n (row.take m.2.nk ++ z.2))) s,.dead)) none) none
def rangeS (s:St):S→Option (St × S)
 | .fz .. =>none
 | .val g a cs =>bnd (mapS s (.val g a cs)) fun m =>tst (decide (m.kd = 0)) (some (s,.val 0 false [.mp .own 1 m.ka m.va m.nk m.rows])) none
 | .box .. =>none
 | .lnk r h off n a el win =>bnd (ownMap s (.lnk r h off n a el win)) fun m =>tst (decide (m.2.kd = 0))
   (some (upd m.1 [.mp .shr 0 m.2.ka m.2.va m.2.nk m.2.rows] s,.val 0 false [.mp .own 1 m.2.ka m.2.va m.2.nk m.2.rows])) none
 | .ptr .. =>none
 | .rp _ =>none
 | .fn .. =>none
 | .tup _ =>none
 | .dead =>none
def headR (s:St) (m:MpV):List (List C)→Option (St × S)
 | [] =>none
 | row :: _ =>some (s,.tup [(m.ka,row.take m.nk),(m.va,row.drop m.nk)])
def entryS (s:St) (v:S):Option (St × S) :=bnd (mapS s v) fun m =>tst (decide (m.kd = 2)) (headR s m m.rows) none
def restOf (m:MpV):List (List C) :=if m.kd = 2 then m.rows.tail else m.rows
def nextR (m:Tmp × MpV) (i:Nat) (s:St):List (List C)→Option (St × S)
 | [] =>some (upd m.1 [.mp .own 1 m.2.ka m.2.va m.2.nk []] s,.tup [(false,[.p (.bool false)])])
 | x :: r =>bnd (x :: r)[i]? fun row =>some (upd m.1 [.mp .own 2 m.2.ka m.2.va m.2.nk (row :: (x :: r).eraseIdx i)] s,
    .tup [(false,[.p (.bool true)]),(m.2.ka,row.take m.2.nk),(m.2.va,row.drop m.2.nk)])
def walkV:S→Option MpV
 | .fz .. =>none
 | .val _ a cs =>bnd (one1 a cs) asMp
 | .box .. =>none
 | .lnk .. =>none
 | .ptr .. =>none
 | .rp _ =>none
 | .fn .. =>none
 | .tup _ =>none
 | .dead =>none
def walks (m:MpV):Bool :=m.f.isOwn && (decide (m.kd = 1) || decide (m.kd = 2))
def nextS (t:Tmp) (i:Nat) (s:St):Option (St × S) :=
 bnd (walkV (look s.sl t)) fun m =>tst (walks m) (nextR (t,m) i s (restOf m)) none
def leftV:Option MpV→Nat
 | some m =>(restOf m).length
 | none =>0
def leftN (z:Tmp × Tmp) (s:St):Nat :=leftV (walkV (look s.sl z.1))

def minmax (f:Int→Int→Int) (a b:Value):Option Value :=
 match a,b with
 | .int .i64 m,.int .i64 n =>some (.int .i64 (f m n))
 | _,_ =>none

def lenT (i:TI):C→Bool
 | .p _ =>strT i
 | .sl .. =>i.k.elem.isSome
 | .hole =>false
 | .mp .. =>false

def S.rootV (h:Nat):S→Option (List C)
 | .fz .. =>none
 | .val g a cs =>match a with
  | false =>if g = h then some cs else none
  | true =>none
 | .box .. =>none
 | .lnk .. =>none
 | .ptr .. =>none
 | .rp _ =>none
 | .fn .. =>none
 | .tup _ =>none
 | .dead =>none
def winK (win:El) (n:Nat):Nat :=match win with
 | none =>n
 | some (_,k) =>k
def clearR (z:List C) (win:El) (rows:List (List C)):Option (List (List C)) :=match win with
 | none =>some (List.replicate rows.length z)
 | some (lo,k) =>tst (decide (lo + k≤rows.length)) (some (rows.take lo ++ (List.replicate k z ++ rows.drop (lo + k)))) none
def clearS (s:St) (sz:Nat) (z:List C):S→Option (St × S)
 | .fz .. =>none
 | .val .. =>none
 | .box .. =>none
 | .lnk r h off n a el win =>match el with
  | none =>tst (decide (off = 0) && decide (n = 1) && !a) (bnd ((look s.sl r).rootV h) fun cs =>bnd (oneC cs) fun c =>bnd (asSl c) fun q =>
    tst (q.1.isOwn && decide (q.2.1 = sz)) (bnd (clearR z win q.2.2) fun rows =>some (upd r [.sl q.1 q.2.1 rows] s,.dead)) none) none
  | some _ =>none
 | .ptr .. =>none
 | .rp _ =>none
 | .fn .. =>none
 | .tup _ =>none
 | .dead =>none

def builtinS (E:Env) (s:St) (b:Builtin):List Operand→List TypeId→Option (St × S)
 | [x],[t] =>match b with
  | .len =>bnd (E.T t) fun i =>bnd (rd E 0 s x) fun v =>bnd (cells s v) fun z =>bnd (one1 z.1 z.2) fun c =>bnd (lenOf c) fun n =>tst (lenT i c) (some (s,ofVal (.int .i64 n))) none
  | .clear =>bnd (E.T t) fun i =>bnd i.k.elem fun e =>bnd (E.T e) fun j =>bnd (rd E 0 s x) fun v =>clearS s j.size j.zero v
  | _ =>none
 | [x,y],[t,u] =>match b with
  | .append =>tst (decide (t = u)) (bnd (E.T t) fun i =>bnd i.k.elem fun e =>bnd (E.T e) fun j =>bnd (rd E t s x) fun vx =>bnd (rd E t s y) fun vy =>appendA s j.size vx vy) none
  | .max =>bnd (rd E 0 s x) fun vx =>bnd vx.prim fun a =>bnd (rd E 0 s y) fun vy =>bnd vy.prim fun c =>bnd (minmax max a c) fun v =>some (s,ofVal v)
  | .min =>bnd (rd E 0 s x) fun vx =>bnd vx.prim fun a =>bnd (rd E 0 s y) fun vy =>bnd vy.prim fun c =>bnd (minmax min a c) fun v =>some (s,ofVal v)
  | _ =>none
 | _,_ =>none

def elemSz (E:Env) (i:TI):Option Nat :=tst (strT i) (some 0) (bnd i.k.elem fun e =>bnd (E.T e) fun j =>some j.size)

def assignS (s:St):S→Option (St × S)
 | .fz .. =>none
 | .lnk r h off n a el win =>bnd (take s (.lnk r h off n a el win)) fun q =>some (q.1,.val 0 q.2.1 q.2.2)
 | .val g a cs =>some (s,.val g a cs)
 | .ptr r g off el =>some (s,.ptr r g off el)
 | .rp cs =>some (s,.rp cs)
 | .tup _ =>none
 | .box .. =>none
 | .fn f caps =>some (s,.fn f caps)
 | .dead =>none
def nilS (s:St):S→Option (St × S)
 | .fz .. =>none
 | .ptr r g off el =>bnd ((look s.sl r).rootR g el) fun _ =>some (s,.ptr r g off el)
 | .rp cs =>some (s,.rp cs)
 | .lnk .. =>none
 | .val .. =>none
 | .tup _ =>none
 | .box .. =>none
 | .fn .. =>none
 | .dead =>none

def Env.fzn (E:Env):Operand→Bool
 | .tmp t =>memT t E.fz
 | .const _ =>false
 | .func _ =>false
 | .global _ =>false

def ev1 (E:Env) (call:Sem1) (ty:TypeId) (s:St):Op→Option (St × S)
 | .move x =>bnd (rd E ty s x) fun v =>some (s,v)
 | .assign x =>bnd (rd E ty s x) fun v =>assignS s v
 | .pick c a b =>bnd (rd E 0 s c) fun v =>bnd v.prim fun u =>bnd (asBool u) fun t =>tst t (bnd (rd E ty s a) fun v =>some (s,v)) (bnd (rd E ty s b) fun v =>some (s,v))
 | .alloc t =>bnd (E.T t) fun i =>some (s,.box 0 0 i.zero)
 | .box _ x =>bnd (rd E 0 s x) fun v =>bnd (take s v) fun q =>some (q.1,if E.fzn x then .fz 0 q.2.2 else .box 0 0 q.2.2)
 | .load t x =>bnd (E.T t) fun i =>bnd (rd E 0 s x) fun v =>bnd (loadS s i v) fun u =>some (s,u)
 | .store t x y =>bnd (E.T t) fun i =>bnd (rd E 0 s x) fun a =>bnd (rd E t s y) fun v =>storeS s i v a
 | .nilCheck x =>bnd (rd E 0 s x) fun v =>nilS s v
 | .binOp op t x y _ =>bnd (rd E 0 s x) fun a =>bnd (rd E 0 s y) fun b =>bnd (binS E t op a b) fun v =>some (s,v)
 | .unOp op _ x =>bnd (rd E 0 s x) fun a =>bnd a.prim fun u =>bnd (un op u) fun v =>some (s,ofVal v)
 | .fieldAddr t x f =>bnd (E.T t) fun i =>bnd i.k.offs fun l =>bnd (atL l f) fun d =>bnd (rd E 0 s x) fun a =>bnd (fieldS s d.1 a) fun v =>some (s,v)
 | .indexAddr t x ix =>bnd (E.T t) fun ti =>bnd ti.k.elem fun e =>bnd (E.T e) fun tj =>bnd (rd E 0 s ix) fun n =>bnd n.prim fun u =>bnd (asIdx u) fun i =>bnd (rd E 0 s x) fun v =>bnd (indexS s i tj.size v) fun w =>some (s,w)
 | .index t x ix =>bnd (E.T t) fun ti =>tst (strT ti) (bnd (rd E 0 s ix) fun n =>bnd n.prim fun u =>bnd (asIdx u) fun i =>bnd (rd E 0 s x) fun v =>bnd v.prim fun b =>bnd (asStr b) fun z =>
   bnd z.data.toList[i]? fun c =>some (s,ofVal (.int .u8 c.toNat))) none
 | .extract (.tmp t) i =>extractS t i s (look s.sl t)
 | .build t parts =>bnd (E.T t) fun i =>bnd i.k.offs fun l =>bnd (takeAll E parts.toList s) fun q =>
   bnd (lay (fun f =>bnd (atL l f) fun d =>some (d.1,d.2.1)) i.zero q.2) fun cs =>some (q.1,.val 0 true cs)
 | .buildSlice t n parts =>bnd (E.T t) fun i =>bnd i.k.elem fun e =>bnd (E.T e) fun j =>bnd (takeAll E parts.toList s) fun q =>
   bnd (lay (fun f =>some (f * j.size,j.size)) (List.replicate n j.zero).flatten q.2) fun cs =>
    tst (decide (n < 1000)) (some (q.1,.val 0 false [.sl .own j.size (rowsOf j.size n cs)])) none
 | .makeSlice t x y =>bnd (E.T t) fun i =>bnd i.k.elem fun e =>bnd (E.T e) fun j =>bnd (rd E 0 s x) fun v =>bnd v.prim fun u =>bnd (asIdx u) fun n =>
   bnd (rd E 0 s y) fun v' =>bnd v'.prim fun u' =>bnd (asIdx u') fun m =>tst (decide (n = m)) (tst (decide (n < LIM))
    (some (s,.val 0 false [.sl .own j.size (List.replicate n j.zero)])) none) none
 | .slice t x lo hi none =>bnd (E.T t) fun i =>bnd (elemSz E i) fun sz =>bnd (rd E 0 s x) fun v =>bnd (sliceS E s (strT i) sz lo hi v) fun w =>some (s,w)
 | .convert t b x =>bnd (E.T t) fun i =>bnd (E.T b) fun j =>bnd (rd E 0 s x) fun v =>bnd (convS s i j (bnd i.k.elem E.T) (bnd j.k.elem E.T) v) fun w =>some (s,w)
 | .call { callee :=.builtin b,args :=args,argTypes :=tys } =>builtinS E s b args.toList tys.toList
 | .call { callee :=.value (.func f),args :=args,argTypes :=tys } =>callE E call f args.toList tys.toList s (E.ann f).ext
 | .call { callee :=.value (.tmp t),args :=args,argTypes :=tys } =>bnd (look s.sl t).asFn fun q =>callClo E call q.1 q.2 args.toList tys.toList s
 | .makeMap t none =>bnd (E.T t) fun i =>bnd i.k.kv fun q =>bnd (E.T q.1) fun ik =>bnd (E.T q.2) fun ie =>some (s,.val 0 false [.mp .own 0 ik.k.agg ie.k.agg ik.size []])
 | .lookup t x y ok =>bnd (E.T t) fun i =>bnd (rd E 0 s x) fun v =>bnd (rd E 0 s y) fun u =>lookupS E s i ok v u
 | .mapUpdate t x y z =>bnd (E.T t) fun i =>bnd (rd E 0 s x) fun v =>bnd (rd E 0 s y) fun u =>bnd (rd E 0 s z) fun q =>updateS E s i v u q
 | .mapEntry t x y =>bnd (E.T t) fun i =>bnd (rd E 0 s x) fun v =>bnd (rd E 0 s y) fun u =>mapEntryS E s i v u
 | .entryStore t x y z =>bnd (E.T t) fun i =>bnd (rd E 0 s x) fun v =>bnd (rd E 0 s y) fun u =>bnd (rd E 0 s z) fun q =>entryStoreS E s i v u q
 | .range t x =>bnd (E.T t) fun i =>bnd i.k.kv fun _ =>bnd (rd E 0 s x) fun v =>rangeS s v
 | .entry x =>bnd (rd E 0 s x) fun v =>entryS s v
 | .makeFunc (.func f) first caps =>makeF E s f first.toList caps.toList
 | _ =>none

structure Q where
 dst:Option Tmp
 op:Op
 type:TypeId
 guard:Option (Option Tmp × Bool)

def qOf (all:List Oper) (o:Oper):Q :=⟨o.dst,o.op,o.type,match o.guard with | none =>none | some (j,b) =>some (bnd (atL all j) (·.dst),b)⟩
def qsOf (all:List Oper):List Oper→List Q
 | [] =>[]
 | o :: r =>qOf all o :: qsOf all r

def S.wants (b:Bool):S→Option Bool
 | .fz .. =>none
 | .val _ a cs =>bnd (one1 a cs) fun c =>bnd (asP c) fun v =>bnd (asBool v) fun t =>some (eqB t b)
 | .tup [] =>some false
 | .tup (_ :: _) =>none
 | .dead =>none
 | .box .. =>none
 | .lnk .. =>none
 | .ptr .. =>none
 | .rp _ =>none
 | .fn .. =>none

def wanted (s:St):Option (Option Tmp × Bool)→Option Bool
 | none =>some true
 | some (some t,b) =>(look s.sl t).wants b
 | some (none,_) =>none

def stepQ (E:Env) (call:Sem1) (s:St) (dst:Option Tmp) (op:Op) (ty:TypeId):Option Bool→Option St
 | none =>none
 | some true =>bnd (ev1 E call ty s op) fun q =>some (put dst q.2 q.1)
 | some false =>some (put dst (.tup []) s)

def frzS (s:St) (t:Tmp):S→St
 | .box _ _ cs =>if allFree cs then put (some t) (.fz 0 cs) s else s
 | _ =>s
def frzAll:St→List Operand→St
 | s,[] =>s
 | s,.tmp t :: r =>frzAll (frzS s t (look s.sl t)) r
 | s,.const _ :: r =>frzAll s r
 | s,.global _ :: r =>frzAll s r
 | s,.func _ :: r =>frzAll s r
def preN (s:St) (caps:List Operand):List Tmp→St
 | [] =>frzAll s caps
 | _ :: _ =>s
def leftT:List (Bool × List C)→List (Bool × List C)
 | [] =>[]
 | v :: r =>(v.1,leftRow v.2) :: leftT r
def mvT (s:St) (t:Tmp):S→St × Option S
 | .tup [] =>(s,none)
 | .tup (v :: vs) =>(put (some t) (.tup (leftT (v :: vs))) s,some (.tup (v :: vs)))
 | .fz .. =>(s,none)
 | .val .. =>(s,none)
 | .box .. =>(s,none)
 | .lnk .. =>(s,none)
 | .ptr .. =>(s,none)
 | .rp _ =>(s,none)
 | .fn .. =>(s,none)
 | .dead =>(s,none)
def mvX (s:St):Operand→St × Option S
 | .tmp t =>mvT s t (look s.sl t)
 | .const _ =>(s,none)
 | .global _ =>(s,none)
 | .func _ =>(s,none)
def deepC:C→C
 | .sl f sz rows =>.sl f sz (borRows rows)
 | .p v =>.p v
 | .hole =>.hole
 | .mp f it ka va nk rows =>.mp f it ka va nk rows
def deepRow:List C→List C
 | [] =>[]
 | c :: r =>deepC c :: deepRow r
def frzR (s:St) (r:Tmp) (deep:Bool):Option (List C)→St
 | some cs =>upd r (if deep then deepRow cs else borRow cs) s
 | none =>s
def frzL:List (Tmp × Bool)→St→St
 | [],s =>s
 | z :: l,s =>frzL l (frzR s z.1 z.2 (look s.sl z.1).root)

def S.refr (r h h':Nat):S→S
 | .lnk q k off n a el win =>match el,win with
  | none,none =>if q = r then (if k = h then .lnk q h' off n a none none else .lnk q k off n a none none) else .lnk q k off n a none none
  | none,some w =>.lnk q k off n a none (some w)
  | some e,win =>.lnk q k off n a (some e) win
 | .val g a cs =>.val g a cs
 | .fz g cs =>.fz g cs
 | .box g h cs =>.box g h cs
 | .ptr r g off el =>.ptr r g off el
 | .rp cs =>.rp cs
 | .fn f caps =>.fn f caps
 | .tup vs =>.tup vs
 | .dead =>.dead
def refL (r h h':Nat):List (Tmp × S)→List (Tmp × S)
 | [] =>[]
 | p :: l =>(p.1,p.2.refr r h h') :: refL r h h' l
def refS (r h:Nat) (s:St):St :=⟨s.cnt,refL r h (look s.sl r).linkStamp s.sl⟩
def liftG (r h:Nat) (t:Tmp) (s:St):Option (St × Bool × List C)→St
 | some q =>refS r h (put (some t) (.val 0 q.2.1 q.2.2) q.1)
 | none =>s
def liftS (s:St) (t:Tmp):S→St
 | .lnk r h off n a el win =>match el,win with
  | some e,none =>liftG r h t s (take s (.lnk r h off n a (some e) none))
  | none,_ =>s
  | some _,some _ =>s
 | .val .. =>s
 | .fz .. =>s
 | .box .. =>s
 | .ptr .. =>s
 | .rp _ =>s
 | .fn .. =>s
 | .tup _ =>s
 | .dead =>s
def liftO (s:St) (l:List Tmp):List Operand→St
 | .tmp t :: _ =>if memT t l then liftS s t (look s.sl t) else s
 | .const _ :: _ =>s
 | .global _ :: _ =>s
 | .func _ :: _ =>s
 | [] =>s
def liftC (s:St) (c:Call):List Tmp→St
 | [] =>s
 | t :: l =>match c.callee with
  | .builtin .append =>liftO s (t :: l) c.args.toList
  | _ =>s
def deepP (s:St):S→St
 | .ptr r _ _ _ =>frzR s r true (look s.sl r).root
 | .val .. =>s
 | .fz .. =>s
 | .box .. =>s
 | .lnk .. =>s
 | .rp _ =>s
 | .fn .. =>s
 | .tup _ =>s
 | .dead =>s
def deepO (s:St) (l:List Tmp):Operand→St
 | .tmp t =>if memT t l then deepP s (look s.sl t) else s
 | .const _ =>s
 | .global _ =>s
 | .func _ =>s
def deepN (s:St) (x:Operand) (l:List Tmp):List Tmp→St
 | [] =>deepO s l x
 | _ :: _ =>s
def preX (E:Env) (s:St):Op→St × Option S
 | .makeFunc _ _ caps =>(preN s caps.toList E.fz,none)
 | .move x =>mvX s x
 | .call c =>(liftC s c E.lf,none)
 | .load _ x =>(deepN s x E.lf E.fz,none)
 | _ =>(s,none)
def stepB (s:St) (dst:Option Tmp) (x:S) (s':St):Option Bool→Option St
 | some true =>some (put dst x s')
 | some false =>some (put dst (.tup []) s)
 | none =>none
def stepR (E:Env) (call:Sem1) (s:St) (dst:Option Tmp) (op:Op) (ty:TypeId) (w:Option Bool) (s':St):Option S→Option St
 | none =>stepQ E call s' dst op ty w
 | some x =>stepB s dst x s' w
def stepP (E:Env) (call:Sem1) (s:St) (dst:Option Tmp) (op:Op) (ty:TypeId) (w:Option Bool) (p:St × Option S):Option St :=stepR E call s dst op ty w p.1 p.2

def preV (r h:Nat):S→Option (Nat × Nat × Nat)
 | .val g _ cs =>if g = h then some (r,h,cs.length) else none
 | .fz .. =>none
 | .box .. =>none
 | .lnk .. =>none
 | .ptr .. =>none
 | .rp _ =>none
 | .fn .. =>none
 | .tup _ =>none
 | .dead =>none
def preS (s:St):S→Option (Nat × Nat × Nat)
 | .lnk r h _ _ _ el _ =>match el with
  | some _ =>preV r h (look s.sl r)
  | none =>none
 | .val .. =>none
 | .fz .. =>none
 | .box .. =>none
 | .ptr .. =>none
 | .rp _ =>none
 | .fn .. =>none
 | .tup _ =>none
 | .dead =>none
def preM (s:St):S→Option (Nat × Nat × Nat)
 | .lnk r h _ _ _ el win =>match el,win with
  | none,none =>preV r h (look s.sl r)
  | none,some _ =>none
  | some _,_ =>none
 | .val .. =>none
 | .fz .. =>none
 | .box .. =>none
 | .ptr .. =>none
 | .rp _ =>none
 | .fn .. =>none
 | .tup _ =>none
 | .dead =>none
def preP:Option Tmp→Op→St→Option (Nat × Nat × Nat)
 | none,.store _ _ (.tmp y),s =>preS s (look s.sl y)
 | some _,.mapEntry _ (.tmp x) _,s =>preM s (look s.sl x)
 | _,_,_ =>none
def postV (z:Nat × Nat × Nat) (s:St):S→St
 | .val g _ cs =>if cs.length = z.2.2 then ⟨s.cnt,refL z.1 z.2.1 g s.sl⟩ else s
 | .fz .. =>s
 | .box .. =>s
 | .lnk .. =>s
 | .ptr .. =>s
 | .rp _ =>s
 | .fn .. =>s
 | .tup _ =>s
 | .dead =>s
def postX:Option (Nat × Nat × Nat)→St→St
 | none,s =>s
 | some z,s =>postV z s (look s.sl z.1)

def evOps (E:Env) (call:Sem1):List Q→St→Option St
 | [],s =>some s
 | ⟨dst,op,ty,g⟩ :: r,s =>match stepP E call s dst op ty (wanted s g) (preX E s op) with
  | some s' =>evOps E call r (postX (preP dst op s) s')
  | none =>none

def S.rootIn (T:List Tmp):S→Bool
 | .fz .. =>true
 | .lnk r _ _ _ _ _ _ =>memT r T
 | .ptr r _ _ _ =>memT r T
 | .val .. =>true
 | .box .. =>true
 | .rp _ =>true
 | .fn .. =>true
 | .tup _ =>true
 | .dead =>true
def closedIn (l:List (Tmp × S)) (T:List Tmp):List Tmp→Bool
 | [] =>true
 | t :: r =>and ((look l t).rootIn T) (closedIn l T r)

def S.freeT:S→Bool
 | .tup vs =>allFreeT vs
 | .fz .. =>false
 | .val .. =>false
 | .box .. =>false
 | .lnk .. =>false
 | .ptr .. =>false
 | .rp _ =>false
 | .fn .. =>false
 | .dead =>false
def S.still (c:Nat) (y:S):S→Bool
 | .fz g cs =>and (decide (g < c)) (decide (y.linkStamp = g))
 | .tup [] =>true
 | .tup (_ :: _) =>y.freeT
 | .val g a cs =>and (decide (g < c)) (decide (y.linkStamp = g))
 | .box g h cs =>and (decide (h < c)) (decide (y.linkStamp = h))
 | .lnk .. =>true
 | .ptr .. =>true
 | .rp _ =>true
 | .fn .. =>true
 | .dead =>true
def sameB (s s':St) (W:List Tmp):List Tmp→Bool
 | [] =>true
 | t :: r =>and (or (memT t W) ((look s.sl t).still s.cnt (look s'.sl t))) (sameB s s' W r)

def S.isBox:S→Bool
 | .fz .. =>false
 | .box .. =>true
 | .val .. =>false
 | .lnk .. =>false
 | .ptr .. =>false
 | .rp _ =>false
 | .fn .. =>false
 | .tup _ =>false
 | .dead =>false

def S.isMv:S→Bool
 | .fz .. =>false
 | .box .. =>true
 | .val .. =>false
 | .lnk .. =>false
 | .ptr .. =>true
 | .rp _ =>false
 | .fn .. =>false
 | .tup _ =>false
 | .dead =>false

def mvBox (l:List (Tmp × S)):Op→Bool
 | .move (.tmp t) =>(look l t).isMv
 | _ =>true
def closedX (l:List (Tmp × S)) (op:Op):List Tmp→Bool
 | [] =>mvBox l op
 | t :: r =>closedIn l (t :: r) (t :: r)

def evDraw (E:Env) (call:Sem1):List (List Tmp × List Tmp)→List Q→St→Option St
 | _,[],s =>some s
 | [],_ :: _,_ =>none
 | T :: Ts,⟨dst,op,ty,g⟩ :: r,s =>tst (closedX s.sl op T.1) (match stepQ E call s dst op ty (wanted s g) with
  | some s' =>tst (sameB s s' T.2 T.1) (evDraw E call Ts r s') none
  | none =>none) none

inductive O where
 | norm (s:St)
 | exit (id:Nat) (s:St)
 | ret (r:Res)

def posOf:List Tmp→Nat→Tmp→Option Nat
 | [],_,_ =>none
 | u :: r,i,t =>if u = t then some i else posOf r (i + 1) t

def S.anew (l:List (Tmp × S)) (live:List Tmp) (i:Nat):S→S
 | .fz _ cs =>.fz i cs
 | .val _ a cs =>.val i a cs
 | .box _ _ cs =>.box i i cs
 | .lnk r h off n a el win =>match (look l r).rootL h,posOf live 0 r with
  | some _,some j =>.lnk r j off n a el win
  | _,_ =>.dead
 | .ptr r g off el =>match (look l r).rootR g el,posOf live 0 r with
  | some _,some j =>.ptr r j off el
  | _,_ =>.dead
 | .rp cs =>.rp cs
 | .tup vs =>.tup vs
 | .fn f caps =>.fn f caps
 | .dead =>.dead

def maskGo (l:List (Tmp × S)) (live:List Tmp):Nat→List Tmp→List (Tmp × S)
 | _,[] =>[]
 | i,t :: r =>(t,(look l t).anew l live i) :: maskGo l live (i + 1) r

def mask (live:List Tmp) (s:St):St :=⟨live.length,maskGo s.sl live 0 live⟩

def findF (k:Nat):List (Nat × St)→Option St
 | [] =>none
 | f :: r =>if f.1 = k then some f.2 else findF k r
open Classical in
noncomputable def addF (t:Nat) (x:St) (F:List (Nat × St)):Option St→Option (List (Nat × St))
 | none =>some ((t,x) :: F)
 | some y =>if x = y then some F else none
noncomputable def dagE (E:Env) (call:Sem1) (qs:List Q) (s:St):List (Nat × Nat × List Tmp)→List (Nat × St)→Option (List (Nat × St))
 | [],F =>some F
 | e :: r,F =>bnd (atL qs e.1) fun q =>bnd (evOps E call [q] s) fun x =>bnd (addF e.2.1 (mask e.2.2 x) F (findF e.2.1 F)) fun F' =>dagE E call qs s r F'
noncomputable def dagN (E:Env) (call:Sem1) (qs:List Q):Nat→List DNode→List (Nat × St)→Option (List (Nat × St))
 | _,[],F =>some F
 | k,n :: r,F =>bnd (findF k F) fun s =>bnd (dagE E call qs s n.es F) fun F' =>dagN E call qs (k + 1) r F'
noncomputable def evFree (E:Env) (call:Sem1) (qs:List Q) (s:St) (N:List DNode):Option St :=bnd (dagN E call qs 0 N [(0,s)]) fun F =>findF (N.length - 1) F
noncomputable def drawX (E:Env) (call:Sem1) (Ts:List (List Tmp × List Tmp)) (qs:List Q) (s:St):Option (List DNode)→Option St
 | none =>evDraw E call Ts qs s
 | some N =>evFree E call qs s N

def S.giveV:S→Option (Bool × List C)
 | .fz .. =>none
 | .val _ a cs =>tst (wholeRow cs) (some (a,cs)) none
 | .box .. =>none
 | .lnk .. =>none
 | .ptr .. =>none
 | .rp _ =>none
 | .fn .. =>none
 | .tup _ =>none
 | .dead =>none
def S.giveB (i:TI):S→Option (Bool × List C)
 | .fz .. =>none
 | .box _ _ cs =>tst (wholeRow cs) (tst (decide (cs.length = i.size)) (some (i.k.agg,cs)) none) none
 | .val .. =>none
 | .lnk .. =>none
 | .ptr .. =>none
 | .rp _ =>none
 | .fn .. =>none
 | .tup _ =>none
 | .dead =>none

def rslot:ResultVar→Tmp
 | .tmp t =>t
 | .cell t _ =>t

def giveR (E:Env) (l:List (Tmp × S)):ResultVar→Option (Bool × List C)
 | .tmp t =>(look l t).giveV
 | .cell t ty =>bnd (E.T ty) fun i =>(look l t).giveB i
def resultOf (E:Env):List ResultVar→List (Tmp × S)→Option (List (Tmp × S) × List (Bool × List C))
 | [],l =>some (l,[])
 | v :: r,l =>bnd (giveR E l v) fun z =>bnd (resultOf E r ((rslot v,.dead) :: l)) fun q =>some (q.1,z :: q.2)

def S.outOf (x:S):S→Option (List C)
 | .fz .. =>none
 | .box _ _ cs =>match x with
  | .box _ _ cs0 =>tst (decide (cs.length = cs0.length)) (some cs) none
  | _ =>none
 | .val _ a cs =>match x with
  | .val _ a0 _ =>tst (eqB a a0) (some cs) none
  | _ =>none
 | .lnk .. =>none
 | .ptr .. =>none
 | .rp _ =>none
 | .fn .. =>none
 | .tup _ =>none
 | .dead =>none

def mirOf:List (Tmp × Tmp)→Tmp→Option Tmp
 | [],_ =>none
 | p :: r,i =>if p.1 = i then some p.2 else mirOf r i
def S.fzOut (x:S):S→Option (List C)
 | .fz _ cs =>match x with
  | .val _ _ cs0 =>tst (decide (cs.length = cs0.length)) (some cs) none
  | _ =>none
 | _ =>none
def mirOut (x:S) (l:List (Tmp × S)) (i:Tmp):Option Tmp→Option (List C)
 | some b =>S.fzOut x (look l b)
 | none =>S.outOf x (look l i)

def outsOf (l:List (Tmp × S)) (keep:List Tmp) (mir:List (Tmp × Tmp)):Nat→List S→List Mode→Option (List (List C))
 | _,[],_ =>some []
 | i,x :: r,ms =>bnd (outsOf l keep mir (i + 1) r ms.tail) fun os =>
   tst (x.isBox || (headM ms).isIo) (tst (keep.contains i) (bnd (mirOut x l i (mirOf mir i)) fun cs =>some (cs :: os)) none) (some os)

structure Fr where
 res:List ResultVar
 ann:Ann
 args:List S

def ptrB (l:List (Tmp × S)) (t:Tmp):S→Option Tmp
 | .fz .. =>none
 | .box .. =>some t
 | .val .. =>none
 | .lnk .. =>none
 | .ptr r g off none =>tst (decide (off = 0) && (look l r).isBox) (bnd ((look l r).rootR g none) fun _ =>some r) none
 | .ptr _ _ _ (some _) =>none
 | .rp _ =>none
 | .fn .. =>none
 | .tup _ =>none
 | .dead =>none
def ptrR (l:List (Tmp × S)):List ResultVar→Option (List (Tmp × S) × List (Bool × List C))
 | [.tmp t] =>bnd (ptrB l t (look l t)) fun r =>bnd (look l r).root fun cs =>tst (wholeRow cs) (some ((r,.dead) :: l,[(false,[]),(true,cs)])) none
 | _ =>none
def orS {α:Type}:Option α→Option α→Option α
 | some x,_ =>some x
 | none,y =>y
def retOf (E:Env) (F:Fr) (s:St):Option Res :=
 bnd (orS (ptrR s.sl F.res) (resultOf E F.res s.sl)) fun q =>bnd (outsOf q.1 F.ann.keep F.ann.mir 0 F.args F.ann.modes) fun outs =>some ⟨q.2,outs⟩

def endOf (F:Fr) (id:Nat):O→Option O
 | .norm s =>some (.norm s)
 | .exit k s =>if k = id then (match F.ann.ends id with
   | some l =>some (.norm (mask l s))
   | none =>some (.norm s)) else some (.exit k s)
 | .ret r =>some (.ret r)

def normO:Option St→Option O
 | some s =>some (.norm s)
 | none =>none
def retO:Option Res→Option O
 | some r =>some (.ret r)
 | none =>none
def blockO (F:Fr) (id:Nat):Option O→Option O
 | some o =>endOf F id o
 | none =>none

def condOf (E:Env) (s:St) (c:Operand):Option Bool :=bnd (rd E 0 s c) fun v =>bnd v.prim fun u =>asBool u

def endX (F:Fr) (id k:Nat) (s:St):St :=if k = id then (match F.ann.ends id with
  | some l =>mask l s
  | none =>s) else s
def out1 (F:Fr) (id:Nat):O→O
 | .norm s =>.norm s
 | .exit k s =>.exit k (endX F id k s)
 | .ret r =>.ret r
def outE (F:Fr) (id:Nat):Option O→Option O
 | some o =>some (out1 F id o)
 | none =>none

structure Iter where
 lp:List Tmp→(St→Option O)→St→Option O
 rg:List Tmp→(St→Nat)→(Nat→St→Option O)→St→Option O

def stepN (E:Env) (call:Sem1) (z:Tmp × Tmp) (i:Nat) (s:St):List Q→Option St
 | [] =>none
 | ⟨_,_,_,_⟩ :: r =>bnd (nextS z.1 i s) fun q =>evOps E call r (put (some z.2) q.2 q.1)
def isStep (z:Tmp × Tmp):List Q→Bool
 | [] =>false
 | ⟨some d,.next (.tmp t) false,_,none⟩ :: _ =>decide (t = z.1) && decide (d = z.2)
 | _ :: _ =>false

noncomputable def evc (E:Env) (call:Sem1) (iter:Iter) (F:Fr):Code→St→Option O
 | .skip,s =>some (.norm s)
 | .region _ ops false,s =>normO (evOps E call (qsOf ops.toList ops.toList) s)
 | .region id ops true,s =>normO (drawX E call (F.ann.draws id) (qsOf ops.toList ops.toList) (frzL (F.ann.frz id) s) (F.ann.free id))
 | .seq a b,s =>match evc E call iter F a s with
  | some (.norm s') =>evc E call iter F b s'
  | some (.exit id s') =>some (.exit id s')
  | some (.ret r) =>some (.ret r)
  | none =>none
 | .cond c x y,s =>match condOf E s c with
  | some true =>evc E call iter F x s
  | some false =>evc E call iter F y s
  | none =>none
 | .block id (.loop (.seq (.region k ops false) rest)),s =>match F.ann.rng id with
  | none =>blockO F id (iter.lp (F.ann.heads id) (fun s =>evc E call iter F (.seq (.region k ops false) rest) s) s)
  | some z =>tst (isStep z (qsOf ops.toList ops.toList)) (blockO F id (iter.rg (F.ann.heads id) (leftN z) (fun i s =>outE F id (match stepN E call z i s (qsOf ops.toList ops.toList) with
    | some s' =>evc E call iter F rest s'
    | none =>none)) s)) none
 | .block id (.loop body),s =>match F.ann.rng id with
  | none =>blockO F id (iter.lp (F.ann.heads id) (fun s =>evc E call iter F body s) s)
  | some _ =>none
 | .block id body,s =>blockO F id (evc E call iter F body s)
 | .exit id,s =>some (.exit id s)
 | .ret,s =>retO (retOf E F s)
 | _,_ =>none

end Go.Sx

/- The evaluator's rules,one for each form,as equations for rewriting. -/
namespace Go.Sx

def seqOps (E:Env) (call:Sem1) (r:List Q) (p:Option (Nat × Nat × Nat)):Option St→Option St
 | some s =>evOps E call r (postX p s)
 | none =>none
def drawOps (E:Env) (call:Sem1) (T:List Tmp × List Tmp) (Ts:List (List Tmp × List Tmp)) (r:List Q) (s0:St):Option St→Option St
 | some s =>tst (sameB s0 s T.2 T.1) (evDraw E call Ts r s) none
 | none =>none
noncomputable def seqC (E:Env) (call:Sem1) (iter:Iter) (F:Fr) (b:Code):Option O→Option O
 | some (.norm s) =>evc E call iter F b s
 | some (.exit id s) =>some (.exit id s)
 | some (.ret r) =>some (.ret r)
 | none =>none
noncomputable def condC (E:Env) (call:Sem1) (iter:Iter) (F:Fr) (x y:Code) (s:St):Option Bool→Option O
 | some true =>evc E call iter F x s
 | some false =>evc E call iter F y s
 | none =>none
noncomputable def seqS (E:Env) (call:Sem1) (iter:Iter) (F:Fr) (b:Code):Option St→Option O
 | some s =>evc E call iter F b s
 | none =>none
noncomputable def roundG (E:Env) (call:Sem1) (iter:Iter) (F:Fr) (id:Nat) (z:Tmp × Tmp) (qs:List Q) (rest:Code) (i:Nat) (s:St):Option O :=outE F id (seqS E call iter F rest (stepN E call z i s qs))
noncomputable def rangeB (E:Env) (call:Sem1) (iter:Iter) (F:Fr) (id:Nat) (z:Tmp × Tmp):Code→St→Option O
 | .seq (.region _ ops false) rest,s =>tst (isStep z (qsOf ops.toList ops.toList)) (blockO F id (iter.rg (F.ann.heads id) (leftN z) (roundG E call iter F id z (qsOf ops.toList ops.toList) rest) s)) none
 | _,_ =>none
noncomputable def loopC (E:Env) (call:Sem1) (iter:Iter) (F:Fr) (id:Nat) (body:Code) (s:St):Option (Tmp × Tmp)→Option O
 | none =>blockO F id (iter.lp (F.ann.heads id) (evc E call iter F body) s)
 | some z =>rangeB E call iter F id z body s
theorem evc_loop (E:Env) (call:Sem1) (iter:Iter) (F:Fr) (id:Nat) (body:Code) (s:St):evc E call iter F (.block id (.loop body)) s = loopC E call iter F id body s (F.ann.rng id) :=by
 have other:(∀ k ops rest,body ≠ .seq (.region k ops false) rest)→evc E call iter F (.block id (.loop body)) s = loopC E call iter F id body s (F.ann.rng id) :=by
  intro hne
  have hb:∀ z,rangeB E call iter F id z body s = none :=by
   intro z
   unfold rangeB
   split
   ·exact absurd rfl (hne _ _ _)
   ·rfl
  rw [evc]
  ·cases F.ann.rng id with
   | none =>rfl
   | some z =>exact (hb z).symm
  ·exact hne
 by_cases h:∃ k ops rest,body = .seq (.region k ops false) rest
 ·obtain ⟨k,ops,rest,rfl⟩ :=h
  rw [evc]
  cases F.ann.rng id with
  | none =>rfl
  | some z =>
   show _ = tst _ _ none
   simp only
   congr 3
 ·exact other (fun k ops rest e =>h ⟨k,ops,rest,e⟩)
def capF (x:S) (g off:Nat):Option (List C) :=match x with
 | .fz h cs =>tst (decide (h = g) && allFree cs) (dropL off cs) none
 | _ =>none
theorem addF_same (t:Nat) (x:St) (F:List (Nat × St)):addF t x F (some x) = some F :=by simp [addF]
theorem rv0 :
  (∀ F id o,blockO F id (some o) = endOf F id o) ∧
  (∀ F id s,endOf F id (.norm s) = some (.norm s)) ∧
  (∀ F id k s,endOf F id (.exit k s) = if k = id then (match F.ann.ends id with | some l =>some (.norm (mask l s)) | none =>some (.norm s)) else some (.exit k s)) ∧
  (∀ F id r,endOf F id (.ret r) = some (.ret r)) ∧
  (∀ s,normO (some s) = some (.norm s)) ∧
  (∀ r,retO (some r) = some (.ret r)) ∧
  (∀ all,qsOf all [] = []) ∧
  (∀ all dst op ty pos af r,qsOf all (⟨dst,op,ty,pos,af,none⟩ :: r) = ⟨dst,op,ty,none⟩ :: qsOf all r) ∧
  (∀ all dst op ty pos af j b r,qsOf all (⟨dst,op,ty,pos,af,some (j,b)⟩ :: r) = ⟨dst,op,ty,some (bnd (atL all j) (·.dst),b)⟩ :: qsOf all r) ∧
  (∀ s,wanted s none = some true) ∧
  (∀ s t b,wanted s (some (some t,b)) = (look s.sl t).wants b) ∧
  (∀ b g a cs,S.wants b (.val g a cs) = bnd (one1 a cs) fun c =>bnd (asP c) fun v =>bnd (asBool v) fun t =>some (eqB t b)) ∧
  (∀ t,eqB t true = t) ∧
  (∀ t,eqB t false = !t) ∧
  (∀ b,S.wants b (.tup []) = some false) ∧
  (∀ t,look [] t = .dead) ∧
  (∀ u x r t,look ((u,x) :: r) t = if u = t then x else look r t) ∧
  (∀ t x c l,put (some t) x ⟨c,l⟩ = ⟨c + 1,(t,x.stamp c) :: l⟩) ∧
  (∀ x c l,put none x ⟨c,l⟩ = ⟨c,l⟩) ∧
  (∀ c g a cs,S.stamp c (.val g a cs) = .val c a cs) ∧
  (∀ c g h cs,S.stamp c (.box g h cs) = .box c c cs) ∧
  (∀ c r h off n a el win,S.stamp c (.lnk r h off n a el win) = .lnk r h off n a el win) ∧
  (∀ c r g off el,S.stamp c (.ptr r g off el) = .ptr r g off el) ∧
  (∀ c cs,S.stamp c (.rp cs) = .rp cs) ∧
  (∀ c vs,S.stamp c (.tup vs) = .tup vs) ∧
  (∀ c,S.stamp c .dead = .dead) ∧
  (∀ E s c,condOf E s c = bnd (rd E 0 s c) fun v =>bnd v.prim fun u =>asBool u) ∧
  (∀ E call iter F s,evc E call iter F .skip s = some (.norm s)) ∧
  (∀ E call iter F id ops s,evc E call iter F (.region id ops false) s = normO (evOps E call (qsOf ops.toList ops.toList) s)) ∧
  (∀ E call iter F id ops s,evc E call iter F (.region id ops true) s = normO (drawX E call (F.ann.draws id) (qsOf ops.toList ops.toList) (frzL (F.ann.frz id) s) (F.ann.free id))) ∧
  (∀ E call iter F a b s,evc E call iter F (.seq a b) s = seqC E call iter F b (evc E call iter F a s)) ∧
  (∀ E call iter F c x y s,evc E call iter F (.cond c x y) s = condC E call iter F x y s (condOf E s c)) ∧
  (∀ E call iter F id body s,evc E call iter F (.block id (.loop body)) s = loopC E call iter F id body s (F.ann.rng id)) ∧
  (∀ E call iter F id r ops d s,evc E call iter F (.block id (.region r ops d)) s = blockO F id (evc E call iter F (.region r ops d) s)) ∧
  (∀ E call iter F id a b s,evc E call iter F (.block id (.seq a b)) s = blockO F id (evc E call iter F (.seq a b) s)) ∧
  (∀ E call iter F id a b s c,evc E call iter F (.block id (.cond c a b)) s = blockO F id (evc E call iter F (.cond c a b) s)) ∧
  (∀ E call iter F id j b s,evc E call iter F (.block id (.block j b)) s = blockO F id (evc E call iter F (.block j b) s)) ∧
  (∀ E call iter F id s,evc E call iter F (.exit id) s = some (.exit id s)) ∧
  (∀ E call iter F s,evc E call iter F .ret s = retO (retOf E F s)) ∧
  (∀ E call iter F b s,seqC E call iter F b (some (.norm s)) = evc E call iter F b s) ∧
  (∀ E call iter F b id s,seqC E call iter F b (some (.exit id s)) = some (.exit id s)) ∧
  (∀ E call iter F b r,seqC E call iter F b (some (.ret r)) = some (.ret r)) ∧
  (∀ E call iter F x y s,condC E call iter F x y s (some true) = evc E call iter F x s) ∧
  (∀ E call iter F x y s,condC E call iter F x y s (some false) = evc E call iter F y s) ∧
  (∀ E call s,evOps E call [] s = some s) ∧
  (∀ E call dst op ty g r s,evOps E call (⟨dst,op,ty,g⟩ :: r) s = seqOps E call r (preP dst op s) (stepP E call s dst op ty (wanted s g) (preX E s op))) ∧
  (∀ E call s dst op ty w s',stepP E call s dst op ty w (s',none) = stepQ E call s' dst op ty w) ∧
  (∀ E call s dst op ty s' x,stepP E call s dst op ty (some true) (s',some x) = some (put dst x s')) ∧
  (∀ E s x,preX E s (.move x) = mvX s x) ∧
  (∀ s t,mvX s (.tmp t) = mvT s t (look s.sl t)) ∧
  (∀ s v,mvX s (.const v) = (s,none)) ∧
  (∀ s t,mvT s t (.tup []) = (s,none)) ∧
  (∀ s t v vs,mvT s t (.tup (v :: vs)) = (put (some t) (.tup (leftT (v :: vs))) s,some (.tup (v :: vs)))) ∧
  (∀ s t g cs,mvT s t (.fz g cs) = (s,none)) ∧
  (∀ s t g a cs,mvT s t (.val g a cs) = (s,none)) ∧
  (∀ s t g h cs,mvT s t (.box g h cs) = (s,none)) ∧
  (∀ s t r h off n a el win,mvT s t (.lnk r h off n a el win) = (s,none)) ∧
  (∀ s t r g off el,mvT s t (.ptr r g off el) = (s,none)) ∧
  (∀ s t cs,mvT s t (.rp cs) = (s,none)) ∧
  (∀ s t f caps,mvT s t (.fn f caps) = (s,none)) ∧
  (leftT [] = []) ∧
  (∀ v r,leftT (v :: r) = (v.1,leftRow v.2) :: leftT r) ∧
  (∀ E call r p s,seqOps E call r p (some s) = evOps E call r (postX p s)) ∧
  (∀ E call Ts s,evDraw E call Ts [] s = some s) ∧
  (∀ E call T Ts dst op ty g r s,evDraw E call (T :: Ts) (⟨dst,op,ty,g⟩ :: r) s = tst (closedX s.sl op T.1) (drawOps E call T Ts r s (stepQ E call s dst op ty (wanted s g))) none) ∧
  (∀ E call T Ts r s0 s,drawOps E call T Ts r s0 (some s) = tst (sameB s0 s T.2 T.1) (evDraw E call Ts r s) none) ∧
  (∀ l op,closedX l op [] = mvBox l op) ∧
  (∀ l op t r,closedX l op (t :: r) = closedIn l (t :: r) (t :: r)) ∧
  (∀ l t,mvBox l (.move (.tmp t)) = (look l t).isMv) ∧
  (∀ l v,mvBox l (.move (.const v)) = true) ∧
  (∀ l v,mvBox l (.assign v) = true) ∧
  (∀ l t,mvBox l (.alloc t) = true) ∧
  (∀ l t p,mvBox l (.build t p) = true) ∧
  (∀ l t n p,mvBox l (.buildSlice t n p) = true) ∧
  (∀ l a b c,mvBox l (.makeSlice a b c) = true) ∧
  (∀ l a b,mvBox l (.makeMap a b) = true) ∧
  (∀ l a b c d e,mvBox l (.binOp a b c d e) = true) ∧
  (∀ l a b c,mvBox l (.unOp a b c) = true) ∧
  (∀ l a b c,mvBox l (.convert a b c) = true) ∧
  (∀ l c,mvBox l (.call c) = true) ∧
  (∀ s s' W,sameB s s' W [] = true) ∧
  (∀ s s' W t r,sameB s s' W (t :: r) = and (or (memT t W) ((look s.sl t).still s.cnt (look s'.sl t))) (sameB s s' W r)) ∧
  (∀ b,or true b = true) ∧
  (∀ b,or false b = b) ∧
  (∀ c y g a cs,S.still c y (.val g a cs) = and (decide (g < c)) (decide (y.linkStamp = g))) ∧
  (∀ c y g h cs,S.still c y (.box g h cs) = and (decide (h < c)) (decide (y.linkStamp = h))) ∧
  (∀ c y r h o n a el win,S.still c y (.lnk r h o n a el win) = true) ∧
  (∀ c y r g o el,S.still c y (.ptr r g o el) = true) ∧
  (∀ c y cs,S.still c y (.rp cs) = true) ∧
  (∀ c y f cs,S.still c y (.fn f cs) = true) ∧
  (∀ c y,S.still c y .dead = true) ∧
  (∀ c y,S.still c y (.tup []) = true) ∧
  (∀ l T,closedIn l T [] = true) ∧
  (∀ l T t r,closedIn l T (t :: r) = and ((look l t).rootIn T) (closedIn l T r)) ∧
  (∀ b,and true b = b) ∧
  (∀ t,memT t [] = false) ∧
  (∀ t u r,memT t (u :: r) = if u = t then true else memT t r) ∧
  (∀ T r h o n a el win,S.rootIn T (.lnk r h o n a el win) = memT r T) ∧
  (∀ T r g o el,S.rootIn T (.ptr r g o el) = memT r T) ∧
  (∀ T g a cs,S.rootIn T (.val g a cs) = true) ∧
  (∀ T g h cs,S.rootIn T (.box g h cs) = true) ∧
  (∀ T cs,S.rootIn T (.rp cs) = true) ∧
  (∀ T f cs,S.rootIn T (.fn f cs) = true) ∧
  (∀ T vs,S.rootIn T (.tup vs) = true) ∧
  (∀ T,S.rootIn T .dead = true) ∧
  (∀ E call s dst op ty,stepQ E call s dst op ty (some true) = bnd (ev1 E call ty s op) fun q =>some (put dst q.2 q.1)) ∧
  (∀ E call s dst op ty,stepQ E call s dst op ty (some false) = some (put dst (.tup []) s)) ∧
  (∀ {α β:Type} (a:α) (k:α→Option β),bnd (some a) k = k a) ∧
  (∀ {α β:Type} (k:α→Option β),bnd none k = none) ∧
  (∀ {β:Type} (x y:Option β),tst true x y = x) ∧
  (∀ {β:Type} (x y:Option β),tst false x y = y) ∧
  (∀ t g a cs,S.read t (.val g a cs) = if allFree cs then some (.val g a cs) else some (.lnk t g 0 cs.length a none none)) ∧
  (∀ t g h cs,S.read t (.box g h cs) = some (.ptr t g 0 none)) ∧
  (∀ t r h off n a el win,S.read t (.lnk r h off n a el win) = some (.lnk r h off n a el win)) ∧
  (∀ t r g off el,S.read t (.ptr r g off el) = some (.ptr r g off el)) ∧
  (∀ t cs,S.read t (.rp cs) = some (.rp cs)) ∧
  (∀ t f caps,S.read t (.fn f caps) = some (.fn f caps)) ∧
  (∀ E ty s t,rd E ty s (.tmp t) = (look s.sl t).read t) ∧
  (∀ E ty s k n,rd E ty s (.const (.int k n)) = some (.val 0 false [.p (.int k n)])) ∧
  (∀ E ty s b,rd E ty s (.const (.bool b)) = some (.val 0 false [.p (.bool b)])) ∧
  (∀ E ty s b,rd E ty s (.const (.string b)) = some (.val 0 false [.p (.string b)])) ∧
  (∀ E ty s,rd E ty s (.const (.slice none 0 0)) = bnd (E.T ty) fun i =>bnd i.k.elem fun _ =>some (.val 0 false i.zero)) ∧
  (∀ g a cs,S.root (.val g a cs) = some cs) ∧
  (∀ g h cs,S.root (.box g h cs) = some cs) ∧
  (∀ g h a cs,S.rootL h (.val g a cs) = if g = h then some cs else none) ∧
  (∀ k g h cs,S.rootL h (.box k g cs) = if g = h then some cs else none) ∧
  (∀ g h a cs q,S.rootP g (some q) (.val h a cs) = if h = g then some cs else none) ∧
  (∀ k g h cs q,S.rootP g (some q) (.box k h cs) = if h = g then some cs else none) ∧
  (∀ k g h cs,S.rootP g none (.box k h cs) = if k = g then some cs else none) ∧
  (∀ g h cs q,S.rootP g (some q) (.fz h cs) = if h = g then some cs else none) ∧
  (∀ g el h a cs,S.rootR g el (.val h a cs) = S.rootP g el (.val h a cs)) ∧
  (∀ g el k h cs,S.rootR g el (.box k h cs) = S.rootP g el (.box k h cs)) ∧
  (∀ g el h cs,S.rootR g el (.fz h cs) = if h = g then some cs else none) ∧
  (∀ g cs,S.root (.fz g cs) = some cs) ∧
  (∀ g h cs,S.rootL h (.fz g cs) = if g = h then some cs else none) ∧
  (∀ g cs,S.linkStamp (.fz g cs) = g) ∧
  (∀ c cs g ds,S.withCells c cs (.fz g ds) = .fz c cs) ∧
  (∀ t g cs,S.read t (.fz g cs) = some (.ptr t g 0 none)) ∧
  (∀ c g cs,S.stamp c (.fz g cs) = .fz c cs) ∧
  (∀ l live i g cs,S.anew l live i (.fz g cs) = .fz i cs) ∧
  (∀ c y g cs,S.still c y (.fz g cs) = and (decide (g < c)) (decide (y.linkStamp = g))) ∧
  (∀ g cs h a ds,S.fzOut (.val h a ds) (.fz g cs) = tst (decide (cs.length = ds.length)) (some cs) none) ∧
  (∀ T g cs,S.rootIn T (.fz g cs) = true) ∧
  (∀ E t,Env.fzn E (.tmp t) = memT t E.fz) ∧
  (∀ E v,Env.fzn E (.const v) = false) ∧
  (∀ g cs,S.isBox (.fz g cs) = false) ∧
  (∀ i,mirOf [] i = none) ∧
  (∀ p r i,mirOf (p :: r) i = if p.1 = i then some p.2 else mirOf r i) ∧
  (∀ x l i b,mirOut x l i (some b) = S.fzOut x (look l b)) ∧
  (∀ x l i,mirOut x l i none = S.outOf x (look l i)) ∧
  (∀ g a cs,S.linkStamp (.val g a cs) = g) ∧
  (∀ g h cs,S.linkStamp (.box g h cs) = h) ∧
  (∀ c ds g a cs,S.withCells c ds (.val g a cs) = .val c a ds) ∧
  (∀ c ds g h cs,S.withCells c ds (.box g h cs) = .box g c ds) ∧
  (∀ r cs c l,upd r cs ⟨c,l⟩ = ⟨c + 1,(r,(look l r).withCells c cs) :: l⟩) ∧
  (∀ cs,winC none cs = some cs) ∧
  (∀ lo k c,winC (some (lo,k)) [c] = bnd (asSl c) fun q =>tst (decide (lo + k≤q.2.2.length)) (some [.sl q.1 q.2.1 ((q.2.2.drop lo).take k)]) none) ∧
  (∀ s g a cs,cells s (.val g a cs) = some (a,cs)) ∧
  (∀ s r h off n a el win,cells s (.lnk r h off n a el win) = bnd ((look s.sl r).rootL h) fun cs =>bnd (getP cs off el n) fun xs =>bnd (winC win xs) fun ys =>some (a,ys)) ∧
  (∀ s g a cs,take s (.val g a cs) = some (s,a,cs)) ∧
  (∀ s g a cs,takeG s (.val g a cs) = some (s,a,cs)) ∧
  (∀ s r h off n a el win,takeG s (.lnk r h off n a el win) = bnd ((look s.sl r).rootL h) fun cs =>bnd (getP cs off el n) fun xs =>tst (wholeRow xs) (bnd (winC win xs) fun ys =>bnd (setP cs off el (leaveG el xs)) fun cs' =>some (upd r cs' s,a,ys)) none) ∧
  (∀ s r h off n a el win,take s (.lnk r h off n a el win) = bnd ((look s.sl r).rootL h) fun cs =>bnd (getP cs off el n) fun xs =>tst (wholeRow xs) (bnd (winC win xs) fun ys =>bnd (setP cs off el (leftRow xs)) fun cs' =>some (upd r cs' s,a,ys)) none) ∧
  (∀ c,oneC [c] = some c) ∧
  (∀ v,asP (.p v) = some v) ∧
  (∀ f sz rows,asSl (.sl f sz rows) = some (f,sz,rows)) ∧
  (∀ g a cs,S.prim (.val g a cs) = bnd (one1 a cs) asP) ∧
  (∀ cs,one1 false cs = oneC cs) ∧
  (∀ b,asBool (.bool b) = some b) ∧
  (∀ b,asStr (.string b) = some b) ∧
  (∀ k n,asIdx (.int k n) = tst (decide (0≤n)) (some n.toNat) none) ∧
  (∀ v,C.free (.p v) = true) ∧
  (∀ f sz rows,C.free (.sl f sz rows) = f.isShr) ∧
  (C.free .hole = false) ∧
  (∀ v,C.loose (.p v) = true) ∧
  (∀ sz rows,C.loose (.sl .shr sz rows) = true) ∧
  (∀ sz rows,C.loose (.sl .own sz rows) = true) ∧
  (∀ sz rows,C.loose (.sl .lent sz rows) = false) ∧
  (C.loose .hole = true) ∧
  (∀ v,C.whole (.p v) = true) ∧
  (∀ f sz rows,C.whole (.sl f sz rows) = (f.isShr || (f.isOwn && wholeRows rows))) ∧
  (C.whole .hole = false) ∧
  (∀ v,C.mine (.p v) = true) ∧
  (∀ f sz rows,C.mine (.sl f sz rows) = (f.isOwn && mineRows rows)) ∧
  (∀ v,C.bor (.p v) = .p v) ∧
  (∀ sz rows,C.bor (.sl .shr sz rows) = .sl .shr sz rows) ∧
  (∀ sz rows,C.bor (.sl .own sz rows) = .sl .shr sz (borRows rows)) ∧
  (∀ sz rows,C.bor (.sl .lent sz rows) = .sl .shr sz (borRows rows)) ∧
  (∀ v,C.left (.p v) = .p v) ∧
  (∀ sz rows,C.left (.sl .shr sz rows) = .sl .shr sz rows) ∧
  (∀ sz rows,C.left (.sl .own sz rows) = .hole) ∧
  (∀ sz rows,C.left (.sl .lent sz rows) = .hole) ∧
  (C.left .hole = .hole) ∧
  (Fl.isShr .shr = true) ∧
  (Fl.isShr .own = false) ∧
  (Fl.isShr .lent = false) ∧
  (Fl.isOwn .shr = false) ∧
  (Fl.isOwn .own = true) ∧
  (Fl.isOwn .lent = false) ∧
  (allFree [] = true) ∧
  (∀ c r,allFree (c :: r) = (c.free && allFree r)) ∧
  (allFreeRows [] = true) ∧
  (allLoose [] = true) ∧
  (∀ c r,allLoose (c :: r) = (c.loose && allLoose r)) ∧
  (wholeRow [] = true) ∧
  (∀ c r,wholeRow (c :: r) = (c.whole && wholeRow r)) ∧
  (wholeRows [] = true) ∧
  (mineRow [] = true) ∧
  (∀ c r,mineRow (c :: r) = (c.mine && mineRow r)) ∧
  (mineRows [] = true) ∧
  (∀ c r,mineRows (c :: r) = (mineRow c && mineRows r)) ∧
  (mineVals [] = true) ∧
  (∀ c r,mineVals (c :: r) = (mineRow c.2 && mineVals r)) ∧
  (∀ v o,Res.mine ⟨v,o⟩ = (mineVals v && mineRows o)) ∧
  (borRow [] = []) ∧
  (∀ c r,borRow (c :: r) = c.bor :: borRow r) ∧
  (borRows [] = []) ∧
  (leftRow [] = []) ∧
  (∀ c r,leftRow (c :: r) = c.left :: leftRow r) ∧
  (ghostRow [] = []) ∧
  (∀ xs,leaveG none xs = ghostRow xs) ∧
  (∀ e xs,leaveG (some e) xs = leftRow xs) ∧
  (∀ c r,ghostRow (c :: r) = c.ghost :: ghostRow r) ∧
  (∀ v,C.ghost (.p v) = .p v) ∧
  (∀ f sz rows,C.ghost (.sl f sz rows) = if f.isShr then .sl .shr sz rows else .sl .shr 0 (List.replicate rows.length [])) ∧
  (C.ghost .hole = .hole) ∧
  (∀ f it ka va nk rows,C.ghost (.mp f it ka va nk rows) = if f.isShr then .mp .shr it ka va nk rows else .hole) ∧
  (holesOf [] = []) ∧
  (∀ c r,holesOf (c :: r) = .hole :: holesOf r) ∧
  (∀ cs,takeL 0 cs = some []) ∧
  (∀ n c r,takeL (n + 1) (c :: r) = bnd (takeL n r) fun l =>some (c :: l)) ∧
  (∀ cs,dropL 0 cs = some cs) ∧
  (∀ n c r,dropL (n + 1) (c :: r) = dropL n r) ∧
  (∀ cs,over 0 cs [] = some cs) ∧
  (∀ c cs x xs,over 0 (c :: cs) (x :: xs) = bnd (over 0 cs xs) fun l =>some (x :: l)) ∧
  (∀ n c cs xs,over (n + 1) (c :: cs) xs = bnd (over n cs xs) fun l =>some (c :: l)) ∧
  (∀ {α:Type} (a:α) (r:List α),atL (a :: r) 0 = some a) ∧
  (∀ {α:Type} (a:α) (r:List α) (n:Nat),atL (a :: r) (n + 1) = atL r n) ∧
  (∀ {α:Type} (a b:α) (r:List α),setL (a :: r) 0 b = b :: r) ∧
  (∀ {α:Type} (a b:α) (r:List α) (n:Nat),setL (a :: r) (n + 1) b = a :: setL r n b) ∧
  (∀ cs off n,getP cs off none n = bnd (dropL off cs) fun l =>takeL n l) ∧
  (∀ cs off i o n,getP cs off (some (i,o)) n = bnd (atL cs off) fun c =>bnd (asSl c) fun q =>bnd q.2.2[i]? fun row =>bnd (dropL o row) fun l =>takeL n l) ∧
  (∀ cs off xs,setP cs off none xs = over off cs xs) ∧
  (∀ cs off i o xs,setP cs off (some (i,o)) xs = bnd (atL cs off) fun c =>bnd (asSl c) fun q =>bnd q.2.2[i]? fun row =>tst q.1.isShr none (bnd (over o row xs) fun row' =>some (setL cs off (.sl q.1 q.2.1 (q.2.2.set i row'))))) ∧
  (∀ op k a b,bin op (.int k a) (.int k b) = intBin op k a b) ∧
  (∀ op a b,bin op (.string a) (.string b) = strBin op a b) ∧
  (∀ op a b,bin op (.bool a) (.bool b) = boolBin op a b) ∧
  (∀ k a b,intBin .xor k a b = some (.int k (xorV k a b))) ∧
  (∀ k a b,intBin .and k a b = some (.int k (andV k a b))) ∧
  (∀ k a b,intBin .or k a b = some (.int k (orV k a b))) ∧
  (∀ k a b,intBin .shl k a b = shiftV .shl k a b) ∧
  (∀ k a b,intBin .shr k a b = shiftV .shr k a b) ∧
  (∀ k a b,shiftV .shl k a b = tst (decide (b < 0)) none (some (.int k (k.wrap (a * 2 ^ (min b.toNat k.bits)))))) ∧
  (∀ k a b,shiftV .shr k a b = tst (decide (b < 0)) none (some (.int k (a.fdiv (2 ^ (min b.toNat k.bits)))))) ∧
  (∀ k m a b,bin .shl (.int k a) (.int m b) = shiftV .shl k a b) ∧
  (∀ k m a b,bin .shr (.int k a) (.int m b) = shiftV .shr k a b) ∧
  (∀ k a b,intBin .add k a b = some (.int k (k.wrap (a + b)))) ∧
  (∀ k a b,intBin .sub k a b = some (.int k (k.wrap (a - b)))) ∧
  (∀ k a b,intBin .mul k a b = some (.int k (k.wrap (a * b)))) ∧
  (∀ k a b,intBin .quo k a b = tst (decide (b = 0)) none (some (.int k (k.wrap (a.tdiv b))))) ∧
  (∀ k a b,intBin .rem k a b = tst (decide (b = 0)) none (some (.int k (a.tmod b)))) ∧
  (∀ k a b,intBin .eql k a b = some (.bool (decide (a = b)))) ∧
  (∀ k a b,intBin .neq k a b = some (.bool (!decide (a = b)))) ∧
  (∀ k a b,intBin .lss k a b = some (.bool (decide (a < b)))) ∧
  (∀ k a b,intBin .leq k a b = some (.bool (decide (a≤b)))) ∧
  (∀ k a b,intBin .gtr k a b = some (.bool (decide (b < a)))) ∧
  (∀ k a b,intBin .geq k a b = some (.bool (decide (b≤a)))) ∧
  (∀ x y,strBin .add x y = tst (decide (x.size + y.size < 9223372036854775807)) (some (.string (x ++ y))) none) ∧
  (∀ x y,strBin .eql x y = some (.bool (decide (x = y)))) ∧
  (∀ x y,strBin .neq x y = some (.bool (!decide (x = y)))) ∧
  (∀ x y,strBin .lss x y = some (.bool (Op.bytesLess x.toList y.toList))) ∧
  (∀ x y,strBin .leq x y = some (.bool (!Op.bytesLess y.toList x.toList))) ∧
  (∀ x y,strBin .gtr x y = some (.bool (Op.bytesLess y.toList x.toList))) ∧
  (∀ x y,strBin .geq x y = some (.bool (!Op.bytesLess x.toList y.toList))) ∧
  (∀ x y,boolBin .eql x y = some (.bool (x == y))) ∧
  (∀ x y,boolBin .neq x y = some (.bool (!(x == y)))) ∧
  (∀ b,un .not (.bool b) = some (.bool !b)) ∧
  (∀ E t op g cs h ds,binS E t op (.val g false cs) (.val h false ds) = bnd (oneC cs) fun c =>bnd (asP c) fun a =>bnd (oneC ds) fun d =>bnd (asP d) fun b =>bnd (bin op a b) fun v =>tst (okB E t a) (some (ofVal v)) none) ∧
  (∀ E t k n,okB E t (.int k n) = true) ∧
  (∀ E t b,okB E t (.string b) = true) ∧
  (∀ E t b,okB E t (.bool b) = boolT (E.T t)) ∧
  (∀ k a b c,boolT (some ⟨k,a,b,[.p (.bool c)]⟩) = true) ∧
  (∀ k a b c,strT ⟨k,a,b,[.p (.string c)]⟩ = true) ∧
  (∀ k a b f sz rows,strT ⟨k,a,b,[.sl f sz rows]⟩ = false) ∧
  (∀ q a b k n,intT ⟨q,a,b,[.p (.int k n)]⟩ = some k) ∧
  (∀ E i,elemSz E i = tst (strT i) (some 0) (bnd i.k.elem fun e =>bnd (E.T e) fun j =>some j.size)) ∧
  (∀ i v,lenT i (.p v) = strT i) ∧
  (∀ i f sz rows,lenT i (.sl f sz rows) = i.k.elem.isSome) ∧
  (∀ E t g cs h ds,binS E t .eql (.val g true cs) (.val h true ds) = tst (E.eqT t) (bnd (E.T t) fun i =>bnd (allPrim cs) fun a =>bnd (allPrim ds) fun b =>tst (shapeOk i.zero a) (bnd (eqVals a b) fun t =>some (ofBool t)) none) none) ∧
  (∀ E t g cs h ds,binS E t .neq (.val g true cs) (.val h true ds) = tst (E.eqT t) (bnd (E.T t) fun i =>bnd (allPrim cs) fun a =>bnd (allPrim ds) fun b =>tst (shapeOk i.zero a) (bnd (eqVals a b) fun t =>some (ofBool !t)) none) none) ∧
  (allPrim [] = some []) ∧
  (∀ c r,allPrim (c :: r) = bnd (asP c) fun v =>bnd (allPrim r) fun l =>some (v :: l)) ∧
  (eqVals [] [] = some true) ∧
  (∀ a x b y,eqVals (a :: x) (b :: y) = bnd (bin .eql a b) fun v =>bnd (asBool v) fun t =>bnd (eqVals x y) fun u =>some (t && u)) ∧
  (∀ v,ofVal v = .val 0 false [.p v]) ∧
  (∀ b,ofBool b = .val 0 false [.p (.bool b)]) ∧
  (∀ l,TK.offs (.strct l) = some l) ∧
  (∀ e,TK.elem (.slc e) = some e) ∧
  (∀ e,TK.at (.ptr e) = some e) ∧
  (TK.agg .prim = false) ∧
  (∀ l,TK.agg (.strct l) = true) ∧
  (∀ e,TK.agg (.slc e) = false) ∧
  (∀ e,TK.agg (.ptr e) = false) ∧
  (∀ E s,takeAll E [] s = some (s,[])) ∧
  (∀ E i x r s,takeAll E ((i,x) :: r) s = bnd (rd E 0 s x) fun v =>bnd (take s v) fun q =>bnd (takeAll E r q.1) fun z =>some (z.1,(i,q.2.2) :: z.2)) ∧
  (∀ f z,lay f z [] = some z) ∧
  (∀ f z i cs r,lay f z ((i,cs) :: r) = bnd (f i) fun q =>tst (decide (cs.length = q.2)) (bnd (over q.1 z cs) fun z' =>lay f z' r) none) ∧
  (∀ sz cs,rowsOf sz 0 cs = []) ∧
  (∀ sz n cs,rowsOf sz (n + 1) cs = cs.take sz :: rowsOf sz n (cs.drop sz)) ∧
  (∀ E ty m s g a cs,argOf E ty m s (.val g a cs) = some (s,.val 0 a cs,if m.isIo then [.drop] else [])) ∧
  (Mode.isIo .io = true) ∧
  (Mode.isIo .mv = false) ∧
  (Mode.isIo .shr = false) ∧
  (∀ E ty m s cs,argOf E ty m s (.rp cs) = tst m.isIo none (some (s,.rp cs,[]))) ∧
  (∀ E ty m s q g off el,argOf E ty m s (.ptr q g off el) = bnd (E.T ty) fun i =>bnd (ptrN E i) fun n =>bnd ((look s.sl q).rootP g el) fun cs =>bnd (getP cs off el n) fun xs =>bnd (setP cs off el (holesOf xs)) fun cs' =>some (upd q cs' s,.box 0 0 xs,[.at q off el n true s.cnt])) ∧
  (∀ E n b z,ptrN E ⟨.prim,n,b,z⟩ = some n) ∧
  (∀ E l n b z,ptrN E ⟨.strct l,n,b,z⟩ = some n) ∧
  (∀ E e n b z,ptrN E ⟨.slc e,n,b,z⟩ = some n) ∧
  (∀ E e n b z,ptrN E ⟨.ptr e,n,b,z⟩ = bnd (E.T e) fun j =>some j.size) ∧
  (∀ E ty s q h off n a el win,argOf E ty .shr s (.lnk q h off n a el win) = some (s,.lnk q h off n a el win,[])) ∧
  (∀ E ty s q h off n a el win,argOf E ty .mv s (.lnk q h off n a el win) = bnd (take s (.lnk q h off n a el win)) fun z =>some (z.1,.val 0 z.2.1 z.2.2,[])) ∧
  (∀ E ty s q h off n a el,argOf E ty .io s (.lnk q h off n a el none) = bnd (take s (.lnk q h off n a el none)) fun z =>some (z.1,.val 0 z.2.1 z.2.2,[.at q off el n false s.cnt])) ∧
  (headM [] = .shr) ∧
  (∀ m r,headM (m :: r) = m) ∧
  (∀ E x r ty tys ms s,argsOf E (x :: r) (ty :: tys) ms s = bnd (rd E ty s x) fun v =>bnd (argOf E ty (headM ms) s v) fun q =>bnd (argsOf E r tys ms.tail q.1) fun A =>some ⟨A.s,q.2.1 :: A.xs,q.2.2 ++ A.backs⟩) ∧
  (∀ E ms s,argsOf E [] [] ms s = some ⟨s,[],[]⟩) ∧
  (∀ s,borrowAll s [] = some ([],[])) ∧
  (∀ s r k h off n a el win,borrowAll s (.lnk k h off n a el win :: r) = bnd (borrowAll s r) fun q =>bnd (cells s (.lnk k h off n a el win)) fun z =>tst (wholeRow z.2) (some (.val 0 z.1 (borRow z.2) :: q.1,(k,off,el,n) :: q.2)) none) ∧
  (∀ s r g a cs,borrowAll s (.val g a cs :: r) = bnd (borrowAll s r) fun q =>some (.val g a cs :: q.1,q.2)) ∧
  (∀ s r g h cs,borrowAll s (.box g h cs :: r) = bnd (borrowAll s r) fun q =>some (.box g h cs :: q.1,q.2)) ∧
  (∀ s r cs,borrowAll s (.rp cs :: r) = bnd (borrowAll s r) fun q =>some (.rp cs :: q.1,q.2)) ∧
  (∀ d,C.giveBack .hole d = d) ∧
  (∀ v d,C.giveBack (.p v) d = .p v) ∧
  (∀ f sz rows d,C.giveBack (.sl f sz rows) d = .sl f sz rows) ∧
  (giveBack [] [] = some []) ∧
  (∀ c r d q,giveBack (c :: r) (d :: q) = bnd (giveBack r q) fun l =>some (C.giveBack c d :: l)) ∧
  (∀ r,notIn r [] = true) ∧
  (∀ r l,notIn r (.drop :: l) = notIn r l) ∧
  (∀ r q o e n w k l,notIn r (.at q o e n w k :: l) = (!(Nat.beq q r) && notIn r l)) ∧
  (∀ s,freshB s [] = true) ∧
  (distinctB [] = true) ∧
  (∀ l,distinctB (.drop :: l) = distinctB l) ∧
  (∀ r o e n w k l,distinctB (.at r o e n w k :: l) = (notIn r l && distinctB l)) ∧
  (∀ s l,freshB s (.drop :: l) = freshB s l) ∧
  (∀ s r o e n w k l,freshB s (.at r o e n w k :: l) = (Nat.beq (look s.sl r).linkStamp k && freshB s l)) ∧
  (∀ l,noClash [] l = true) ∧
  (∀ b r l,noClash (b :: r) l = (notIn b.1 l && noClash r l)) ∧
  (∀ r,notInR r [] = true) ∧
  (∀ r b l,notInR r (b :: l) = (!(Nat.beq b.1 r) && notInR r l)) ∧
  (distinctR [] = true) ∧
  (∀ b l,distinctR (b :: l) = (notInR b.1 l && distinctR l)) ∧
  (∀ s,putBacks [] [] s = some s) ∧
  (allIdle [] = true) ∧
  (∀ c r,allIdle (c :: r) = (c.idle && allIdle r)) ∧
  (∀ v,C.idle (.p v) = true) ∧
  (∀ f sz rows,C.idle (.sl f sz rows) = f.isShr) ∧
  (C.idle .hole = true) ∧
  (∀ bs o os s,putBacks (.drop :: bs) (o :: os) s = putBacks bs os s) ∧
  (∀ r off el n w k bs o os s,putBacks (.at r off el n w k :: bs) (o :: os) s = bnd (look s.sl r).root fun cs =>bnd (getP cs off el n) fun now =>bnd (tst w (tst (decide (o.length = n)) (some o) none) (tst (allIdle now) (giveBack now o) none)) fun xs =>bnd (setP cs off el xs) fun cs' =>putBacks bs os (upd r cs' s)) ∧
  (∀ s,freezeAll [] s = some s) ∧
  (∀ r off el n l s,freezeAll ((r,off,el,n) :: l) s = bnd (look s.sl r).root fun cs =>bnd (getP cs off el n) fun xs =>tst (wholeRow xs) (bnd (setP cs off el (borRow xs)) fun cs' =>freezeAll l (upd r cs' s)) none) ∧
  (S.ofVals [] = .dead) ∧
  (∀ a cs,S.ofVals [(a,cs)] = .val 0 a cs) ∧
  (∀ cs w r,S.ofVals ((true,cs) :: w :: r) = .tup ((true,cs) :: w :: r)) ∧
  (∀ c cs w r,S.ofVals ((false,c :: cs) :: w :: r) = .tup ((false,c :: cs) :: w :: r)) ∧
  (∀ a cs r,S.ofVals ((false,[]) :: (a,cs) :: r) = .box 0 0 cs) ∧
  (∀ E call f args tys s,callOf E call f args tys s = bnd (argsOf E args tys (E.ann f).modes s) fun A =>tst (freshB A.s A.backs && distinctB A.backs) (bnd (borrowAll A.s A.xs) fun B =>tst (noClash B.2 A.backs) (bnd (call f B.1) fun res =>bnd (tst (B.2.isEmpty || res.mine) (some A.s) (tst (distinctR B.2) (freezeAll B.2 A.s) none)) fun s' =>bnd (putBacks A.backs res.outs s') fun s'' =>some (s'',S.ofVals res.vals)) none) none) ∧
  (∀ b,lenOf (.p (.string b)) = some b.size) ∧
  (∀ f sz rows,lenOf (.sl f sz rows) = some rows.length) ∧
  (∀ s i cs,loadS s i (.rp cs) = bnd (takeL i.size cs) fun xs =>some (.val 0 i.k.agg xs)) ∧
  (∀ s i r g off el,loadS s i (.ptr r g off el) = bnd ((look s.sl r).rootR g el) fun cs =>bnd (getP cs off el i.size) fun xs =>tst (allFree xs) (some (.val 0 i.k.agg xs)) (some (.lnk r (look s.sl r).linkStamp off i.size i.k.agg el none))) ∧
  (∀ s i v r g off el,storeS s i v (.ptr r g off el) = bnd ((look s.sl r).rootP g el) fun _ =>bnd (takeG s v) fun q =>bnd ((look q.1.sl r).rootP g el) fun cs =>bnd (getP cs off el i.size) fun old =>tst (decide (q.2.2.length = i.size)) (tst (allLoose old) (bnd (setP cs off el q.2.2) fun cs' =>some (upd r cs' q.1,.dead)) none) none) ∧
  (∀ s d r g off,fieldS s d (.ptr r g off none) = bnd ((look s.sl r).rootR g none) fun _ =>some (.ptr r g (off + d) none)) ∧
  (∀ s d r g off i o,fieldS s d (.ptr r g off (some (i,o))) = bnd ((look s.sl r).rootR g (some (i,o))) fun _ =>some (.ptr r g off (some (i,o + d)))) ∧
  (∀ s d cs,fieldS s d (.rp cs) = bnd (dropL d cs) fun l =>some (.rp l)) ∧
  (winLo none = 0) ∧
  (∀ lo k,winLo (some (lo,k)) = lo) ∧
  (∀ s i sz g a cs,indexS s i sz (.val g a cs) = bnd (one1 a cs) fun c =>bnd (asSl c) fun q =>tst q.1.isShr (bnd q.2.2[i]? fun row =>tst (decide (q.2.1 = sz)) (some (.rp row)) none) none) ∧
  (∀ s i sz r h off n a win,indexS s i sz (.lnk r h off n a none win) = bnd (cells s (.lnk r h off n a none win)) fun z =>bnd (one1 z.1 z.2) fun c =>bnd (asSl c) fun q =>tst q.1.isShr none (tst (decide (i < q.2.2.length)) (tst (decide (q.2.1 = sz)) (some (.ptr r h off (some (i + winLo win,0)))) none) none)) ∧
  (∀ E s d,boundOf E s d none = some d) ∧
  (∀ E s d y,boundOf E s d (some y) = bnd (rd E 0 s y) fun v =>bnd v.prim asIdx) ∧
  (∀ E s str sz lo hi g b,sliceS E s str sz lo hi (.val g false [.p (.string b)]) = bnd (boundOf E s 0 lo) fun l =>bnd (boundOf E s b.size hi) fun h =>tst (decide (l≤h)) (tst (decide (h≤b.size)) (tst str (some (ofVal (.string (b.extract l h)))) none) none) none) ∧
  (∀ E s str sz lo hi g f sz' rows,sliceS E s str sz lo hi (.val g false [.sl f sz' rows]) = bnd (boundOf E s 0 lo) fun l =>bnd (boundOf E s rows.length hi) fun h =>tst (decide (l≤h)) (tst (decide (h≤rows.length)) (tst str none (tst f.isShr (tst (decide (sz' = sz)) (some (.val 0 false [.sl .shr sz' ((rows.drop l).take (h - l))])) none) none)) none) none) ∧
  (∀ E s str sz lo hi r g off n a el win,sliceS E s str sz lo hi (.lnk r g off n a el win) = bnd (cells s (.lnk r g off n a el win)) fun z =>bnd (one1 z.1 z.2) fun c =>bnd (asSl c) fun q =>bnd (boundOf E s 0 lo) fun l =>bnd (boundOf E s q.2.2.length hi) fun h =>tst (decide (l≤h)) (tst (decide (h≤q.2.2.length)) (tst (decide (q.2.1 = sz)) (tst str none (tst (winOk win l q.2.2.length) (some (.lnk r g off n a el (some (winLo win + l,h - l)))) none)) none) none) none) ∧
  (∀ l n,winOk none l n = true) ∧
  (∀ q l n,winOk (some q) l n = decide (l < n)) ∧
  (∀ t i c l vs,extractS t i ⟨c,l⟩ (.tup vs) = bnd (atL vs i) fun v =>tst (allFree v.2) (some (⟨c,l⟩,.val 0 v.1 v.2)) (some (⟨c + 1,(t,.tup (setL vs i (v.1,leftRow v.2))) :: l⟩,.val 0 v.1 v.2))) ∧
  (∀ s i j ie je v,convS s i j ie je v = bnd (cells s v) fun z =>bnd (one1 z.1 z.2) fun c =>convC i j ie je c) ∧
  (∀ i j ie je k n,convC i j ie je (.p (.int k n)) = bnd (intT i) fun _ =>bnd (intT j) fun k =>some (ofVal (.int k (k.wrap n)))) ∧
  (∀ i j ie je b,convC i j ie je (.p (.string b)) = tst (strT i) (bnd je fun e =>bnd (intT e) fun k =>tst (decide (k = .u8)) (some (.val 0 false [.sl .own 1 (bytesRows b.data.toList)])) none) none) ∧
  (∀ i j ie je f sz rows,convC i j ie je (.sl f sz rows) = bnd (allPrim rows.flatten) fun vs =>bnd ie fun e =>bnd (intT e) fun k =>tst (decide (k = .u8)) (tst (strT j) (tst (decide (sz = 1)) (bnd (bytesOf vs) fun bs =>some (ofVal (.string ⟨bs.toArray⟩))) none) none) none) ∧
  (bytesRows [] = []) ∧
  (∀ x r,bytesRows (x :: r) = [.p (.int .u8 x.toNat)] :: bytesRows r) ∧
  (bytesOf [] = some []) ∧
  (∀ v r,bytesOf (v :: r) = bnd (byteOf v) fun b =>bnd (bytesOf r) fun l =>some (b :: l)) ∧
  (∀ n,byteOf (.int .u8 n) = some (UInt8.ofNat n.toNat)) ∧
  (∀ s sz vx vy,appendS s sz vx vy = bnd (cells s vy) fun z =>bnd (one1 z.1 z.2) fun cy =>bnd (asSl cy) fun y =>bnd (take s vx) fun q =>bnd (one1 q.2.1 q.2.2) fun cx =>bnd (asSl cx) fun x =>tst x.1.isOwn (tst (decide (x.2.1 = sz)) (tst (decide (y.2.1 = sz)) (tst (decide (x.2.2.length + y.2.2.length < LIM)) (tst (allFreeRows y.2.2) (some (q.1,.val 0 false [.sl .own sz (x.2.2 ++ y.2.2)])) (bnd (take q.1 vy) fun w =>bnd (one1 w.2.1 w.2.2) fun cw =>bnd (asSl cw) fun y' =>tst (decide (y'.2.1 = sz)) (tst (decide (y'.2.2.length = y.2.2.length)) (some (w.1,.val 0 false [.sl .own sz (x.2.2 ++ y'.2.2)])) none) none)) none) none) none) none) ∧
  (∀ f m n,minmax f (.int .i64 m) (.int .i64 n) = some (.int .i64 (f m n))) ∧
  (∀ E s x t,builtinS E s .len [x] [t] = bnd (E.T t) fun i =>bnd (rd E 0 s x) fun v =>bnd (cells s v) fun z =>bnd (one1 z.1 z.2) fun c =>bnd (lenOf c) fun n =>tst (lenT i c) (some (s,ofVal (.int .i64 n))) none) ∧
  (∀ E s x y t u,builtinS E s .append [x,y] [t,u] = tst (decide (t = u)) (bnd (E.T t) fun i =>bnd i.k.elem fun e =>bnd (E.T e) fun j =>bnd (rd E t s x) fun vx =>bnd (rd E t s y) fun vy =>appendA s j.size vx vy) none) ∧
  (∀ s sz vx vy,appendA s sz vx vy = tst (pcs vx.asWin vy.asWin) (appendJ s sz vx vy) (appendS s sz vx vy)) ∧
  (∀ p q,pcs (some p) (some q) = (decide (p.1 = q.1) && (decide (p.2.1 = q.2.1) && decide (p.2.2.1 = q.2.2.1)))) ∧
  (∀ p,pcs (some p) none = false) ∧
  (∀ p,pcs none p = false) ∧
  (∀ r h off n a w,S.asWin (.lnk r h off n a none (some w)) = tst (decide (n = 1) && !a) (some (r,h,off,w.1,w.2)) none) ∧
  (∀ r h off n a,S.asWin (.lnk r h off n a none none) = none) ∧
  (∀ r h off n a e w,S.asWin (.lnk r h off n a (some e) w) = none) ∧
  (∀ g cs,S.asWin (.fz g cs) = none) ∧
  (∀ g a cs,S.asWin (.val g a cs) = none) ∧
  (∀ g h cs,S.asWin (.box g h cs) = none) ∧
  (∀ r g off el,S.asWin (.ptr r g off el) = none) ∧
  (S.asWin .dead = none) ∧
  (∀ s sz vx vy,appendJ s sz vx vy = bnd vx.asWin fun p =>bnd vy.asWin fun q =>tst (decide (p.1 = q.1) && (decide (p.2.1 = q.2.1) && (decide (p.2.2.1 = q.2.2.1) && decide (p.2.2.2.1 = 0)))) (bnd (take s (.lnk p.1 p.2.1 p.2.2.1 1 false none none)) fun t =>bnd (one1 t.2.1 t.2.2) fun c =>bnd (asSl c) fun x =>tst (x.1.isOwn && (decide (x.2.1 = sz) && (decide (p.2.2.2.2≤q.2.2.2.1) && (decide (q.2.2.2.1 + q.2.2.2.2≤x.2.2.length) && decide (x.2.2.length < LIM))))) (some (t.1,.val 0 false [.sl .own sz (x.2.2.take p.2.2.2.2 ++ (x.2.2.drop q.2.2.2.1).take q.2.2.2.2)])) none) none) ∧
  (∀ E s x y t u,builtinS E s .max [x,y] [t,u] = bnd (rd E 0 s x) fun vx =>bnd vx.prim fun a =>bnd (rd E 0 s y) fun vy =>bnd vy.prim fun c =>bnd (minmax max a c) fun v =>some (s,ofVal v)) ∧
  (∀ E s x y t u,builtinS E s .min [x,y] [t,u] = bnd (rd E 0 s x) fun vx =>bnd vx.prim fun a =>bnd (rd E 0 s y) fun vy =>bnd vy.prim fun c =>bnd (minmax min a c) fun v =>some (s,ofVal v)) ∧
  (∀ E call ty s x,ev1 E call ty s (.move x) = bnd (rd E ty s x) fun v =>some (s,v)) ∧
  (∀ E call ty s x,ev1 E call ty s (.assign x) = bnd (rd E ty s x) fun v =>assignS s v) ∧
  (∀ s r h off n a el win,assignS s (.lnk r h off n a el win) = bnd (take s (.lnk r h off n a el win)) fun q =>some (q.1,.val 0 q.2.1 q.2.2)) ∧
  (∀ s g a cs,assignS s (.val g a cs) = some (s,.val g a cs)) ∧
  (∀ s r g off el,assignS s (.ptr r g off el) = some (s,.ptr r g off el)) ∧
  (∀ s cs,assignS s (.rp cs) = some (s,.rp cs)) ∧
  (∀ E call ty s c a b,ev1 E call ty s (.pick c a b) = bnd (rd E 0 s c) fun v =>bnd v.prim fun u =>bnd (asBool u) fun t =>tst t (bnd (rd E ty s a) fun v =>some (s,v)) (bnd (rd E ty s b) fun v =>some (s,v))) ∧
  (∀ E call ty s t,ev1 E call ty s (.alloc t) = bnd (E.T t) fun i =>some (s,.box 0 0 i.zero)) ∧
  (∀ E call ty s t x,ev1 E call ty s (.box t x) = bnd (rd E 0 s x) fun v =>bnd (take s v) fun q =>some (q.1,if E.fzn x then .fz 0 q.2.2 else .box 0 0 q.2.2)) ∧
  (∀ E call ty s t x,ev1 E call ty s (.load t x) = bnd (E.T t) fun i =>bnd (rd E 0 s x) fun v =>bnd (loadS s i v) fun u =>some (s,u)) ∧
  (∀ E call ty s t x y,ev1 E call ty s (.store t x y) = bnd (E.T t) fun i =>bnd (rd E 0 s x) fun a =>bnd (rd E t s y) fun v =>storeS s i v a) ∧
  (∀ E call ty s x,ev1 E call ty s (.nilCheck x) = bnd (rd E 0 s x) fun v =>nilS s v) ∧
  (∀ s r g off el,nilS s (.ptr r g off el) = bnd ((look s.sl r).rootR g el) fun _ =>some (s,.ptr r g off el)) ∧
  (∀ s cs,nilS s (.rp cs) = some (s,.rp cs)) ∧
  (∀ E call ty s op t x y u,ev1 E call ty s (.binOp op t x y u) = bnd (rd E 0 s x) fun a =>bnd (rd E 0 s y) fun b =>bnd (binS E t op a b) fun v =>some (s,v)) ∧
  (∀ E call ty s op t x,ev1 E call ty s (.unOp op t x) = bnd (rd E 0 s x) fun a =>bnd a.prim fun u =>bnd (un op u) fun v =>some (s,ofVal v)) ∧
  (∀ E call ty s t x f,ev1 E call ty s (.fieldAddr t x f) = bnd (E.T t) fun i =>bnd i.k.offs fun l =>bnd (atL l f) fun d =>bnd (rd E 0 s x) fun a =>bnd (fieldS s d.1 a) fun v =>some (s,v)) ∧
  (∀ E call ty s t x ix,ev1 E call ty s (.indexAddr t x ix) = bnd (E.T t) fun ti =>bnd ti.k.elem fun e =>bnd (E.T e) fun tj =>bnd (rd E 0 s ix) fun n =>bnd n.prim fun u =>bnd (asIdx u) fun i =>bnd (rd E 0 s x) fun v =>bnd (indexS s i tj.size v) fun w =>some (s,w)) ∧
  (∀ E call ty s t x ix,ev1 E call ty s (.index t x ix) = bnd (E.T t) fun ti =>tst (strT ti) (bnd (rd E 0 s ix) fun n =>bnd n.prim fun u =>bnd (asIdx u) fun i =>bnd (rd E 0 s x) fun v =>bnd v.prim fun b =>bnd (asStr b) fun z =>bnd z.data.toList[i]? fun c =>some (s,ofVal (.int .u8 c.toNat))) none) ∧
  (∀ E call ty s t i,ev1 E call ty s (.extract (.tmp t) i) = extractS t i s (look s.sl t)) ∧
  (∀ E call ty s t parts,ev1 E call ty s (.build t parts) = bnd (E.T t) fun i =>bnd i.k.offs fun l =>bnd (takeAll E parts.toList s) fun q =>bnd (lay (fun f =>bnd (atL l f) fun d =>some (d.1,d.2.1)) i.zero q.2) fun cs =>some (q.1,.val 0 true cs)) ∧
  (∀ E call ty s t n parts,ev1 E call ty s (.buildSlice t n parts) = bnd (E.T t) fun i =>bnd i.k.elem fun e =>bnd (E.T e) fun j =>bnd (takeAll E parts.toList s) fun q =>bnd (lay (fun f =>some (f * j.size,j.size)) (List.replicate n j.zero).flatten q.2) fun cs =>tst (decide (n < 1000)) (some (q.1,.val 0 false [.sl .own j.size (rowsOf j.size n cs)])) none) ∧
  (∀ E call ty s t x y,ev1 E call ty s (.makeSlice t x y) = bnd (E.T t) fun i =>bnd i.k.elem fun e =>bnd (E.T e) fun j =>bnd (rd E 0 s x) fun v =>bnd v.prim fun u =>bnd (asIdx u) fun n =>bnd (rd E 0 s y) fun v' =>bnd v'.prim fun u' =>bnd (asIdx u') fun m =>tst (decide (n = m)) (tst (decide (n < LIM)) (some (s,.val 0 false [.sl .own j.size (List.replicate n j.zero)])) none) none) ∧
  (∀ E call ty s t x lo hi,ev1 E call ty s (.slice t x lo hi none) = bnd (E.T t) fun i =>bnd (elemSz E i) fun sz =>bnd (rd E 0 s x) fun v =>bnd (sliceS E s (strT i) sz lo hi v) fun w =>some (s,w)) ∧
  (∀ E call ty s t b x,ev1 E call ty s (.convert t b x) = bnd (E.T t) fun i =>bnd (E.T b) fun j =>bnd (rd E 0 s x) fun v =>bnd (convS s i j (bnd i.k.elem E.T) (bnd j.k.elem E.T) v) fun w =>some (s,w)) ∧
  (∀ E call ty s b args tys,ev1 E call ty s (.call { callee :=.builtin b,args :=args,argTypes :=tys }) = builtinS E s b args.toList tys.toList) ∧
  (∀ E call ty s f args tys,ev1 E call ty s (.call { callee :=.value (.func f),args :=args,argTypes :=tys }) = callE E call f args.toList tys.toList s (E.ann f).ext) ∧
  (∀ E call f args tys s,callE E call f args tys s false = bnd (callOf E call f args tys s) fun q =>some (q.1,frV (memT f E.fc) q.2)) ∧
  (∀ E call f args tys s,callE E call f args tys s true = extS E s args) ∧
  (∀ E s x y,extS E s [x,y] = bnd (rd E 0 s x) fun u =>bnd (rd E 0 s y) fun v =>bnd (ext2 u v) fun r =>some (s,r)) ∧
  (∀ g x h y,ext2 (.val g false [.p (.string x)]) (.val h false [.p (.string y)]) = some (.val 0 false [.p (.int .i64 (cmpS x y))])) ∧
  (∀ u r i t,posOf (u :: r) i t = if u = t then some i else posOf r (i + 1) t) ∧
  (∀ i t,posOf [] i t = none) ∧
  (∀ l live i g a cs,S.anew l live i (.val g a cs) = .val i a cs) ∧
  (∀ l live i g h cs,S.anew l live i (.box g h cs) = .box i i cs) ∧
  (∀ l live i r h off n a el win,S.anew l live i (.lnk r h off n a el win) = match (look l r).rootL h,posOf live 0 r with | some _,some j =>.lnk r j off n a el win | _,_ =>.dead) ∧
  (∀ l live i r g off el,S.anew l live i (.ptr r g off el) = match (look l r).rootR g el,posOf live 0 r with | some _,some j =>.ptr r j off el | _,_ =>.dead) ∧
  (∀ l live i cs,S.anew l live i (.rp cs) = .rp cs) ∧
  (∀ l live i vs,S.anew l live i (.tup vs) = .tup vs) ∧
  (∀ l live i,S.anew l live i .dead = .dead) ∧
  (∀ l live i,maskGo l live i [] = []) ∧
  (∀ l live i t r,maskGo l live i (t :: r) = (t,(look l t).anew l live i) :: maskGo l live (i + 1) r) ∧
  (∀ live s,mask live s = ⟨live.length,maskGo s.sl live 0 live⟩) ∧
  (∀ g a cs,S.giveV (.val g a cs) = tst (wholeRow cs) (some (a,cs)) none) ∧
  (∀ E l t,giveR E l (.tmp t) = (look l t).giveV) ∧
  (∀ E l t ty,giveR E l (.cell t ty) = bnd (E.T ty) fun i =>(look l t).giveB i) ∧
  (∀ i g h cs,S.giveB i (.box g h cs) = tst (wholeRow cs) (tst (decide (cs.length = i.size)) (some (i.k.agg,cs)) none) none) ∧
  (∀ t,rslot (.tmp t) = t) ∧
  (∀ t u,rslot (.cell t u) = t) ∧
  (∀ E l,resultOf E [] l = some (l,[])) ∧
  (∀ E v r l,resultOf E (v :: r) l = bnd (giveR E l v) fun z =>bnd (resultOf E r ((rslot v,.dead) :: l)) fun q =>some (q.1,z :: q.2)) ∧
  (∀ g h cs,S.isBox (.box g h cs) = true) ∧
  (∀ g a cs,S.isBox (.val g a cs) = false) ∧
  (∀ cs,S.isBox (.rp cs) = false) ∧
  (Mode.isIo .io = true) ∧
  (Mode.isIo .mv = false) ∧
  (Mode.isIo .shr = false) ∧
  (∀ l o m i ms,outsOf l o m i [] ms = some []) ∧
  (∀ l o m i x r ms,outsOf l o m i (x :: r) ms = bnd (outsOf l o m (i + 1) r ms.tail) fun os =>tst (x.isBox || (headM ms).isIo) (tst (o.contains i) (bnd (mirOut x l i (mirOf m i)) fun cs =>some (cs :: os)) none) (some os)) ∧
  (∀ g h cs g' h' cs0,S.outOf (.box g' h' cs0) (.box g h cs) = tst (decide (cs.length = cs0.length)) (some cs) none) ∧
  (∀ g a cs g' a0 cs0,S.outOf (.val g' a0 cs0) (.val g a cs) = tst (eqB a a0) (some cs) none) ∧
  (∀ E call iter F id body s,loopC E call iter F id body s none = blockO F id (iter.lp (F.ann.heads id) (evc E call iter F body) s)) ∧
  (∀ E call iter F id z body s,loopC E call iter F id body s (some z) = rangeB E call iter F id z body s) ∧
  (∀ E call iter F id z k ops rest s,rangeB E call iter F id z (.seq (.region k ops false) rest) s = tst (isStep z (qsOf ops.toList ops.toList)) (blockO F id (iter.rg (F.ann.heads id) (leftN z) (roundG E call iter F id z (qsOf ops.toList ops.toList) rest) s)) none) ∧
  (∀ E call iter F id z qs rest i s,roundG E call iter F id z qs rest i s = outE F id (seqS E call iter F rest (stepN E call z i s qs))) ∧
  (∀ F id o,outE F id (some o) = some (out1 F id o)) ∧
  (∀ F id s,out1 F id (.norm s) = .norm s) ∧
  (∀ F id r,out1 F id (.ret r) = .ret r) ∧
  (∀ F id k s,out1 F id (.exit k s) = .exit k (endX F id k s)) ∧
  (∀ F id k s,endX F id k s = if k = id then (match F.ann.ends id with | some l =>mask l s | none =>s) else s) ∧
  (∀ E call iter F rest s,seqS E call iter F rest (some s) = evc E call iter F rest s) ∧
  (∀ E call z i s a b c d r,stepN E call z i s (⟨a,b,c,d⟩ :: r) = bnd (nextS z.1 i s) fun q =>evOps E call r (put (some z.2) q.2 q.1)) ∧
  (∀ z d t ty r,isStep z (⟨some d,.next (.tmp t) false,ty,none⟩ :: r) = (decide (t = z.1) && decide (d = z.2))) ∧
  (∀ f kd ka va nk rows,C.free (.mp f kd ka va nk rows) = f.isShr) ∧
  (∀ kd ka va nk rows,C.loose (.mp .shr kd ka va nk rows) = true) ∧
  (∀ kd ka va nk rows,C.loose (.mp .own kd ka va nk rows) = true) ∧
  (∀ f kd ka va nk rows,C.bor (.mp f kd ka va nk rows) = .mp .shr kd ka va nk rows) ∧
  (∀ f kd ka va nk rows,C.mine (.mp f kd ka va nk rows) = false) ∧
  (∀ f kd ka va nk rows,C.whole (.mp f kd ka va nk rows) = (f.isShr || f.isOwn)) ∧
  (∀ kd ka va nk rows,C.left (.mp .shr kd ka va nk rows) = .mp .shr kd ka va nk rows) ∧
  (∀ kd ka va nk rows,C.left (.mp .own kd ka va nk rows) = .hole) ∧
  (∀ f kd ka va nk rows,asMp (.mp f kd ka va nk rows) = some ⟨f,kd,ka,va,nk,rows⟩) ∧
  (∀ k e,TK.kv (.mp k e) = some (k,e)) ∧
  (∀ k e,TK.agg (.mp k e) = false) ∧
  (∀ s v,mapS s v = bnd (cells s v) fun z =>bnd (one1 z.1 z.2) asMp) ∧
  (∀ E t i g a cs,keyS E t i (.val g a cs) = tst (keyT E t i && eqB a i.k.agg && decide (cs.length = i.size)) (bnd (allPrim cs) fun vs =>tst (shapeOk i.zero vs) (some vs) none) none) ∧
  (shapeOk [] [] = true) ∧
  (∀ k n z k' m r,shapeOk (.p (.int k n) :: z) (.int k' m :: r) = (decide (k = k') && shapeOk z r)) ∧
  (∀ n z m r,shapeOk (.p (.string n) :: z) (.string m :: r) = shapeOk z r) ∧
  (∀ n z m r,shapeOk (.p (.bool n) :: z) (.bool m :: r) = shapeOk z r) ∧
  (∀ E t i,keyT E t i = if i.k.agg then E.eqT t else (intT i).isSome || strT i || boolT (some i)) ∧
  (∀ q a b c,intT ⟨q,a,b,[.p (.string c)]⟩ = none) ∧
  (∀ q a b k n,strT ⟨q,a,b,[.p (.int k n)]⟩ = false) ∧
  (∀ ks nk,findR ks nk [] = some none) ∧
  (∀ ks nk row r,findR ks nk (row :: r) = bnd (allPrim (row.take nk)) fun vs =>bnd (eqVals ks vs) fun t =>tst t (some (some (0,row))) (bnd (findR ks nk r) fun q =>some (bump q))) ∧
  (bump none = none) ∧
  (∀ i r,bump (some (i,r)) = some (i + 1,r)) ∧
  (primC [] = []) ∧
  (∀ v r,primC (v :: r) = .p v :: primC r) ∧
  (∀ ks vs rows,putR ks vs rows none = rows ++ [primC ks ++ vs]) ∧
  (∀ ks vs rows i r,putR ks vs rows (some (i,r)) = rows.set i (primC ks ++ vs)) ∧
  (∀ m ie i row,lookRes m ie true (some (i,row)) = .tup [(m.va,row.drop m.nk),(false,[.p (.bool true)])]) ∧
  (∀ m ie i row,lookRes m ie false (some (i,row)) = .val 0 m.va (row.drop m.nk)) ∧
  (∀ m ie,lookRes m ie true none = .tup [(ie.k.agg,borRow ie.zero),(false,[.p (.bool false)])]) ∧
  (∀ m ie,lookRes m ie false none = .val 0 ie.k.agg (borRow ie.zero)) ∧
  (∀ m ik ie,fits m ik ie = (decide (m.kd = 0) && eqB m.ka ik.k.agg && eqB m.va ie.k.agg && decide (m.nk = ik.size))) ∧
  (∀ E s i ok v y,lookupS E s i ok v y = bnd i.k.kv fun q =>bnd (E.T q.1) fun ik =>bnd (E.T q.2) fun ie =>bnd (mapS s v) fun m =>bnd (keyS E q.1 ik y) fun ks =>tst (fits m ik ie) (bnd (findR ks m.nk m.rows) fun r =>some (s,lookRes m ie ok r)) none) ∧
  (∀ s r h off n a,ownMap s (.lnk r h off n a none none) = bnd (mapS s (.lnk r h off n a none none)) fun m =>tst (m.f.isOwn && decide (off = 0)) (bnd ((look s.sl r).rootL h) fun cs =>bnd (oneC cs) fun _ =>some (r,m)) none) ∧
  (∀ m rows,MpV.with m rows = [.mp m.f m.kd m.ka m.va m.nk rows]) ∧
  (∀ E s i v y x,updateS E s i v y x = bnd i.k.kv fun q =>bnd (E.T q.1) fun ik =>bnd (E.T q.2) fun ie =>bnd (ownMap s v) fun m =>bnd (keyS E q.1 ik y) fun ks =>bnd (cells s x) fun z =>tst (fits m.2 ik ie && eqB z.1 ie.k.agg && allFree z.2) (tst (decide (z.2.length = ie.size)) (bnd (findR ks m.2.nk m.2.rows) fun r =>some (upd m.1 (m.2.with (putR ks z.2 m.2.rows r)) s,.dead)) none) none) ∧
  (∀ m ie i row,entryRes m ie (some (i,row)) = .tup [(m.va,row.drop m.nk),(false,[.p (.int .i64 i)])]) ∧
  (∀ m ie,entryRes m ie none = .tup [(ie.k.agg,borRow ie.zero),(false,[.p (.int .i64 m.rows.length)])]) ∧
  (∀ ks m ie i row,entryRows ks m ie (some (i,row)) = m.rows.set i (primC ks ++ row.drop m.nk)) ∧
  (∀ ks m ie,entryRows ks m ie none = m.rows ++ [primC ks ++ borRow ie.zero]) ∧
  (∀ E s i v y,mapEntryS E s i v y = bnd i.k.kv fun q =>bnd (E.T q.1) fun ik =>bnd (E.T q.2) fun ie =>bnd (ownMap s v) fun m =>bnd (keyS E q.1 ik y) fun ks =>tst (fits m.2 ik ie) (bnd (findR ks m.2.nk m.2.rows) fun r =>some (upd m.1 (m.2.with (entryRows ks m.2 ie r)) s,entryRes m.2 ie r)) none) ∧
  (∀ E s i v y x,entryStoreS E s i v y x = bnd i.k.kv fun q =>bnd (E.T q.1) fun ik =>bnd (E.T q.2) fun ie =>bnd (ownMap s v) fun m =>bnd y.prim fun u =>bnd (asIdx u) fun n =>bnd (cells s x) fun z =>tst (fits m.2 ik ie && eqB z.1 ie.k.agg && allFree z.2) (tst (decide (z.2.length = ie.size)) (bnd m.2.rows[n]? fun row =>some (upd m.1 (m.2.with (m.2.rows.set n (row.take m.2.nk ++ z.2))) s,.dead)) none) none) ∧
  (∀ s g a cs,rangeS s (.val g a cs) = bnd (mapS s (.val g a cs)) fun m =>tst (decide (m.kd = 0)) (some (s,.val 0 false [.mp .own 1 m.ka m.va m.nk m.rows])) none) ∧
  (∀ s r h off n a el win,rangeS s (.lnk r h off n a el win) = bnd (ownMap s (.lnk r h off n a el win)) fun m =>tst (decide (m.2.kd = 0)) (some (upd m.1 [.mp .shr 0 m.2.ka m.2.va m.2.nk m.2.rows] s,.val 0 false [.mp .own 1 m.2.ka m.2.va m.2.nk m.2.rows])) none) ∧
  (∀ E call ty s t,ev1 E call ty s (.makeMap t none) = bnd (E.T t) fun i =>bnd i.k.kv fun q =>bnd (E.T q.1) fun ik =>bnd (E.T q.2) fun ie =>some (s,.val 0 false [.mp .own 0 ik.k.agg ie.k.agg ik.size []])) ∧
  (∀ E call ty s t x y ok,ev1 E call ty s (.lookup t x y ok) = bnd (E.T t) fun i =>bnd (rd E 0 s x) fun v =>bnd (rd E 0 s y) fun u =>lookupS E s i ok v u) ∧
  (∀ E call ty s t x y z,ev1 E call ty s (.mapUpdate t x y z) = bnd (E.T t) fun i =>bnd (rd E 0 s x) fun v =>bnd (rd E 0 s y) fun u =>bnd (rd E 0 s z) fun q =>updateS E s i v u q) ∧
  (∀ E call ty s t x y,ev1 E call ty s (.mapEntry t x y) = bnd (E.T t) fun i =>bnd (rd E 0 s x) fun v =>bnd (rd E 0 s y) fun u =>mapEntryS E s i v u) ∧
  (∀ E call ty s t x y z,ev1 E call ty s (.entryStore t x y z) = bnd (E.T t) fun i =>bnd (rd E 0 s x) fun v =>bnd (rd E 0 s y) fun u =>bnd (rd E 0 s z) fun q =>entryStoreS E s i v u q) ∧
  (∀ E call ty s t x,ev1 E call ty s (.range t x) = bnd (E.T t) fun i =>bnd i.k.kv fun _ =>bnd (rd E 0 s x) fun v =>rangeS s v) ∧
  (∀ E call ty s x,ev1 E call ty s (.entry x) = bnd (rd E 0 s x) fun v =>entryS s v) ∧
  (∀ s v,entryS s v = bnd (mapS s v) fun m =>tst (decide (m.kd = 2)) (headR s m m.rows) none) ∧
  (∀ s m row r,headR s m (row :: r) = some (s,.tup [(m.ka,row.take m.nk),(m.va,row.drop m.nk)])) ∧
  (∀ t i s,nextS t i s = bnd (walkV (look s.sl t)) fun m =>tst (walks m) (nextR (t,m) i s (restOf m)) none) ∧
  (∀ g a cs,walkV (.val g a cs) = bnd (one1 a cs) asMp) ∧
  (∀ m,walks m = (m.f.isOwn && (decide (m.kd = 1) || decide (m.kd = 2)))) ∧
  (∀ m i s x r,nextR m i s (x :: r) = bnd (x :: r)[i]? fun row =>some (upd m.1 [.mp .own 2 m.2.ka m.2.va m.2.nk (row :: (x :: r).eraseIdx i)] s,.tup [(false,[.p (.bool true)]),(m.2.ka,row.take m.2.nk),(m.2.va,row.drop m.2.nk)])) ∧
  (∀ f ka va nk rows,restOf ⟨f,1,ka,va,nk,rows⟩ = rows) ∧
  (∀ f ka va nk row rows,restOf ⟨f,2,ka,va,nk,row :: rows⟩ = rows) ∧
  (∀ m i s,nextR m i s [] = some (upd m.1 [.mp .own 1 m.2.ka m.2.va m.2.nk []] s,.tup [(false,[.p (.bool false)])])) ∧
  (∀ E call ty s f a b,ev1 E call ty s (.makeFunc (.func f) a b) = makeF E s f a.toList b.toList) ∧
  (∀ E s f caps,makeF E s f [] caps = bnd (capsOf E s caps) fun l =>some (s,.fn f l)) ∧
  (∀ E s,capsOf E s [] = some []) ∧
  (∀ E s x r,capsOf E s (x :: r) = bnd (rd E 0 s x) fun v =>bnd (capV s v) fun z =>bnd (capsOf E s r) fun l =>some (z :: l)) ∧
  (∀ s cs,capV s (.rp cs) = some cs) ∧
  (∀ s r g off,capV s (.ptr r g off none) = capF (look s.sl r) g off) ∧
  (∀ h cs g off,capF (.fz h cs) g off = tst (decide (h = g) && allFree cs) (dropL off cs) none) ∧
  (∀ E s a,preX E s (.assign a) = (s,none)) ∧
  (∀ E s a b c,preX E s (.pick a b c) = (s,none)) ∧
  (∀ E s a,preX E s (.alloc a) = (s,none)) ∧
  (∀ E s a b,preX E s (.box a b) = (s,none)) ∧
  (∀ E s a b,preX E s (.build a b) = (s,none)) ∧
  (∀ E s a b c,preX E s (.buildSlice a b c) = (s,none)) ∧
  (∀ E s a b,preX E s (.load a b) = (deepN s b E.lf E.fz,none)) ∧
  (∀ E s a b c,preX E s (.store a b c) = (s,none)) ∧
  (∀ E s a,preX E s (.nilCheck a) = (s,none)) ∧
  (∀ E s a b c d e,preX E s (.binOp a b c d e) = (s,none)) ∧
  (∀ E s a b c,preX E s (.unOp a b c) = (s,none)) ∧
  (∀ E s a b c,preX E s (.convert a b c) = (s,none)) ∧
  (∀ E s a b,preX E s (.makeMap a b) = (s,none)) ∧
  (∀ E s a b c,preX E s (.makeSlice a b c) = (s,none)) ∧
  (∀ E s a b c d e,preX E s (.slice a b c d e) = (s,none)) ∧
  (∀ E s a b c,preX E s (.fieldAddr a b c) = (s,none)) ∧
  (∀ E s a b c,preX E s (.indexAddr a b c) = (s,none)) ∧
  (∀ E s a b c,preX E s (.index a b c) = (s,none)) ∧
  (∀ E s a b c d,preX E s (.lookup a b c d) = (s,none)) ∧
  (∀ E s a b c d,preX E s (.mapUpdate a b c d) = (s,none)) ∧
  (∀ E s a b c,preX E s (.mapEntry a b c) = (s,none)) ∧
  (∀ E s a b c d,preX E s (.entryStore a b c d) = (s,none)) ∧
  (∀ E s a b,preX E s (.range a b) = (s,none)) ∧
  (∀ E s a,preX E s (.entry a) = (s,none)) ∧
  (∀ E s a b,preX E s (.extract a b) = (s,none)) ∧
  (∀ E s a,preX E s (.call a) = (liftC s a E.lf,none)) ∧
  (∀ s c,liftC s c [] = s) ∧
  (∀ s args tys t l,liftC s ⟨.builtin .append,args,tys⟩ (t :: l) = liftO s (t :: l) args.toList) ∧
  (∀ s f args tys t l,liftC s ⟨.value f,args,tys⟩ (t :: l) = s) ∧
  (∀ s args tys t l,liftC s ⟨.builtin .len,args,tys⟩ (t :: l) = s) ∧
  (∀ s args tys t l,liftC s ⟨.builtin .clear,args,tys⟩ (t :: l) = s) ∧
  (∀ s args tys t l,liftC s ⟨.builtin .max,args,tys⟩ (t :: l) = s) ∧
  (∀ s args tys t l,liftC s ⟨.builtin .min,args,tys⟩ (t :: l) = s) ∧
  (∀ s l t r,liftO s l (.tmp t :: r) = if memT t l then liftS s t (look s.sl t) else s) ∧
  (∀ s l v r,liftO s l (.const v :: r) = s) ∧
  (∀ s t r h off n a e,liftS s t (.lnk r h off n a (some e) none) = liftG r h t s (take s (.lnk r h off n a (some e) none))) ∧
  (∀ s t r h off n a win,liftS s t (.lnk r h off n a none win) = s) ∧
  (∀ s t g a cs,liftS s t (.val g a cs) = s) ∧
  (∀ r h t s q,liftG r h t s (some q) = refS r h (put (some t) (.val 0 q.2.1 q.2.2) q.1)) ∧
  (∀ r h c l,refS r h ⟨c,l⟩ = ⟨c,refL r h (look l r).linkStamp l⟩) ∧
  (∀ s,frzL [] s = s) ∧
  (∀ r b l s,frzL ((r,b) :: l) s = frzL l (frzR s r b (look s.sl r).root)) ∧
  (∀ s r cs,frzR s r true (some cs) = upd r (deepRow cs) s) ∧
  (∀ s r cs,frzR s r false (some cs) = upd r (borRow cs) s) ∧
  (∀ t vs,S.read t (.tup vs) = if allFreeT vs then some (.tup vs) else none) ∧
  (allFreeT [] = true) ∧
  (∀ v r,allFreeT (v :: r) = (allFree v.2 && allFreeT r)) ∧
  (∀ c y v vs,S.still c y (.tup (v :: vs)) = y.freeT) ∧
  (∀ vs,S.freeT (.tup vs) = allFreeT vs) ∧
  (∀ s x l,deepN s x l [] = deepO s l x) ∧
  (∀ s x l c r,deepN s x l (c :: r) = s) ∧
  (∀ s l t,deepO s l (.tmp t) = if memT t l then deepP s (look s.sl t) else s) ∧
  (∀ s l t,deepO s l (.const t) = s) ∧
  (∀ s l t,deepO s l (.global t) = s) ∧
  (∀ s l t,deepO s l (.func t) = s) ∧
  (∀ s r g off el,deepP s (.ptr r g off el) = frzR s r true (look s.sl r).root) ∧
  (deepRow [] = []) ∧
  (∀ x,frV false x = x) ∧
  (∀ g a cs,frV true (.val g a cs) = .val g a (borRow cs)) ∧
  (∀ vs,frV true (.tup vs) = .tup (borT vs)) ∧
  (∀ g h cs,frV true (.box g h cs) = .box g h cs) ∧
  (frV true .dead = .dead) ∧
  (borT [] = []) ∧
  (∀ a cs r,borT ((a,cs) :: r) = (a,borRow cs) :: borT r) ∧
  (∀ g h cs,S.isMv (.box g h cs) = true) ∧
  (∀ r g off el,S.isMv (.ptr r g off el) = true) ∧
  (∀ c r,deepRow (c :: r) = deepC c :: deepRow r) ∧
  (∀ f sz rows,deepC (.sl f sz rows) = .sl f sz (borRows rows)) ∧
  (∀ v,deepC (.p v) = .p v) ∧
  (∀ E s a b c,preX E s (.makeFunc a b c) = (preN s c.toList E.fz,none)) ∧
  (∀ s c,preN s c [] = frzAll s c) ∧
  (∀ s c u r,preN s c (u :: r) = s) ∧
  (∀ s,frzAll s [] = s) ∧
  (∀ s t r,frzAll s (.tmp t :: r) = frzAll (frzS s t (look s.sl t)) r) ∧
  (∀ s t g h cs,frzS s t (.box g h cs) = if allFree cs then put (some t) (.fz 0 cs) s else s) ∧
  (∀ s t h cs,frzS s t (.fz h cs) = s) ∧
  (∀ s t cs,frzS s t (.rp cs) = s) ∧
  (∀ s t g a cs,frzS s t (.val g a cs) = s) ∧
  (∀ f caps,S.asFn (.fn f caps) = some (f,caps)) ∧
  (capsS [] = []) ∧
  (∀ c r,capsS (c :: r) = .rp c :: capsS r) ∧
  (∀ E call ty s t args tys,ev1 E call ty s (.call { callee :=.value (.tmp t),args :=args,argTypes :=tys }) = bnd (look s.sl t).asFn fun q =>callClo E call q.1 q.2 args.toList tys.toList s) ∧
  (∀ E call f caps args tys s,callClo E call f caps args tys s = bnd (argsOf E args tys (E.ann f).modes s) fun A =>tst (freshB A.s A.backs && distinctB A.backs) (bnd (borrowAll A.s A.xs) fun B =>tst (noClash B.2 A.backs && decide ((E.ann f).modes.length≤args.length)) (bnd (call f (B.1 ++ capsS caps)) fun res =>bnd (tst (B.2.isEmpty || res.mine) (some A.s) (tst (distinctR B.2) (freezeAll B.2 A.s) none)) fun s' =>bnd (putBacks A.backs res.outs s') fun s'' =>some (s'',S.ofVals res.vals)) none) none) ∧
  (∀ E ty m s f caps,argOf E ty m s (.fn f caps) = tst m.isIo none (some (s,.fn f caps,[]))) ∧
  (∀ s r f caps,borrowAll s (.fn f caps :: r) = bnd (borrowAll s r) fun q =>some (.fn f caps :: q.1,q.2)) ∧
  (∀ s f caps,assignS s (.fn f caps) = some (s,.fn f caps)) ∧
  (∀ l live i f caps,S.anew l live i (.fn f caps) = .fn f caps) ∧
  (∀ f caps,S.isBox (.fn f caps) = false) ∧
  (∀ c f caps,S.stamp c (.fn f caps) = .fn f caps) ∧
  (∀ E ty s f,rd E ty s (.func f) = some (.fn f [])) ∧
  (∀ l t g cs,ptrB l t (.fz g cs) = none) ∧
  (∀ l t g h cs,ptrB l t (.box g h cs) = some t) ∧
  (∀ l t g a cs,ptrB l t (.val g a cs) = none) ∧
  (∀ l t r h off n a el win,ptrB l t (.lnk r h off n a el win) = none) ∧
  (∀ l t r g off,ptrB l t (.ptr r g off none) = tst (decide (off = 0) && (look l r).isBox) (bnd ((look l r).rootR g none) fun _ =>some r) none) ∧
  (∀ l t r g off e,ptrB l t (.ptr r g off (some e)) = none) ∧
  (∀ l t cs,ptrB l t (.rp cs) = none) ∧
  (∀ l t f caps,ptrB l t (.fn f caps) = none) ∧
  (∀ l t vs,ptrB l t (.tup vs) = none) ∧
  (∀ l t,ptrB l t .dead = none) ∧
  (∀ l,ptrR l [] = none) ∧
  (∀ l t,ptrR l [.tmp t] = bnd (ptrB l t (look l t)) fun r =>bnd (look l r).root fun cs =>tst (wholeRow cs) (some ((r,.dead) :: l,[(false,[]),(true,cs)])) none) ∧
  (∀ l t u r,ptrR l (.cell t u :: r) = none) ∧
  (∀ l t w r,ptrR l (.tmp t :: w :: r) = none) ∧
  (∀ (x:List (Tmp × S) × List (Bool × List C)) y,orS (some x) y = some x) ∧
  (∀ (y:Option (List (Tmp × S) × List (Bool × List C))),orS none y = y) ∧
  (∀ E F s,retOf E F s = bnd (orS (ptrR s.sl F.res) (resultOf E F.res s.sl)) fun q =>bnd (outsOf q.1 F.ann.keep F.ann.mir 0 F.args F.ann.modes) fun outs =>some ⟨q.2,outs⟩) ∧
  (∀ d_ a s,preP (some d_) (.assign a) s = none) ∧
  (∀ d_ a b c s,preP (some d_) (.pick a b c) s = none) ∧
  (∀ d_ a s,preP (some d_) (.alloc a) s = none) ∧
  (∀ d_ a b s,preP (some d_) (.box a b) s = none) ∧
  (∀ d_ a b s,preP (some d_) (.build a b) s = none) ∧
  (∀ d_ a b c s,preP (some d_) (.buildSlice a b c) s = none) ∧
  (∀ d_ a b s,preP (some d_) (.load a b) s = none) ∧
  (∀ d_ a b c d e s,preP (some d_) (.binOp a b c d e) s = none) ∧
  (∀ d_ a b c s,preP (some d_) (.unOp a b c) s = none) ∧
  (∀ d_ a b c s,preP (some d_) (.convert a b c) s = none) ∧
  (∀ d_ a b s,preP (some d_) (.makeMap a b) s = none) ∧
  (∀ d_ a b c s,preP (some d_) (.makeSlice a b c) s = none) ∧
  (∀ d_ a b c d e s,preP (some d_) (.slice a b c d e) s = none) ∧
  (∀ d_ a b c s,preP (some d_) (.fieldAddr a b c) s = none) ∧
  (∀ d_ a b c s,preP (some d_) (.indexAddr a b c) s = none) ∧
  (∀ d_ a b c s,preP (some d_) (.index a b c) s = none) ∧
  (∀ d_ a b c d s,preP (some d_) (.lookup a b c d) s = none) ∧
  (∀ d_ a b s,preP (some d_) (.range a b) s = none) ∧
  (∀ d_ a s,preP (some d_) (.entry a) s = none) ∧
  (∀ d_ a b s,preP (some d_) (.extract a b) s = none) ∧
  (∀ d_ a s,preP (some d_) (.call a) s = none) ∧
  (∀ d_ a b c s,preP (some d_) (.makeFunc a b c) s = none) ∧
  (∀ d_ a s,preP (some d_) (.move a) s = none) ∧
  (∀ d_ a s,preP (some d_) (.nilCheck a) s = none) ∧
  (∀ d t x y s,preP (some d) (.mapEntry t (.tmp x) y) s = preM s (look s.sl x)) ∧
  (∀ s r h off n a,preM s (.lnk r h off n a none none) = preV r h (look s.sl r)) ∧
  (∀ t x y s,preP none (.store t x (.tmp y)) s = preS s (look s.sl y)) ∧
  (∀ t x v s,preP none (.store t x (.const v)) s = none) ∧
  (∀ t x v s,preP none (.store t x (.func v)) s = none) ∧
  (∀ c s,preP none (.call c) s = none) ∧
  (∀ a b c d s,preP none (.mapUpdate a b c d) s = none) ∧
  (∀ a b c d s,preP none (.entryStore a b c d) s = none) ∧
  (∀ a s,preP none (.nilCheck a) s = none) ∧
  (∀ s,postX none s = s) ∧
  (∀ z s,postX (some z) s = postV z s (look s.sl z.1)) ∧
  (∀ s r h off n a e win,preS s (.lnk r h off n a (some e) win) = preV r h (look s.sl r)) ∧
  (∀ s r h off n a win,preS s (.lnk r h off n a none win) = none) ∧
  (∀ s g a cs,preS s (.val g a cs) = none) ∧
  (∀ s g cs,preS s (.fz g cs) = none) ∧
  (∀ s g h cs,preS s (.box g h cs) = none) ∧
  (∀ s r g off el,preS s (.ptr r g off el) = none) ∧
  (∀ s cs,preS s (.rp cs) = none) ∧
  (∀ s f caps,preS s (.fn f caps) = none) ∧
  (∀ s,preS s .dead = none) ∧
  (∀ r h g a cs,preV r h (.val g a cs) = if g = h then some (r,h,cs.length) else none) ∧
  (∀ r h g cs,preV r h (.fz g cs) = none) ∧
  (∀ r h g k cs,preV r h (.box g k cs) = none) ∧
  (∀ z s g a cs,postV z s (.val g a cs) = if cs.length = z.2.2 then ⟨s.cnt,refL z.1 z.2.1 g s.sl⟩ else s) ∧
  (∀ r h k,refL r h k [] = []) ∧
  (∀ r h k p l,refL r h k (p :: l) = (p.1,p.2.refr r h k) :: refL r h k l) ∧
  (∀ r h h' q k off n a,S.refr r h h' (.lnk q k off n a none none) = if q = r then (if k = h then .lnk q h' off n a none none else .lnk q k off n a none none) else .lnk q k off n a none none) ∧
  (∀ r h h' q k off n a w,S.refr r h h' (.lnk q k off n a none (some w)) = .lnk q k off n a none (some w)) ∧
  (∀ r h h' q k off n a e win,S.refr r h h' (.lnk q k off n a (some e) win) = .lnk q k off n a (some e) win) ∧
  (∀ r h h' g a cs,S.refr r h h' (.val g a cs) = .val g a cs) ∧
  (∀ r h h' g k cs,S.refr r h h' (.box g k cs) = .box g k cs) ∧
  (∀ r h h' g cs,S.refr r h h' (.fz g cs) = .fz g cs) ∧
  (∀ r h h' q g off el,S.refr r h h' (.ptr q g off el) = .ptr q g off el) ∧
  (∀ r h h' cs,S.refr r h h' (.rp cs) = .rp cs) ∧
  (∀ r h h' f caps,S.refr r h h' (.fn f caps) = .fn f caps) ∧
  (∀ r h h' vs,S.refr r h h' (.tup vs) = .tup vs) ∧
  (∀ r h h',S.refr r h h' .dead = .dead) ∧
  (∀ E call Ts qs s,drawX E call Ts qs s none = evDraw E call Ts qs s) ∧
  (∀ E call Ts qs s N,drawX E call Ts qs s (some N) = evFree E call qs s N) ∧
  (∀ k,findF k [] = none) ∧
  (∀ k f r,findF k (f :: r) = if f.1 = k then some f.2 else findF k r) ∧
  (∀ t x F,addF t x F none = some ((t,x) :: F)) ∧
  (∀ E call qs s F,dagE E call qs s [] F = some F) ∧
  (∀ E call qs s e r F,dagE E call qs s (e :: r) F = bnd (atL qs e.1) fun q =>bnd (evOps E call [q] s) fun x =>bnd (addF e.2.1 (mask e.2.2 x) F (findF e.2.1 F)) fun F' =>dagE E call qs s r F') ∧
  (∀ E call qs k F,dagN E call qs k [] F = some F) ∧
  (∀ E call qs k p es r F,dagN E call qs k (⟨p,es⟩ :: r) F = bnd (findF k F) fun s =>bnd (dagE E call qs s es F) fun F' =>dagN E call qs (k + 1) r F') ∧
  (∀ E call qs s N,evFree E call qs s N = bnd (dagN E call qs 0 N [(0,s)]) fun F =>findF (N.length - 1) F) ∧
  (∀ g h cs,S.rootV h (.val g false cs) = if g = h then some cs else none) ∧
  (∀ z rows,clearR z none rows = some (List.replicate rows.length z)) ∧
  (∀ z lo k rows,clearR z (some (lo,k)) rows = tst (decide (lo + k≤rows.length)) (some (rows.take lo ++ (List.replicate k z ++ rows.drop (lo + k)))) none) ∧
  (∀ s sz z r h off n a win,clearS s sz z (.lnk r h off n a none win) = tst (decide (off = 0) && decide (n = 1) && !a) (bnd ((look s.sl r).rootV h) fun cs =>bnd (oneC cs) fun c =>bnd (asSl c) fun q =>tst (q.1.isOwn && decide (q.2.1 = sz)) (bnd (clearR z win q.2.2) fun rows =>some (upd r [.sl q.1 q.2.1 rows] s,.dead)) none) none) ∧
  (∀ E s x t,builtinS E s .clear [x] [t] = bnd (E.T t) fun i =>bnd i.k.elem fun e =>bnd (E.T e) fun j =>bnd (rd E 0 s x) fun v =>clearS s j.size j.zero v) :=by
 refine ⟨?_,?_,?_,?_,?_,?_,?_,?_,?_,?_,?_,?_,?_,?_,?_,?_,?_,?_,?_,?_,?_,?_,?_,?_,?_,?_,?_,?_,?_,?_,?_,?_,?_,?_,?_,?_,?_,?_,?_,?_,?_,?_,?_,?_,?_,?_,?_,?_,?_,?_,?_,?_,?_,?_,?_,?_,?_,?_,?_,?_,?_,?_,?_,?_,?_,?_,?_,?_,?_,?_,?_,?_,?_,?_,?_,?_,?_,?_,?_,?_,?_,?_,?_,?_,?_,?_,?_,?_,?_,?_,?_,?_,?_,?_,?_,?_,?_,?_,?_,?_,?_,?_,?_,?_,?_,?_,?_,?_,?_,?_,?_,?_,?_,?_,?_,?_,?_,?_,?_,?_,?_,?_,?_,?_,?_,?_,?_,?_,?_,?_,?_,?_,?_,?_,?_,?_,?_,?_,?_,?_,?_,?_,?_,?_,?_,?_,?_,?_,?_,?_,?_,?_,?_,?_,?_,?_,?_,?_,?_,?_,?_,?_,?_,?_,?_,?_,?_,?_,?_,?_,?_,?_,?_,?_,?_,?_,?_,?_,?_,?_,?_,?_,?_,?_,?_,?_,?_,?_,?_,?_,?_,?_,?_,?_,?_,?_,?_,?_,?_,?_,?_,?_,?_,?_,?_,?_,?_,?_,?_,?_,?_,?_,?_,?_,?_,?_,?_,?_,?_,?_,?_,?_,?_,?_,?_,?_,?_,?_,?_,?_,?_,?_,?_,?_,?_,?_,?_,?_,?_,?_,?_,?_,?_,?_,?_,?_,?_,?_,?_,?_,?_,?_,?_,?_,?_,?_,?_,?_,?_,?_,?_,?_,?_,?_,?_,?_,?_,?_,?_,?_,?_,?_,?_,?_,?_,?_,?_,?_,?_,?_,?_,?_,?_,?_,?_,?_,?_,?_,?_,?_,?_,?_,?_,?_,?_,?_,?_,?_,?_,?_,?_,?_,?_,?_,?_,?_,?_,?_,?_,?_,?_,?_,?_,?_,?_,?_,?_,?_,?_,?_,?_,?_,?_,?_,?_,?_,?_,?_,?_,?_,?_,?_,?_,?_,?_,?_,?_,?_,?_,?_,?_,?_,?_,?_,?_,?_,?_,?_,?_,?_,?_,?_,?_,?_,?_,?_,?_,?_,?_,?_,?_,?_,?_,?_,?_,?_,?_,?_,?_,?_,?_,?_,?_,?_,?_,?_,?_,?_,?_,?_,?_,?_,?_,?_,?_,?_,?_,?_,?_,?_,?_,?_,?_,?_,?_,?_,?_,?_,?_,?_,?_,?_,?_,?_,?_,?_,?_,?_,?_,?_,?_,?_,?_,?_,?_,?_,?_,?_,?_,?_,?_,?_,?_,?_,?_,?_,?_,?_,?_,?_,?_,?_,?_,?_,?_,?_,?_,?_,?_,?_,?_,?_,?_,?_,?_,?_,?_,?_,?_,?_,?_,?_,?_,?_,?_,?_,?_,?_,?_,?_,?_,?_,?_,?_,?_,?_,?_,?_,?_,?_,?_,?_,?_,?_,?_,?_,?_,?_,?_,?_,?_,?_,?_,?_,?_,?_,?_,?_,?_,?_,?_,?_,?_,?_,?_,?_,?_,?_,?_,?_,?_,?_,?_,?_,?_,?_,?_,?_,?_,?_,?_,?_,?_,?_,?_,?_,?_,?_,?_,?_,?_,?_,?_,?_,?_,?_,?_,?_,?_,?_,?_,?_,?_,?_,?_,?_,?_,?_,?_,?_,?_,?_,?_,?_,?_,?_,?_,?_,?_,?_,?_,?_,?_,?_,?_,?_,?_,?_,?_,?_,?_,?_,?_,?_,?_,?_,?_,?_,?_,?_,?_,?_,?_,?_,?_,?_,?_,?_,?_,?_,?_,?_,?_,?_,?_,?_,?_,?_,?_,?_,?_,?_,?_,?_,?_,?_,?_,?_,?_,?_,?_,?_,?_,?_,?_,?_,?_,?_,?_,?_,?_,?_,?_,?_,?_,?_,?_,?_,?_,?_,?_,?_,?_,?_,?_,?_,?_,?_,?_,?_,?_,?_,?_,?_,?_,?_,?_,?_,?_,?_,?_,?_,?_,?_,?_,?_,?_,?_,?_,?_,?_,?_,?_,?_,?_,?_,?_,?_,?_,?_,?_,?_,?_,?_,?_,?_,?_,?_,?_,?_,?_,?_,?_,?_,?_,?_,?_,?_,?_,?_,?_,?_,?_,?_,?_,?_,?_,?_,?_,?_,?_,?_,?_,?_,?_,?_,?_,?_,?_,?_,?_,?_,?_,?_,?_,?_,?_,?_,?_,?_,?_,?_,?_,?_,?_,?_,?_,?_,?_,?_,?_,?_,?_,?_,?_,?_,?_,?_,?_,?_,?_,?_,?_,?_,?_,?_,?_,?_,?_⟩
 all_goals first
  | (intros; rfl)
  | (intros; exact evc_loop _ _ _ _ _ _ _)
  | (intros; simp only [bin,intBin,ite_self]; done)
  | (intros; simp only [bin,if_true])
  | (intro x; cases x <;> rfl)
  | (intros; simp only [evc]; generalize evc _ _ _ _ _ _ = o; rcases o with _ | (_ | _ | _) <;> rfl)
  | (intros; simp only [evc]; generalize condOf _ _ _ = o; rcases o with _ | (_ | _) <;> rfl)
  | (intros; simp only [evOps]; generalize stepP _ _ _ _ _ _ _ _ = o; rcases o with _ | _ <;> rfl)
  | (intros; simp only [evDraw]; done)
  | (intros; simp only [evDraw]; generalize stepQ _ _ _ _ _ _ _ = o; rcases o with _ | _ <;> rfl)
end Go.Sx

/- The evaluator without a bound on rounds and calls: the limit of the bounded ones. -/
namespace Go.Sx

def iterN:Nat→List Tmp→(St→Option O)→St→Option O
 | 0,_,_,_ =>none
 | n + 1,live,g,s =>match g (mask live s) with
  | some (.norm s') =>iterN n live g s'
  | some (.exit id s') =>some (.exit id s')
  | some (.ret r) =>some (.ret r)
  | none =>none

open Classical in
noncomputable def agree (k:Nat) (f:Nat→Option O):Option O :=if ∀ i,i < k→f i = f 0 then f 0 else none
theorem agree_some {k:Nat} {f:Nat→Option O} {o:O}:agree k f = some o↔f 0 = some o∧∀ i,i < k→f i = some o :=by
 unfold agree
 split
 ·rename_i h
  exact ⟨fun e =>⟨e,fun i hi =>(h i hi).trans e⟩,fun e =>e.1⟩
 ·rename_i h
  refine ⟨fun e =>(by cases e),fun e =>absurd (fun i hi =>(e.2 i hi).trans e.1.symm) h⟩
noncomputable def rangeN:Nat→List Tmp→(St→Nat)→(Nat→St→Option O)→St→Option O
 | 0,_,_,_,_ =>none
 | n + 1,live,k,g,s =>agree (k (mask live s)) fun i =>match g i (mask live s) with
  | some (.norm s') =>rangeN n live k g s'
  | some (.exit id s') =>some (.exit id s')
  | some (.ret r) =>some (.ret r)
  | none =>none
noncomputable def ITn (n:Nat):Iter :=⟨iterN n,rangeN n⟩

def enterL:Nat→List S→List (Tmp × S)
 | _,[] =>[]
 | i,x :: r =>(i,x.stamp i) :: enterL (i + 1) r

def finish (E:Env) (F:Fr):Option O→Option Res
 | some (.ret r) =>some r
 | some (.norm s) =>retOf E F s
 | some (.exit _ _) =>none
 | none =>none

def mirKeys:List (Tmp × Tmp)→List Tmp
 | [] =>[]
 | p :: r =>p.1 :: mirKeys r
def Env.forF (E:Env) (f:FuncId):Env :=⟨E.T,E.eqT,E.ann,mirKeys (E.ann f).mir,(E.ann f).lf,(E.ann f).fc⟩

noncomputable def runB (P:Program) (E:Env) (call:Sem1) (iter:Iter):Sem1 :=fun f args =>
 match P.funcs[f]? with
 | some fn =>match fn.body with
  | some c =>finish (E.forF f) ⟨fn.results.toList,E.ann f,args⟩ (evc (E.forF f) call iter ⟨fn.results.toList,E.ann f,args⟩ c ⟨args.length,enterL 0 args⟩)
  | none =>none
 | none =>none
noncomputable def runF (P:Program) (E:Env) (call:Sem1) (iter:Iter):Sem1 :=fun f args =>
 match (E.ann f).sum with
 | 0 =>runB P E call iter f args
 | k + 1 =>sumOf k args

noncomputable def EVn (P:Program) (E:Env):Nat→Sem1
 | 0 =>fun _ _ =>none
 | n + 1 =>runF P E (EVn P E n) (ITn n)

open Classical in
noncomputable def EV (P:Program) (E:Env):Sem1 :=fun f args =>
 if h:∃ r,∃ n,EVn P E n f args = some r then some h.choose else none

open Classical in
noncomputable def itω:List Tmp→(St→Option O)→St→Option O :=fun live g s =>
 if h:∃ o,∃ n,iterN n live g s = some o then some h.choose else none

open Classical in
noncomputable def irω:List Tmp→(St→Nat)→(Nat→St→Option O)→St→Option O :=fun live k g s =>
 if h:∃ o,∃ n,rangeN n live k g s = some o then some h.choose else none
noncomputable def ITω:Iter :=⟨itω,irω⟩

/-! ### More rounds tell the same. -/

theorem bE {α β:Type} {x:Option α} {k:α→Option β} {b:β}:bnd x k = some b↔∃ a,x = some a∧k a = some b :=by
 cases x <;> simp [bnd]
theorem tE {β:Type} {t:Bool} {x y:Option β} {b:β}:tst t x y = some b↔(t = true∧x = some b)∨(t = false∧y = some b) :=by
 cases t <;> simp [tst]

def LeS (a b:Sem1):Prop :=∀ f x r,a f x = some r→b f x = some r
def LeL (a b:List Tmp→(St→Option O)→St→Option O):Prop :=∀ live g g',(∀ s o,g s = some o→g' s = some o)→∀ s o,a live g s = some o→b live g' s = some o
def LeR (a b:List Tmp→(St→Nat)→(Nat→St→Option O)→St→Option O):Prop :=∀ live k g g',(∀ i s o,g i s = some o→g' i s = some o)→∀ s o,a live k g s = some o→b live k g' s = some o
def LeI (a b:Iter):Prop :=LeL a.lp b.lp∧LeR a.rg b.rg

theorem callOf_mono {E:Env} {a b:Sem1} (h:LeS a b) {f:FuncId} {xs:List Operand} {ts:List TypeId} {s:St} {q:St × S}
  (hq:callOf E a f xs ts s = some q):callOf E b f xs ts s = some q :=by
 unfold callOf at hq ⊢
 obtain ⟨A,hA,hq⟩ :=bE.1 hq
 refine bE.2 ⟨A,hA,?_⟩
 rcases tE.1 hq with ⟨ht,hq⟩ | ⟨ht,hq⟩
 ·refine tE.2 (.inl ⟨ht,?_⟩)
  obtain ⟨B,hB,hq⟩ :=bE.1 hq
  rcases tE.1 hq with ⟨ht2,hq⟩ | ⟨ht2,hq⟩
  ·obtain ⟨r,hr,hq⟩ :=bE.1 hq
   exact bE.2 ⟨B,hB,tE.2 (.inl ⟨ht2,bE.2 ⟨r,h _ _ _ hr,hq⟩⟩)⟩
  ·cases hq
 ·exact absurd hq (by simp)

theorem callClo_mono {E:Env} {a b:Sem1} (h:LeS a b) {f:FuncId} {cp:List (List C)} {xs:List Operand} {ts:List TypeId} {s:St} {q:St × S}
  (hq:callClo E a f cp xs ts s = some q):callClo E b f cp xs ts s = some q :=by
 unfold callClo at hq ⊢
 obtain ⟨A,hA,hq⟩ :=bE.1 hq
 refine bE.2 ⟨A,hA,?_⟩
 rcases tE.1 hq with ⟨ht,hq⟩ | ⟨ht,hq⟩
 ·refine tE.2 (.inl ⟨ht,?_⟩)
  obtain ⟨B,hB,hq⟩ :=bE.1 hq
  rcases tE.1 hq with ⟨ht2,hq⟩ | ⟨ht2,hq⟩
  ·obtain ⟨r,hr,hq⟩ :=bE.1 hq
   exact bE.2 ⟨B,hB,tE.2 (.inl ⟨ht2,bE.2 ⟨r,h _ _ _ hr,hq⟩⟩)⟩
  ·cases hq
 ·exact absurd hq (by simp)

theorem ev1_mono {E:Env} {a b:Sem1} (h:LeS a b) {ty:TypeId} {s:St} {op:Op} {q:St × S} (hq:ev1 E a ty s op = some q):ev1 E b ty s op = some q :=by
 cases op
 case call c =>
  obtain ⟨callee,args,tys⟩ :=c
  cases callee
  case value x =>
   cases x
   case func f =>
    have hq:callE E a f args.toList tys.toList s (E.ann f).ext = some q :=hq
    show callE E b f args.toList tys.toList s (E.ann f).ext = some q
    cases he:(E.ann f).ext with
    | true =>rw [he] at hq; exact hq
    | false =>
     rw [he] at hq
     obtain ⟨z,h1,h2⟩ :=bE.1 (show bnd (callOf E a f args.toList tys.toList s) _ = some q from hq)
     exact bE.2 ⟨z,callOf_mono h h1,h2⟩
   case tmp t =>
    obtain ⟨q',h1,h2⟩ :=bE.1 (show bnd (look s.sl t).asFn _ = some q from hq)
    exact bE.2 ⟨q',h1,callClo_mono h h2⟩
   all_goals exact hq
  all_goals exact hq
 case slice t x lo hi mx =>cases mx <;> exact hq
 case extract x i =>cases x <;> exact hq
 case makeMap t r =>cases r <;> exact hq
 case makeFunc fn a b =>cases fn <;> exact hq
 all_goals exact hq

theorem stepQ_mono {E:Env} {a b:Sem1} (h:LeS a b) {s s':St} {dst:Option Tmp} {op:Op} {ty:TypeId} {w:Option Bool} (hq:stepQ E a s dst op ty w = some s'):stepQ E b s dst op ty w = some s' :=by
 cases w with
 | none =>simp [stepQ] at hq
 | some t =>
  cases t with
  | false =>exact hq
  | true =>
   simp only [stepQ] at hq ⊢
   cases h1:ev1 E a ty s op with
   | none =>simp [h1,bnd] at hq
   | some q =>
    rw [ev1_mono h h1]
    rw [h1] at hq
    exact hq

theorem stepP_mono {E:Env} {a b:Sem1} (h:LeS a b) {s s':St} {dst:Option Tmp} {op:Op} {ty:TypeId} {w:Option Bool} {p:St × Option S} (hq:stepP E a s dst op ty w p = some s'):stepP E b s dst op ty w p = some s' :=by
 obtain ⟨s1,x⟩ :=p
 cases x with
 | none =>exact stepQ_mono (s :=s1) (w :=w) h hq
 | some x =>
  cases w with
  | none =>exact hq
  | some t =>cases t <;> exact hq
theorem evOps_mono {E:Env} {a b:Sem1} (h:LeS a b):∀ (l:List Q) {s s':St},evOps E a l s = some s'→evOps E b l s = some s'
 | [],_,_,hq =>hq
 | ⟨dst,op,ty,g⟩ :: r,s,s',hq =>by
  simp only [evOps] at hq ⊢
  cases h1:stepP E a s dst op ty (wanted s g) (preX E s op) with
  | none =>simp [h1] at hq
  | some s1 =>
   rw [h1] at hq
   rw [stepP_mono h h1]
   exact evOps_mono h r hq

theorem evDraw_mono {E:Env} {a b:Sem1} (h:LeS a b):∀ (Ts:List (List Tmp × List Tmp)) (l:List Q) {s s':St},evDraw E a Ts l s = some s'→evDraw E b Ts l s = some s'
 | Ts,[],_,_,hq =>by simpa only [evDraw] using hq
 | [],_ :: _,_,_,hq =>by simp [evDraw] at hq
 | T :: Ts,⟨dst,op,ty,g⟩ :: r,s,s',hq =>by
  simp only [evDraw] at hq ⊢
  rcases tE.1 hq with ⟨ht,hq⟩ | ⟨_,hq⟩
  ·refine tE.2 (.inl ⟨ht,?_⟩)
   cases h1:stepQ E a s dst op ty (wanted s g) with
   | none =>rw [h1] at hq; cases hq
   | some s1 =>
    rw [h1] at hq
    rw [stepQ_mono h h1]
    rcases tE.1 hq with ⟨hk,hq⟩ | ⟨_,hq⟩
    ·exact tE.2 (.inl ⟨hk,evDraw_mono h Ts r hq⟩)
    ·cases hq
  ·cases hq

theorem dagE_mono {E:Env} {a b:Sem1} (h:LeS a b) {qs:List Q} {s:St}:∀ (es:List (Nat × Nat × List Tmp)) {F F':List (Nat × St)},dagE E a qs s es F = some F'→dagE E b qs s es F = some F'
 | [],_,_,hq =>hq
 | e :: r,F,F',hq =>by
  obtain ⟨q,h1,hq⟩ :=bE.1 (show bnd (atL qs e.1) _ = some F' from hq)
  obtain ⟨x,h2,hq⟩ :=bE.1 hq
  obtain ⟨G,h3,hq⟩ :=bE.1 hq
  exact bE.2 ⟨q,h1,bE.2 ⟨x,evOps_mono h _ h2,bE.2 ⟨G,h3,dagE_mono h r hq⟩⟩⟩
theorem dagN_mono {E:Env} {a b:Sem1} (h:LeS a b) {qs:List Q}:∀ (N:List DNode) (k:Nat) {F F':List (Nat × St)},dagN E a qs k N F = some F'→dagN E b qs k N F = some F'
 | [],_,_,_,hq =>hq
 | n :: r,k,F,F',hq =>by
  obtain ⟨s,h1,hq⟩ :=bE.1 (show bnd (findF k F) _ = some F' from hq)
  obtain ⟨G,h2,hq⟩ :=bE.1 hq
  exact bE.2 ⟨s,h1,bE.2 ⟨G,dagE_mono h _ h2,dagN_mono h r (k + 1) hq⟩⟩
theorem drawX_mono {E:Env} {a b:Sem1} (h:LeS a b) {Ts:List (List Tmp × List Tmp)} {qs:List Q} {s y:St}:∀ {z:Option (List DNode)},drawX E a Ts qs s z = some y→drawX E b Ts qs s z = some y
 | none,hq =>evDraw_mono h Ts qs hq
 | some N,hq =>by
  obtain ⟨F,h1,h2⟩ :=bE.1 (show bnd (dagN E a qs 0 N [(0,s)]) _ = some y from hq)
  exact bE.2 ⟨F,dagN_mono h N 0 h1,h2⟩

theorem stepN_mono {E:Env} {a b:Sem1} (h:LeS a b) {z:Tmp × Tmp} {i:Nat} {s s':St} {qs:List Q} (hq:stepN E a z i s qs = some s'):stepN E b z i s qs = some s' :=by
 cases qs with
 | nil =>cases hq
 | cons q r =>
  obtain ⟨u,h1,h2⟩ :=bE.1 (show bnd (nextS z.1 i s) _ = some s' from hq)
  exact bE.2 ⟨u,h1,evOps_mono h _ h2⟩
theorem outE_some {F:Fr} {id:Nat} {x:Option O} {o:O}:outE F id x = some o↔∃ q,x = some q∧out1 F id q = o :=by
 cases x <;> simp [outE]
theorem rangeB_some {E:Env} {call:Sem1} {iter:Iter} {F:Fr} {id:Nat} {z:Tmp × Tmp} {c:Code} {s:St} {o:O} (h:rangeB E call iter F id z c s = some o) :
  ∃ k ops rest,c = .seq (.region k ops false) rest∧isStep z (qsOf ops.toList ops.toList) = true∧blockO F id (iter.rg (F.ann.heads id) (leftN z) (roundG E call iter F id z (qsOf ops.toList ops.toList) rest) s) = some o :=by
 unfold rangeB at h
 split at h
 ·rename_i k ops rest
  rcases tE.1 h with ⟨h1,h2⟩ | ⟨_,h2⟩
  ·exact ⟨k,ops,rest,rfl,h1,h2⟩
  ·cases h2
 ·cases h

theorem evc_mono {E:Env} {a b:Sem1} {i j:Iter} (h:LeS a b) (hi:LeI i j) (F:Fr):∀ (c:Code) {s:St} {o:O},evc E a i F c s = some o→evc E b j F c s = some o
 | .skip,_,_,hq =>hq
 | .region _ ops false,s,o,hq =>by
  simp only [evc] at hq ⊢
  cases h1:evOps E a (qsOf ops.toList ops.toList) s with
  | none =>simp [h1,normO] at hq
  | some s' =>rw [evOps_mono h _ h1]; rw [h1] at hq; exact hq
 | .region id ops true,s,o,hq =>by
  simp only [evc] at hq ⊢
  cases h1:drawX E a (F.ann.draws id) (qsOf ops.toList ops.toList) (frzL (F.ann.frz id) s) (F.ann.free id) with
  | none =>simp [h1,normO] at hq
  | some s' =>rw [drawX_mono h h1]; rw [h1] at hq; exact hq
 | .seq x y,s,o,hq =>by
  simp only [evc] at hq ⊢
  cases h1:evc E a i F x s with
  | none =>simp [h1] at hq
  | some q =>
   rw [evc_mono h hi F x h1]
   rw [h1] at hq
   cases q with
   | norm s' =>exact evc_mono h hi F y hq
   | exit id s' =>exact hq
   | ret r =>exact hq
 | .cond c x y,s,o,hq =>by
  simp only [evc] at hq ⊢
  cases h1:condOf E s c with
  | none =>simp [h1] at hq
  | some t =>
   simp only [h1] at hq ⊢
   cases t with
   | true =>exact evc_mono h hi F x hq
   | false =>exact evc_mono h hi F y hq
 | .block id body,s,o,hq =>by
  have key:∀ {x y:Option O},(∀ q,x = some q→y = some q)→blockO F id x = some o→blockO F id y = some o :=by
   intro x y hxy hx
   cases x with
   | none =>simp [blockO] at hx
   | some q =>rw [hxy q rfl]; exact hx
  cases body
  case loop c =>
   rw [evc_loop] at hq ⊢
   cases hr:F.ann.rng id with
   | none =>
    rw [hr] at hq
    exact key (fun q hx =>hi.1 _ _ _ (fun s o =>evc_mono h hi F c) _ _ hx) hq
   | some z =>
    rw [hr] at hq
    obtain ⟨k,ops,rest,rfl,h1,h2⟩ :=rangeB_some hq
    have h3:∀ s o,evc E a i F rest s = some o→evc E b j F rest s = some o :=fun s o =>evc_mono h hi F rest
    show tst _ _ none = some o
    rw [h1]
    refine key (fun q hx =>hi.2 _ _ _ _ (fun n s o ho =>?_) _ _ hx) h2
    unfold roundG at ho ⊢
    cases h4:stepN E a z n s (qsOf ops.toList ops.toList) with
    | none =>rw [h4] at ho; cases ho
    | some s' =>
     rw [stepN_mono h h4]
     rw [h4] at ho
     obtain ⟨q,hq1,rfl⟩ :=outE_some.1 ho
     exact outE_some.2 ⟨q,h3 s' q hq1,rfl⟩
  case skip =>exact hq
  case region k ops d =>
   change blockO F id (evc E a i F (.region k ops d) s) = some o at hq
   exact key (fun q hx =>evc_mono h hi F (.region k ops d) hx) hq
  case seq x y =>
   change blockO F id (evc E a i F (.seq x y) s) = some o at hq
   exact key (fun q hx =>evc_mono h hi F (.seq x y) hx) hq
  case cond c x y =>
   change blockO F id (evc E a i F (.cond c x y) s) = some o at hq
   exact key (fun q hx =>evc_mono h hi F (.cond c x y) hx) hq
  case block k c =>
   change blockO F id (evc E a i F (.block k c) s) = some o at hq
   exact key (fun q hx =>evc_mono h hi F (.block k c) hx) hq
  all_goals exact hq
 | .loop _,_,_,hq =>hq
 | .rangeFunc ..,_,_,hq =>hq
 | .exit _,_,_,hq =>hq
 | .scope _,_,_,hq =>hq
 | .label _,_,_,hq =>hq
 | .goto _,_,_,hq =>hq
 | .ret,_,_,hq =>hq
 | .refuse _,_,_,hq =>hq

theorem iterN_mono {live:List Tmp} {g g':St→Option O} (hg:∀ s o,g s = some o→g' s = some o):∀ n {s o},iterN n live g s = some o→iterN (n + 1) live g' s = some o
 | 0,_,_,h =>by simp [iterN] at h
 | n + 1,s,o,h =>by
  rw [iterN] at h ⊢
  cases h1:g (mask live s) with
  | none =>simp [h1] at h
  | some q =>
   rw [hg _ _ h1]
   rw [h1] at h
   cases q with
   | norm s' =>exact iterN_mono hg n h
   | exit id s' =>exact h
   | ret r =>exact h

theorem iterN_le (n:Nat):LeL (iterN n) (iterN (n + 1)) :=fun _ _ _ hg _ _ h =>iterN_mono hg n h
theorem rangeN_mono {live:List Tmp} {k:St→Nat} {g g':Nat→St→Option O} (hg:∀ i s o,g i s = some o→g' i s = some o):∀ n {s o},rangeN n live k g s = some o→∀ m,n≤m→rangeN m live k g' s = some o
 | 0,_,_,h,_,_ =>by simp [rangeN] at h
 | n + 1,s,o,h,m,hm =>by
  obtain ⟨m,rfl⟩:∃ m',m = m' + 1 :=⟨m - 1,by omega⟩
  rw [rangeN] at h ⊢
  rw [agree_some] at h ⊢
  have one:∀ i,(match g i (mask live s) with
    | some (.norm s') =>rangeN n live k g s'
    | some (.exit id s') =>some (.exit id s')
    | some (.ret r) =>some (.ret r)
    | none =>none) = some o→(match g' i (mask live s) with
    | some (.norm s') =>rangeN m live k g' s'
    | some (.exit id s') =>some (.exit id s')
    | some (.ret r) =>some (.ret r)
    | none =>none) = some o :=by
   intro i h
   cases h1:g i (mask live s) with
   | none =>simp [h1] at h
   | some q =>
    rw [hg _ _ _ h1]
    rw [h1] at h
    cases q with
    | norm s' =>exact rangeN_mono hg n h m (by omega)
    | exit id s' =>exact h
    | ret r =>exact h
  exact ⟨one 0 h.1,fun i hi =>one i (h.2 i hi)⟩
theorem ITn_le (n:Nat):LeI (ITn n) (ITn (n + 1)) :=⟨iterN_le n,fun _ _ _ _ hg _ _ h =>rangeN_mono hg n h _ (Nat.le_succ n)⟩

theorem finish_mono {E:Env} {F:Fr} {x y:Option O} (h:∀ o,x = some o→y = some o) {r:Res} (hx:finish E F x = some r):finish E F y = some r :=by
 cases x with
 | none =>simp [finish] at hx
 | some o =>rw [h o rfl]; exact hx

theorem runB_mono {P:Program} {E:Env} {a b:Sem1} {i j:Iter} (h:LeS a b) (hi:LeI i j):LeS (runB P E a i) (runB P E b j) :=by
 intro f x r hr
 unfold runB at hr ⊢
 cases hf:P.funcs[f]? with
 | none =>simp [hf] at hr
 | some fn =>
  simp only [hf] at hr ⊢
  cases hb:fn.body with
  | none =>simp [hb] at hr
  | some c =>
   simp only [hb] at hr ⊢
   exact finish_mono (fun o ho =>evc_mono h hi _ c ho) hr

theorem runF_mono {P:Program} {E:Env} {a b:Sem1} {i j:Iter} (h:LeS a b) (hi:LeI i j):LeS (runF P E a i) (runF P E b j) :=by
 intro f x r hr
 unfold runF at hr ⊢
 cases hs:(E.ann f).sum with
 | zero =>rw [hs] at hr; exact runB_mono h hi f x r hr
 | succ k =>rw [hs] at hr; exact hr

theorem EVn_mono (P:Program) (E:Env):∀ n,LeS (EVn P E n) (EVn P E (n + 1))
 | 0 =>fun _ _ _ h =>by simp [EVn] at h
 | n + 1 =>runF_mono (EVn_mono P E n) (ITn_le n)

theorem EVn_le (P:Program) (E:Env) {m n:Nat} (h:m≤n):LeS (EVn P E m) (EVn P E n) :=by
 induction h with
 | refl =>exact fun _ _ _ h =>h
 | step _ ih =>exact fun f x r hr =>EVn_mono P E _ f x r (ih f x r hr)

theorem iterN_le' {m n:Nat} (h:m≤n):LeL (iterN m) (iterN n) :=by
 induction h with
 | refl =>
  intro live g g' hg s o ho
  induction m generalizing s with
  | zero =>simp [iterN] at ho
  | succ m ih =>
   rw [iterN] at ho ⊢
   cases h1:g (mask live s) with
   | none =>simp [h1] at ho
   | some q =>
    rw [hg _ _ h1]
    rw [h1] at ho
    cases q with
    | norm s' =>exact ih s' ho
    | exit id s' =>exact ho
    | ret r =>exact ho
 | step _ ih =>exact fun live g g' hg s o ho =>iterN_mono (g :=g') (fun _ _ h =>h) _ (ih live g g' hg s o ho)

theorem ITn_le' {m n:Nat} (h:m≤n):LeI (ITn m) (ITn n) :=⟨iterN_le' h,fun _ _ _ _ hg _ _ hh =>rangeN_mono hg m hh _ h⟩

theorem EV_of {P:Program} {E:Env} {n:Nat} {f:FuncId} {x:List S} {r:Res} (h:EVn P E n f x = some r):EV P E f x = some r :=by
 have hex:∃ r,∃ n,EVn P E n f x = some r :=⟨r,n,h⟩
 unfold EV
 rw [dif_pos hex]
 obtain ⟨m,hm⟩ :=hex.choose_spec
 have h1 :=EVn_le P E (Nat.le_max_left n m) _ _ _ h
 have h2 :=EVn_le P E (Nat.le_max_right n m) _ _ _ hm
 exact h2.symm.trans h1

theorem EV_some {P:Program} {E:Env} {f:FuncId} {x:List S} {r:Res} (h:EV P E f x = some r):∃ n,EVn P E n f x = some r :=by
 unfold EV at h
 split at h
 ·rename_i hex
  obtain ⟨m,hm⟩ :=hex.choose_spec
  exact ⟨m,hm.trans h⟩
 ·cases h

theorem itω_of {live:List Tmp} {g:St→Option O} {n:Nat} {s:St} {o:O} (h:iterN n live g s = some o):itω live g s = some o :=by
 have hex:∃ o,∃ n,iterN n live g s = some o :=⟨o,n,h⟩
 unfold itω
 rw [dif_pos hex]
 obtain ⟨m,hm⟩ :=hex.choose_spec
 have h1 :=iterN_le' (Nat.le_max_left n m) live g g (fun _ _ h =>h) _ _ h
 have h2 :=iterN_le' (Nat.le_max_right n m) live g g (fun _ _ h =>h) _ _ hm
 exact h2.symm.trans h1

theorem itω_some {live:List Tmp} {g:St→Option O} {s:St} {o:O} (h:itω live g s = some o):∃ n,iterN n live g s = some o :=by
 unfold itω at h
 split at h
 ·rename_i hex
  obtain ⟨m,hm⟩ :=hex.choose_spec
  exact ⟨m,hm.trans h⟩
 ·cases h

theorem irω_of {live:List Tmp} {k:St→Nat} {g:Nat→St→Option O} {n:Nat} {s:St} {o:O} (h:rangeN n live k g s = some o):irω live k g s = some o :=by
 have hex:∃ o,∃ n,rangeN n live k g s = some o :=⟨o,n,h⟩
 unfold irω
 rw [dif_pos hex]
 obtain ⟨m,hm⟩ :=hex.choose_spec
 have h1 :=rangeN_mono (fun _ _ _ h =>h) n h _ (Nat.le_max_left n m)
 have h2 :=rangeN_mono (fun _ _ _ h =>h) m hm _ (Nat.le_max_right n m)
 exact h2.symm.trans h1
theorem irω_some {live:List Tmp} {k:St→Nat} {g:Nat→St→Option O} {s:St} {o:O} (h:irω live k g s = some o):∃ n,rangeN n live k g s = some o :=by
 unfold irω at h
 split at h
 ·rename_i hex
  obtain ⟨m,hm⟩ :=hex.choose_spec
  exact ⟨m,hm.trans h⟩
 ·cases h

noncomputable def againO (live:List Tmp) (g:St→Option O):Option O→Option O
 | some (.norm s) =>itω live g s
 | some (.exit id s) =>some (.exit id s)
 | some (.ret r) =>some (.ret r)
 | none =>none

theorem itω_eq (live:List Tmp) (g:St→Option O) (s:St):itω live g s = againO live g (g (mask live s)) :=by
 cases h:g (mask live s) with
 | none =>
  cases h2:itω live g s with
  | none =>rfl
  | some o =>
   obtain ⟨n,hn⟩ :=itω_some h2
   cases n with
   | zero =>simp [iterN] at hn
   | succ n =>rw [iterN,h] at hn; simp at hn
 | some q =>
  cases q with
  | norm s' =>
   show _ = itω live g s'
   cases h3:itω live g s' with
   | some o =>
    obtain ⟨n,hn⟩ :=itω_some h3
    exact itω_of (n :=n + 1) (by rw [iterN,h]; exact hn)
   | none =>
    cases h2:itω live g s with
    | none =>rfl
    | some o =>
     obtain ⟨n,hn⟩ :=itω_some h2
     cases n with
     | zero =>simp [iterN] at hn
     | succ n =>
      rw [iterN,h] at hn
      have :=itω_of hn
      rw [h3] at this
      cases this
  | exit id s' =>exact itω_of (n :=1) (by rw [iterN,h])
  | ret r =>exact itω_of (n :=1) (by rw [iterN,h])

/-! ### The limit is reached. -/

theorem callOf_reach {P:Program} {E E1:Env} {f:FuncId} {xs:List Operand} {ts:List TypeId} {s:St} {q:St × S}
  (hq:callOf E1 (EV P E) f xs ts s = some q):∃ n,callOf E1 (EVn P E n) f xs ts s = some q :=by
 unfold callOf at hq ⊢
 obtain ⟨A,hA,hq⟩ :=bE.1 hq
 rcases tE.1 hq with ⟨ht,hq⟩ | ⟨ht,hq⟩
 ·obtain ⟨B,hB,hq⟩ :=bE.1 hq
  rcases tE.1 hq with ⟨ht2,hq⟩ | ⟨ht2,hq⟩
  ·obtain ⟨r,hr,hq⟩ :=bE.1 hq
   obtain ⟨n,hn⟩ :=EV_some hr
   exact ⟨n,bE.2 ⟨A,hA,tE.2 (.inl ⟨ht,bE.2 ⟨B,hB,tE.2 (.inl ⟨ht2,bE.2 ⟨r,hn,hq⟩⟩)⟩⟩)⟩⟩
  ·cases hq
 ·exact absurd hq (by simp)

theorem callClo_reach {P:Program} {E E1:Env} {f:FuncId} {cp:List (List C)} {xs:List Operand} {ts:List TypeId} {s:St} {q:St × S}
  (hq:callClo E1 (EV P E) f cp xs ts s = some q):∃ n,callClo E1 (EVn P E n) f cp xs ts s = some q :=by
 unfold callClo at hq ⊢
 obtain ⟨A,hA,hq⟩ :=bE.1 hq
 rcases tE.1 hq with ⟨ht,hq⟩ | ⟨ht,hq⟩
 ·obtain ⟨B,hB,hq⟩ :=bE.1 hq
  rcases tE.1 hq with ⟨ht2,hq⟩ | ⟨ht2,hq⟩
  ·obtain ⟨r,hr,hq⟩ :=bE.1 hq
   obtain ⟨n,hn⟩ :=EV_some hr
   exact ⟨n,bE.2 ⟨A,hA,tE.2 (.inl ⟨ht,bE.2 ⟨B,hB,tE.2 (.inl ⟨ht2,bE.2 ⟨r,hn,hq⟩⟩)⟩⟩)⟩⟩
  ·cases hq
 ·exact absurd hq (by simp)

theorem ev1_reach {P:Program} {E E1:Env} {ty:TypeId} {s:St} {op:Op} {q:St × S} (hq:ev1 E1 (EV P E) ty s op = some q):∃ n,ev1 E1 (EVn P E n) ty s op = some q :=by
 cases op
 case call c =>
  obtain ⟨callee,args,tys⟩ :=c
  cases callee
  case value x =>
   cases x
   case func f =>
    have hq:callE E1 (EV P E) f args.toList tys.toList s (E1.ann f).ext = some q :=hq
    show ∃ n,callE E1 (EVn P E n) f args.toList tys.toList s (E1.ann f).ext = some q
    cases he:(E1.ann f).ext with
    | true =>rw [he] at hq; exact ⟨0,hq⟩
    | false =>
     rw [he] at hq
     obtain ⟨z,h1,h2⟩ :=bE.1 (show bnd (callOf E1 (EV P E) f args.toList tys.toList s) _ = some q from hq)
     obtain ⟨n,hn⟩ :=callOf_reach h1
     exact ⟨n,bE.2 ⟨z,hn,h2⟩⟩
   case tmp t =>
    obtain ⟨q',h1,h2⟩ :=bE.1 (show bnd (look s.sl t).asFn _ = some q from hq)
    obtain ⟨n,hn⟩ :=callClo_reach h2
    exact ⟨n,bE.2 ⟨q',h1,hn⟩⟩
   all_goals exact ⟨0,hq⟩
  all_goals exact ⟨0,hq⟩
 case slice t x lo hi mx =>cases mx <;> exact ⟨0,hq⟩
 case extract x i =>cases x <;> exact ⟨0,hq⟩
 case makeMap t r =>cases r <;> exact ⟨0,hq⟩
 case makeFunc fn a b =>cases fn <;> exact ⟨0,hq⟩
 all_goals exact ⟨0,hq⟩

theorem stepQ_reach {P:Program} {E E1:Env} {s s1:St} {dst:Option Tmp} {op:Op} {ty:TypeId} {w:Option Bool} (h1:stepQ E1 (EV P E) s dst op ty w = some s1):∃ n,stepQ E1 (EVn P E n) s dst op ty w = some s1 :=by
 cases w with
 | none =>simp [stepQ] at h1
 | some t =>
  cases t with
  | false =>exact ⟨0,h1⟩
  | true =>
   simp only [stepQ] at h1 ⊢
   obtain ⟨q,h2,h3⟩ :=bE.1 h1
   obtain ⟨n,hn⟩ :=ev1_reach h2
   exact ⟨n,bE.2 ⟨q,hn,h3⟩⟩
theorem stepP_reach {P:Program} {E E1:Env} {s s1:St} {dst:Option Tmp} {op:Op} {ty:TypeId} {w:Option Bool} {p:St × Option S} (h1:stepP E1 (EV P E) s dst op ty w p = some s1):∃ n,stepP E1 (EVn P E n) s dst op ty w p = some s1 :=by
 obtain ⟨s',x⟩ :=p
 cases x with
 | none =>exact stepQ_reach (s :=s') (w :=w) h1
 | some x =>
  cases w with
  | none =>exact ⟨0,h1⟩
  | some t =>cases t <;> exact ⟨0,h1⟩
theorem evOps_reach {P:Program} {E E1:Env}:∀ (l:List Q) {s s':St},evOps E1 (EV P E) l s = some s'→∃ n,evOps E1 (EVn P E n) l s = some s'
 | [],_,_,hq =>⟨0,hq⟩
 | ⟨dst,op,ty,g⟩ :: r,s,s',hq =>by
  simp only [evOps] at hq ⊢
  cases h1:stepP E1 (EV P E) s dst op ty (wanted s g) (preX E1 s op) with
  | none =>simp [h1] at hq
  | some s1 =>
   rw [h1] at hq
   obtain ⟨n,hn⟩ :=stepP_reach h1
   obtain ⟨m,hm⟩ :=evOps_reach r hq
   refine ⟨max n m,?_⟩
   rw [stepP_mono (EVn_le P E (Nat.le_max_left n m)) hn]
   exact evOps_mono (EVn_le P E (Nat.le_max_right n m)) r hm

theorem evDraw_reach {P:Program} {E E1:Env}:∀ (Ts:List (List Tmp × List Tmp)) (l:List Q) {s s':St},evDraw E1 (EV P E) Ts l s = some s'→∃ n,evDraw E1 (EVn P E n) Ts l s = some s'
 | Ts,[],_,_,hq =>⟨0,by simpa only [evDraw] using hq⟩
 | [],_ :: _,_,_,hq =>by simp [evDraw] at hq
 | T :: Ts,⟨dst,op,ty,g⟩ :: r,s,s',hq =>by
  simp only [evDraw] at hq ⊢
  rcases tE.1 hq with ⟨ht,hq⟩ | ⟨_,hq⟩
  ·cases h1:stepQ E1 (EV P E) s dst op ty (wanted s g) with
   | none =>rw [h1] at hq; cases hq
   | some s1 =>
    rw [h1] at hq
    have hn:∃ n,stepQ E1 (EVn P E n) s dst op ty (wanted s g) = some s1 :=by
     cases hw:wanted s g with
     | none =>rw [hw] at h1; simp [stepQ] at h1
     | some t =>
      rw [hw] at h1
      cases t with
      | false =>exact ⟨0,h1⟩
      | true =>
       simp only [stepQ] at h1 ⊢
       obtain ⟨q,h2,h3⟩ :=bE.1 h1
       obtain ⟨n,hn⟩ :=ev1_reach h2
       exact ⟨n,bE.2 ⟨q,hn,h3⟩⟩
    obtain ⟨n,hn⟩ :=hn
    rcases tE.1 hq with ⟨hk,hq⟩ | ⟨_,hq⟩
    ·obtain ⟨m,hm⟩ :=evDraw_reach Ts r hq
     refine ⟨max n m,tE.2 (.inl ⟨ht,?_⟩)⟩
     rw [stepQ_mono (EVn_le P E (Nat.le_max_left n m)) hn]
     exact tE.2 (.inl ⟨hk,evDraw_mono (EVn_le P E (Nat.le_max_right n m)) Ts r hm⟩)
    ·cases hq
  ·cases hq

theorem dagE_reach {P:Program} {E E1:Env} {qs:List Q} {s:St}:∀ (es:List (Nat × Nat × List Tmp)) {F F':List (Nat × St)},dagE E1 (EV P E) qs s es F = some F'→∃ n,dagE E1 (EVn P E n) qs s es F = some F'
 | [],_,_,hq =>⟨0,hq⟩
 | e :: r,F,F',hq =>by
  obtain ⟨q,h1,hq⟩ :=bE.1 (show bnd (atL qs e.1) _ = some F' from hq)
  obtain ⟨x,h2,hq⟩ :=bE.1 hq
  obtain ⟨G,h3,hq⟩ :=bE.1 hq
  obtain ⟨n,hn⟩ :=evOps_reach _ h2
  obtain ⟨m,hm⟩ :=dagE_reach r hq
  exact ⟨max n m,bE.2 ⟨q,h1,bE.2 ⟨x,evOps_mono (EVn_le P E (Nat.le_max_left n m)) _ hn,bE.2 ⟨G,h3,dagE_mono (EVn_le P E (Nat.le_max_right n m)) r hm⟩⟩⟩⟩
theorem dagN_reach {P:Program} {E E1:Env} {qs:List Q}:∀ (N:List DNode) (k:Nat) {F F':List (Nat × St)},dagN E1 (EV P E) qs k N F = some F'→∃ n,dagN E1 (EVn P E n) qs k N F = some F'
 | [],_,_,_,hq =>⟨0,hq⟩
 | nd :: r,k,F,F',hq =>by
  obtain ⟨s,h1,hq⟩ :=bE.1 (show bnd (findF k F) _ = some F' from hq)
  obtain ⟨G,h2,hq⟩ :=bE.1 hq
  obtain ⟨n,hn⟩ :=dagE_reach _ h2
  obtain ⟨m,hm⟩ :=dagN_reach r (k + 1) hq
  exact ⟨max n m,bE.2 ⟨s,h1,bE.2 ⟨G,dagE_mono (EVn_le P E (Nat.le_max_left n m)) _ hn,dagN_mono (EVn_le P E (Nat.le_max_right n m)) r (k + 1) hm⟩⟩⟩
theorem drawX_reach {P:Program} {E E1:Env} {Ts:List (List Tmp × List Tmp)} {qs:List Q} {s y:St}:∀ {z:Option (List DNode)},drawX E1 (EV P E) Ts qs s z = some y→∃ n,drawX E1 (EVn P E n) Ts qs s z = some y
 | none,hq =>evDraw_reach Ts qs hq
 | some N,hq =>by
  obtain ⟨F,h1,h2⟩ :=bE.1 (show bnd (dagN E1 (EV P E) qs 0 N [(0,s)]) _ = some y from hq)
  obtain ⟨n,hn⟩ :=dagN_reach N 0 h1
  exact ⟨n,bE.2 ⟨F,hn,h2⟩⟩

def Reach (P:Program) (E E1:Env) (F:Fr) (c:Code):Prop :=
 ∀ s o,evc E1 (EV P E) ITω F c s = some o→∃ n,evc E1 (EVn P E n) (ITn n) F c s = some o

theorem evc_le {P:Program} {E E1:Env} {F:Fr} {c:Code} {m n:Nat} (h:m≤n) {s:St} {o:O} (hq:evc E1 (EVn P E m) (ITn m) F c s = some o) :
  evc E1 (EVn P E n) (ITn n) F c s = some o :=evc_mono (EVn_le P E h) (ITn_le' h) F c hq

theorem all_below {p:Nat→Nat→Prop} (hm:∀ m n i,m≤n→p m i→p n i):∀ k,(∀ i,i < k→∃ n,p n i)→∃ n,∀ i,i < k→p n i
 | 0,_ =>⟨0,fun i hi =>by omega⟩
 | k + 1,h =>by
  obtain ⟨n,hn⟩ :=all_below hm k (fun i hi =>h i (by omega))
  obtain ⟨m,hm'⟩ :=h k (by omega)
  refine ⟨max n m,fun i hi =>?_⟩
  rcases Nat.lt_succ_iff_lt_or_eq.1 hi with hi | rfl
  ·exact hm _ _ _ (Nat.le_max_left n m) (hn i hi)
  ·exact hm _ _ _ (Nat.le_max_right n m) hm'

theorem reach_block {P:Program} {E E1:Env} {F:Fr} {id:Nat} {c:Code} (hc:Reach P E E1 F c)
  (he:∀ a i s,evc E1 a i F (.block id c) s = blockO F id (evc E1 a i F c s)):Reach P E E1 F (.block id c) :=by
 intro s o hq
 rw [he] at hq
 cases h1:evc E1 (EV P E) ITω F c s with
 | none =>simp [h1,blockO] at hq
 | some q =>
  obtain ⟨n,hn⟩ :=hc s q h1
  refine ⟨n,?_⟩
  rw [he,hn,← h1]
  exact hq

theorem evc_reach {P:Program} {E E1:Env} {F:Fr}:∀ c,Reach P E E1 F c
 | .skip =>fun s o hq =>⟨0,hq⟩
 | .region k ops false =>fun s o hq =>by
  simp only [evc] at hq ⊢
  cases h1:evOps E1 (EV P E) (qsOf ops.toList ops.toList) s with
  | none =>simp [h1,normO] at hq
  | some s' =>
   obtain ⟨n,hn⟩ :=evOps_reach _ h1
   exact ⟨n,by rw [hn,← h1]; exact hq⟩
 | .region k ops true =>fun s o hq =>by
  simp only [evc] at hq ⊢
  cases h1:drawX E1 (EV P E) (F.ann.draws k) (qsOf ops.toList ops.toList) (frzL (F.ann.frz k) s) (F.ann.free k) with
  | none =>simp [h1,normO] at hq
  | some s' =>
   obtain ⟨n,hn⟩ :=drawX_reach h1
   exact ⟨n,by rw [hn,← h1]; exact hq⟩
 | .seq x y =>fun s o hq =>by
  simp only [evc] at hq ⊢
  cases h1:evc E1 (EV P E) ITω F x s with
  | none =>simp [h1] at hq
  | some q =>
   obtain ⟨n,hn⟩ :=evc_reach x s q h1
   rw [h1] at hq
   cases q with
   | norm s' =>
    obtain ⟨m,hm⟩ :=evc_reach y s' o hq
    exact ⟨max n m,by rw [evc_le (Nat.le_max_left n m) hn]; exact evc_le (Nat.le_max_right n m) hm⟩
   | exit id s' =>exact ⟨n,by rw [hn]; exact hq⟩
   | ret r =>exact ⟨n,by rw [hn]; exact hq⟩
 | .cond c x y =>fun s o hq =>by
  simp only [evc] at hq ⊢
  cases h1:condOf E1 s c with
  | none =>simp [h1] at hq
  | some t =>
   simp only [h1] at hq ⊢
   cases t with
   | true =>exact evc_reach x s o hq
   | false =>exact evc_reach y s o hq
 | .block id (.loop c) =>fun s o hq =>by
  have ihc:Reach P E E1 F c :=evc_reach c
  rw [evc_loop] at hq
  simp only [evc_loop]
  cases hr:F.ann.rng id with
  | none =>
   rw [hr] at hq
   simp only [loopC] at hq ⊢
   cases h1:itω (F.ann.heads id) (evc E1 (EV P E) ITω F c) s with
   | none =>rw [show ITω.lp = itω from rfl,h1] at hq; simp [blockO] at hq
   | some q =>
    obtain ⟨m,hm⟩ :=itω_some h1
    have key:∀ m s q,iterN m (F.ann.heads id) (evc E1 (EV P E) ITω F c) s = some q→∃ n,iterN n (F.ann.heads id) (evc E1 (EVn P E n) (ITn n) F c) s = some q :=by
     intro m
     induction m with
     | zero =>intro s q h; simp [iterN] at h
     | succ m ih =>
      intro s q h
      rw [iterN] at h
      cases h2:evc E1 (EV P E) ITω F c (mask (F.ann.heads id) s) with
      | none =>simp [h2] at h
      | some u =>
       obtain ⟨n,hn⟩ :=ihc _ _ h2
       rw [h2] at h
       cases u with
       | norm s' =>
        obtain ⟨k,hk⟩ :=ih s' q h
        refine ⟨max n k + 1,?_⟩
        rw [iterN,evc_le (Nat.le_trans (Nat.le_max_left n k) (Nat.le_succ _)) hn]
        exact iterN_le' (Nat.le_max_right n k) _ _ _ (fun s o h =>evc_le (Nat.le_trans (Nat.le_max_right n k) (Nat.le_succ _)) h) _ _ hk
       | exit id' s' =>exact ⟨n + 1,by rw [iterN,evc_le (Nat.le_succ n) hn]; exact h⟩
       | ret r =>exact ⟨n + 1,by rw [iterN,evc_le (Nat.le_succ n) hn]; exact h⟩
    obtain ⟨n,hn⟩ :=key m s q hm
    exact ⟨n,by rw [show (ITn n).lp = iterN n from rfl,hn,← h1]; exact hq⟩
  | some z =>
   rw [hr] at hq
   simp only [loopC] at hq ⊢
   obtain ⟨k,ops,rest,rfl,h0,hq⟩ :=rangeB_some hq
   have ihr:Reach P E E1 F rest :=evc_reach rest
   have one:∀ i s o,roundG E1 (EV P E) ITω F id z (qsOf ops.toList ops.toList) rest i s = some o→∃ n,roundG E1 (EVn P E n) (ITn n) F id z (qsOf ops.toList ops.toList) rest i s = some o :=by
    intro i s o ho
    unfold roundG at ho ⊢
    cases h4:stepN E1 (EV P E) z i s (qsOf ops.toList ops.toList) with
    | none =>rw [h4] at ho; cases ho
    | some s' =>
     rw [h4] at ho
     obtain ⟨n,hn⟩:∃ n,stepN E1 (EVn P E n) z i s (qsOf ops.toList ops.toList) = some s' :=by
      cases hqs:qsOf ops.toList ops.toList with
      | nil =>rw [hqs] at h4; cases h4
      | cons q r =>
       rw [hqs] at h4
       obtain ⟨u,h5,h6⟩ :=bE.1 (show bnd (nextS z.1 i s) _ = some s' from h4)
       obtain ⟨n,hn⟩ :=evOps_reach _ h6
       exact ⟨n,bE.2 ⟨u,h5,hn⟩⟩
     obtain ⟨q,hq1,rfl⟩ :=outE_some.1 ho
     obtain ⟨m,hm⟩ :=ihr s' q hq1
     refine ⟨max n m,?_⟩
     rw [stepN_mono (EVn_le P E (Nat.le_max_left n m)) hn]
     exact outE_some.2 ⟨q,evc_le (Nat.le_max_right n m) hm,rfl⟩
   have oneLe:∀ {m n i s o},m≤n→roundG E1 (EVn P E m) (ITn m) F id z (qsOf ops.toList ops.toList) rest i s = some o→roundG E1 (EVn P E n) (ITn n) F id z (qsOf ops.toList ops.toList) rest i s = some o :=by
    intro m n i s o hmn ho
    unfold roundG at ho ⊢
    cases h4:stepN E1 (EVn P E m) z i s (qsOf ops.toList ops.toList) with
    | none =>rw [h4] at ho; cases ho
    | some s' =>
     rw [stepN_mono (EVn_le P E hmn) h4]
     rw [h4] at ho
     obtain ⟨q,hq1,rfl⟩ :=outE_some.1 ho
     exact outE_some.2 ⟨q,evc_le hmn hq1,rfl⟩
   cases h1:irω (F.ann.heads id) (leftN z) (roundG E1 (EV P E) ITω F id z (qsOf ops.toList ops.toList) rest) s with
   | none =>rw [show ITω.rg = irω from rfl,h1] at hq; simp [blockO] at hq
   | some q =>
    obtain ⟨m,hm⟩ :=irω_some h1
    have key:∀ m s q,rangeN m (F.ann.heads id) (leftN z) (roundG E1 (EV P E) ITω F id z (qsOf ops.toList ops.toList) rest) s = some q →
      ∃ n,rangeN n (F.ann.heads id) (leftN z) (roundG E1 (EVn P E n) (ITn n) F id z (qsOf ops.toList ops.toList) rest) s = some q :=by
     intro m
     induction m with
     | zero =>intro s q h; simp [rangeN] at h
     | succ m ih =>
      intro s q h
      rw [rangeN,agree_some] at h
      -- each choice
      have each:∀ i,(match roundG E1 (EV P E) ITω F id z (qsOf ops.toList ops.toList) rest i (mask (F.ann.heads id) s) with
        | some (.norm s') =>rangeN m (F.ann.heads id) (leftN z) (roundG E1 (EV P E) ITω F id z (qsOf ops.toList ops.toList) rest) s'
        | some (.exit id s') =>some (.exit id s')
        | some (.ret r) =>some (.ret r)
        | none =>none) = some q→∃ n,(match roundG E1 (EVn P E n) (ITn n) F id z (qsOf ops.toList ops.toList) rest i (mask (F.ann.heads id) s) with
        | some (.norm s') =>rangeN n (F.ann.heads id) (leftN z) (roundG E1 (EVn P E n) (ITn n) F id z (qsOf ops.toList ops.toList) rest) s'
        | some (.exit id s') =>some (.exit id s')
        | some (.ret r) =>some (.ret r)
        | none =>none) = some q :=by
       intro i h
       cases h2:roundG E1 (EV P E) ITω F id z (qsOf ops.toList ops.toList) rest i (mask (F.ann.heads id) s) with
       | none =>simp [h2] at h
       | some u =>
        obtain ⟨n,hn⟩ :=one _ _ _ h2
        rw [h2] at h
        cases u with
        | norm s' =>
         obtain ⟨k,hk⟩ :=ih s' q h
         refine ⟨max n k,?_⟩
         rw [oneLe (Nat.le_max_left n k) hn]
         exact rangeN_mono (fun i s o ho =>oneLe (Nat.le_max_right n k) ho) k hk _ (Nat.le_max_right n k)
        | exit id' s' =>exact ⟨n,by rw [hn]; exact h⟩
        | ret r =>exact ⟨n,by rw [hn]; exact h⟩
      have mono:∀ m n i,m≤n→(match roundG E1 (EVn P E m) (ITn m) F id z (qsOf ops.toList ops.toList) rest i (mask (F.ann.heads id) s) with
        | some (.norm s') =>rangeN m (F.ann.heads id) (leftN z) (roundG E1 (EVn P E m) (ITn m) F id z (qsOf ops.toList ops.toList) rest) s'
        | some (.exit id s') =>some (.exit id s')
        | some (.ret r) =>some (.ret r)
        | none =>none) = some q→(match roundG E1 (EVn P E n) (ITn n) F id z (qsOf ops.toList ops.toList) rest i (mask (F.ann.heads id) s) with
        | some (.norm s') =>rangeN n (F.ann.heads id) (leftN z) (roundG E1 (EVn P E n) (ITn n) F id z (qsOf ops.toList ops.toList) rest) s'
        | some (.exit id s') =>some (.exit id s')
        | some (.ret r) =>some (.ret r)
        | none =>none) = some q :=by
       intro m n i hmn h
       cases h2:roundG E1 (EVn P E m) (ITn m) F id z (qsOf ops.toList ops.toList) rest i (mask (F.ann.heads id) s) with
       | none =>simp [h2] at h
       | some u =>
        rw [oneLe hmn h2]
        rw [h2] at h
        cases u with
        | norm s' =>exact rangeN_mono (fun i s o ho =>oneLe hmn ho) m h _ hmn
        | exit id' s' =>exact h
        | ret r =>exact h
      obtain ⟨n0,hn0⟩ :=each 0 h.1
      obtain ⟨n1,hn1⟩ :=all_below mono (leftN z (mask (F.ann.heads id) s)) (fun i hi =>each i (h.2 i hi))
      refine ⟨max n0 n1 + 1,?_⟩
      rw [rangeN,agree_some]
      have up:∀ {n i},n≤max n0 n1→(match roundG E1 (EVn P E n) (ITn n) F id z (qsOf ops.toList ops.toList) rest i (mask (F.ann.heads id) s) with
        | some (.norm s') =>rangeN n (F.ann.heads id) (leftN z) (roundG E1 (EVn P E n) (ITn n) F id z (qsOf ops.toList ops.toList) rest) s'
        | some (.exit id s') =>some (.exit id s')
        | some (.ret r) =>some (.ret r)
        | none =>none) = some q→(match roundG E1 (EVn P E (max n0 n1 + 1)) (ITn (max n0 n1 + 1)) F id z (qsOf ops.toList ops.toList) rest i (mask (F.ann.heads id) s) with
        | some (.norm s') =>rangeN (max n0 n1) (F.ann.heads id) (leftN z) (roundG E1 (EVn P E (max n0 n1 + 1)) (ITn (max n0 n1 + 1)) F id z (qsOf ops.toList ops.toList) rest) s'
        | some (.exit id s') =>some (.exit id s')
        | some (.ret r) =>some (.ret r)
        | none =>none) = some q :=by
       intro n i hn h
       cases h2:roundG E1 (EVn P E n) (ITn n) F id z (qsOf ops.toList ops.toList) rest i (mask (F.ann.heads id) s) with
       | none =>simp [h2] at h
       | some u =>
        rw [oneLe (Nat.le_trans hn (Nat.le_succ _)) h2]
        rw [h2] at h
        cases u with
        | norm s' =>exact rangeN_mono (fun i s o ho =>oneLe (Nat.le_trans hn (Nat.le_succ _)) ho) n h _ hn
        | exit id' s' =>exact h
        | ret r =>exact h
      exact ⟨up (Nat.le_max_left _ _) hn0,fun i hi =>up (Nat.le_max_right _ _) (hn1 i hi)⟩
    obtain ⟨n,hn⟩ :=key m s q hm
    refine ⟨n,?_⟩
    show tst _ _ none = some o
    rw [h0]
    show blockO F id ((ITn n).rg _ _ _ _) = some o
    rw [show (ITn n).rg = rangeN n from rfl,hn,← h1]
    exact hq
 | .block id .skip =>fun s o hq =>⟨0,hq⟩
 | .block id (.region k ops d) =>reach_block (evc_reach (.region k ops d)) fun _ _ _ =>rfl
 | .block id (.seq x y) =>reach_block (evc_reach (.seq x y)) fun _ _ _ =>rfl
 | .block id (.cond c x y) =>reach_block (evc_reach (.cond c x y)) fun _ _ _ =>rfl
 | .block id (.block k c) =>reach_block (evc_reach (.block k c)) fun _ _ _ =>rfl
 | .block id (.rangeFunc ..) =>fun s o hq =>⟨0,hq⟩
 | .block id (.exit k) =>fun s o hq =>⟨0,hq⟩
 | .block id (.scope k) =>fun s o hq =>⟨0,hq⟩
 | .block id (.label k) =>fun s o hq =>⟨0,hq⟩
 | .block id (.goto k) =>fun s o hq =>⟨0,hq⟩
 | .block id .ret =>fun s o hq =>⟨0,hq⟩
 | .block id (.refuse k) =>fun s o hq =>⟨0,hq⟩
 | .loop _ =>fun s o hq =>⟨0,hq⟩
 | .rangeFunc .. =>fun s o hq =>⟨0,hq⟩
 | .exit _ =>fun s o hq =>⟨0,hq⟩
 | .scope _ =>fun s o hq =>⟨0,hq⟩
 | .label _ =>fun s o hq =>⟨0,hq⟩
 | .goto _ =>fun s o hq =>⟨0,hq⟩
 | .ret =>fun s o hq =>⟨0,hq⟩
 | .refuse _ =>fun s o hq =>⟨0,hq⟩

theorem eVi {P:Program} {E:Env} {f:FuncId} {fn:Func} {c:Code} {x:List S} {r:Res} (hf:P.funcs[f]? = some fn) (hb:fn.body = some c)
  (h:finish (E.forF f) ⟨fn.results.toList,E.ann f,x⟩ (evc (E.forF f) (EV P E) ITω ⟨fn.results.toList,E.ann f,x⟩ c ⟨x.length,enterL 0 x⟩) = some r) (h0:(E.ann f).sum = 0 :=by first | rfl | assumption):EV P E f x = some r :=by
 cases h1:evc (E.forF f) (EV P E) ITω ⟨fn.results.toList,E.ann f,x⟩ c ⟨x.length,enterL 0 x⟩ with
 | none =>simp [h1,finish] at h
 | some o =>
  obtain ⟨n,hn⟩ :=evc_reach c _ _ h1
  refine EV_of (n :=n + 1) ?_
  show runF P E (EVn P E n) (ITn n) f x = some r
  unfold runF
  rw [h0]
  unfold runB
  simp only [hf,hb]
  rw [hn,← h1]
  exact h

end Go.Sx

/- What the evaluator's trees stand for in memory. -/
namespace Go.Sx

abbrev CA :=Nat × Nat
def cell (w:World) (c:CA):Option Value :=w.cell? ⟨c.1,c.2,none⟩
def gcell (w:World) (c:CA):Option (Value ⊕ Obj) :=match w.heap[c.1]? with
 | some (.cells cs _ _) =>(cs[c.2]?).map .inl
 | some o =>if c.2 = 0 then some (.inr o) else none
 | none =>none
def ungcell:Option (Value ⊕ Obj)→Option Value
 | some (.inl v) =>some v
 | _ =>none
theorem cell_g (w:World) (c:CA):cell w c = ungcell (gcell w c) :=by
 unfold cell gcell World.cell?
 simp only
 cases w.heap[c.1]? with
 | none =>rfl
 | some o =>
  cases o with
  | cells cs e f =>cases h:cs[c.2]? <;> simp [h,ungcell]
  | _ =>by_cases h:c.2 = 0 <;> simp [h,ungcell]
theorem cell_of_g {w w':World} {c d:CA} (h:gcell w' d = gcell w c):cell w' d = cell w c :=by rw [cell_g,cell_g,h]
theorem gcell_of {w:World} {c:CA} {v:Value} (h:cell w c = some v):gcell w c = some (.inl v) :=by
 rw [cell_g] at h
 cases hg:gcell w c with
 | none =>rw [hg] at h; cases h
 | some x =>
  rw [hg] at h
  cases x with
  | inl u =>simp [ungcell] at h; rw [h]
  | inr o =>cases h
theorem gcell_some {w:World} {c:CA} (h:(cell w c).isSome = true):(gcell w c).isSome = true :=by
 obtain ⟨v,hv⟩ :=Option.isSome_iff_exists.1 h
 rw [gcell_of hv]
 rfl
def fro (w:World) (c:CA):Bool :=w.frozen? ⟨c.1,c.2,none⟩
def span (c:CA):Nat→List CA
 | 0 =>[]
 | n + 1 =>c :: span (c.1,c.2 + 1) n

theorem mem_span {c d:CA}:∀ {n:Nat},d ∈ span c n↔d.1 = c.1∧c.2≤d.2∧d.2 < c.2 + n
 | 0 =>by simp [span]
 | n + 1 =>by
  obtain ⟨b,o⟩ :=c
  obtain ⟨b',o'⟩ :=d
  simp only [span,List.mem_cons,mem_span (n :=n),Prod.mk.injEq]
  omega

theorem span_nodup:∀ (c:CA) (n:Nat),(span c n).Nodup
 | _,0 =>List.nodup_nil
 | c,n + 1 =>by
  refine List.nodup_cons.2 ⟨fun h =>?_,span_nodup _ n⟩
  have :=mem_span.1 h
  simp at this
  omega

def Packs (a:Bool) (vs:List Value) (v:Value):Prop :=(a = true∧v = .agg vs.toArray)∨(a = false∧vs = [v]∧v.oneCell' = true)

theorem Packs.cells {a:Bool} {vs:List Value} {v:Value} (h:Packs a vs v):v.cells.toList = vs :=by
 rcases h with ⟨_,rfl⟩ | ⟨_,rfl,h⟩
 ·rfl
 ·cases v <;> first | rfl | (simp [Value.oneCell'] at h)

def Born (es:Array MapEntry):Prop :=∀ (i:Nat) (e:MapEntry),es[i]? = some e→e.born = i
def WalkAt (es:Array MapEntry) (seen:Array Nat) (l:List MapEntry):Nat→Prop
 | 0 =>l = es.toList.filter fun e =>!seen.contains e.born
 | 1 =>∃ (e:MapEntry) (r:List MapEntry),l = e :: r∧seen.back? = some e.born∧es[e.born]? = some e∧r = es.toList.filter fun e =>!seen.contains e.born
 | _ + 2 =>False
def MapAt (w:World) (Z:CA→Prop) (b:Nat) (l:List MapEntry):Nat→Value→Prop
 | 0,v =>v = .map (some b)∧∃ es,gcell w (b,0) = some (.inr (.map es es.size))∧Born es∧l = es.toList
 | kd + 1,v =>v = .pointer (some ⟨b,0,none⟩)∧∃ m es seen,Z (m,0)∧gcell w (m,0) = some (.inr (.map es es.size))∧Born es ∧
   gcell w (b,0) = some (.inr (.mapIter (some m) es.size seen es.size))∧WalkAt es seen l kd
theorem MapAt.oneCell {w:World} {Z:CA→Prop} {b:Nat} {l:List MapEntry} {kd:Nat} {v:Value} (h:MapAt w Z b l kd v):v.oneCell' = true :=by
 cases kd with
 | zero =>rw [h.1]; rfl
 | succ kd =>rw [h.1]; rfl
theorem MapAt.block {w w':World} {Z Z':CA→Prop} {b b':Nat} {l l':List MapEntry} {kd:Nat} {v:Value} (h:MapAt w Z b l kd v) (h':MapAt w' Z' b' l' kd v):b = b' :=by
 cases kd with
 | zero =>
  have h1 :=h.1
  rw [h'.1] at h1
  simpa using h1.symm
 | succ kd =>
  have h1 :=h.1
  rw [h'.1] at h1
  simpa using h1.symm

mutual
def RC (w:World) (Z:CA→Prop):C→Value→List CA→Prop
 | .p u,v,F =>v = u∧u.oneCell' = true∧F = []
 | .hole,v,F =>v.oneCell' = true∧F = []
 | .sl f sz rows,v,F =>∃ ad cap,v = .slice ad rows.length cap∧rows.length≤cap ∧
   ((f = .shr∧F = []∧(rows = []∨∃ b o,ad = some ⟨b,o,none⟩∧RRs w Z rows sz b o []∧∀ c ∈ span (b,o) (rows.length * sz),Z c)) ∨
    (f ≠ .shr∧((ad = none∧rows = []∧cap = 0∧F = []) ∨
     ∃ b o G,ad = some ⟨b,o,none⟩∧(RRs w Z rows sz b o G∧∀ c ∈ span (b,o) (cap * sz),(cell w c).isSome = true)∧F = span (b,o) (cap * sz) ++ G)))
 | .mp f kd ka va nk rows,v,F =>∃ b l,MapAt w Z b l kd v∧REs w Z rows ka va nk l∧((f = .shr∧F = []∧Z (b,0))∨(f ≠ .shr∧F = [(b,0)]))
def RL (w:World) (Z:CA→Prop):List C→(Nat→Option Value)→List CA→Prop
 | [],_,F =>F = []
 | c :: cs,get,F =>∃ v F1 F2,get 0 = some v∧RC w Z c v F1∧RL w Z cs (fun i =>get (i + 1)) F2∧F = F1 ++ F2
def RRs (w:World) (Z:CA→Prop):List (List C)→Nat→Nat→Nat→List CA→Prop
 | [],_,_,_,F =>F = []
 | r :: rs,sz,b,o,F =>r.length = sz∧∃ F1 F2,RL w Z r (fun i =>cell w (b,o + i)) F1∧RRs w Z rs sz b (o + sz) F2∧F = F1 ++ F2
def REs (w:World) (Z:CA→Prop):List (List C)→Bool→Bool→Nat→List MapEntry→Prop
 | [],_,_,_,es =>es = []
 | r :: rs,ka,va,nk,es =>∃ e es',es = e :: es'∧(∃ ks vs,Packs ka ks e.key∧Packs va vs e.val∧ks.length = nk∧r.length = nk + vs.length∧RL w Z r (fun i =>(ks ++ vs)[i]?) [])∧REs w Z rs ka va nk es'
end

def Same (w w':World) (F:List CA) (Z:CA→Prop):Prop :=∀ c,(c ∈ F∨Z c)→gcell w' c = gcell w c

theorem Same.left {w w':World} {F G:List CA} {Z:CA→Prop} (h:Same w w' (F ++ G) Z):Same w w' F Z :=fun c hc =>h c (hc.imp (fun h =>List.mem_append_left _ h) id)
theorem Same.right {w w':World} {F G:List CA} {Z:CA→Prop} (h:Same w w' (F ++ G) Z):Same w w' G Z :=fun c hc =>h c (hc.imp (fun h =>List.mem_append_right _ h) id)

theorem MapAt.same {w w':World} {Z Z':CA→Prop} (hZ:∀ c,Z c→Z' c) {b:Nat} {l:List MapEntry} {kd:Nat} {v:Value} (h:MapAt w Z b l kd v) (hb:gcell w' (b,0) = gcell w (b,0)) (hs:∀ c,Z c→gcell w' c = gcell w c):MapAt w' Z' b l kd v :=by
 cases kd with
 | zero =>
  obtain ⟨hv,es,h1,h2,h3⟩ :=h
  exact ⟨hv,es,by rw [hb]; exact h1,h2,h3⟩
 | succ kd =>
  obtain ⟨hv,m,es,seen,h0,h1,h2,h3,h4⟩ :=h
  exact ⟨hv,m,es,seen,hZ _ h0,by rw [hs _ h0]; exact h1,h2,by rw [hb]; exact h3,h4⟩

mutual
theorem RC.same {w w':World} {Z Z':CA→Prop} (hZ:∀ c,Z c→Z' c):∀ (x:C) {v:Value} {F:List CA},RC w Z x v F→Same w w' F Z→RC w' Z' x v F
 | .p _,_,_,h,_ =>h
 | .hole,_,_,h,_ =>h
 | .sl f sz rows,v,F,h,hs =>by
  obtain ⟨ad,cap,hv,hle,h⟩ :=h
  refine ⟨ad,cap,hv,hle,?_⟩
  rcases h with ⟨hf,hF,h⟩ | ⟨hf,h⟩
  ·refine .inl ⟨hf,hF,h.imp id ?_⟩
   rintro ⟨b,o,had,hr,hz⟩
   exact ⟨b,o,had,RRs.same hZ rows hr (fun c hc =>hs c (.inr (hc.resolve_left (by simp)))) (fun c hc =>cell_of_g (hs c (.inr (hz c hc)))),fun c hc =>hZ c (hz c hc)⟩
  ·refine .inr ⟨hf,h.imp id ?_⟩
   rintro ⟨b,o,G,had,hr,hF⟩
   subst hF
   have hcs:∀ c ∈ span (b,o) (cap * sz),cell w' c = cell w c :=fun c hc =>cell_of_g (hs c (.inl (List.mem_append_left _ hc)))
   refine ⟨b,o,G,had,⟨RRs.same hZ rows hr.1 hs.right (fun c hc =>hcs c ?_),fun c hc =>by rw [hcs c hc]; exact hr.2 c hc⟩,rfl⟩
   rw [mem_span] at hc ⊢
   exact ⟨hc.1,hc.2.1,Nat.lt_of_lt_of_le hc.2.2 (Nat.add_le_add_left (Nat.mul_le_mul_right _ hle) _)⟩
 | .mp f kd ka va nk rows,v,F,h,hs =>by
  obtain ⟨b,l,hm,he,hf⟩ :=h
  refine ⟨b,l,hm.same hZ (hs _ ?_) (fun c hc =>hs c (.inr hc)),REs.same hZ rows he (fun c hc =>hs c (.inr hc)),hf.imp (fun ⟨a,b,c⟩ =>⟨a,b,hZ _ c⟩) id⟩
  rcases hf with ⟨_,_,hz⟩ | ⟨_,hF⟩
  ·exact .inr hz
  ·exact .inl (by rw [hF]; simp)
theorem REs.same {w w':World} {Z Z':CA→Prop} (hZ:∀ c,Z c→Z' c):∀ (rows:List (List C)) {ka va:Bool} {nk:Nat} {es:List MapEntry},REs w Z rows ka va nk es→(∀ c,Z c→gcell w' c = gcell w c)→REs w' Z' rows ka va nk es
 | [],_,_,_,_,h,_ =>h
 | r :: rs,ka,va,nk,es,h,hs =>by
  obtain ⟨e,es',h1,⟨ks,vs,k1,k2,k3,k4,k5⟩,h3⟩ :=h
  exact ⟨e,es',h1,⟨ks,vs,k1,k2,k3,k4,RL.same hZ r k5 (fun c hc =>hs c (hc.resolve_left (by simp))) (fun _ _ =>rfl)⟩,REs.same hZ rs h3 hs⟩
theorem RL.same {w w':World} {Z Z':CA→Prop} (hZ:∀ c,Z c→Z' c):∀ (cs:List C) {get get':Nat→Option Value} {F:List CA},RL w Z cs get F→Same w w' F Z→(∀ i,i < cs.length→get' i = get i)→RL w' Z' cs get' F
 | [],_,_,_,h,_,_ =>h
 | c :: cs,get,get',F,h,hs,hg =>by
  obtain ⟨v,F1,F2,h0,hc,hr,hF⟩ :=h
  subst hF
  exact ⟨v,F1,F2,by rw [hg 0 (by simp)]; exact h0,RC.same hZ c hc hs.left,RL.same hZ cs hr hs.right (fun i hi =>hg (i + 1) (by simp; omega)),rfl⟩
theorem RRs.same {w w':World} {Z Z':CA→Prop} (hZ:∀ c,Z c→Z' c):∀ (rows:List (List C)) {sz b o:Nat} {F:List CA},RRs w Z rows sz b o F→Same w w' F Z →
  (∀ c ∈ span (b,o) (rows.length * sz),cell w' c = cell w c)→RRs w' Z' rows sz b o F
 | [],_,_,_,_,h,_,_ =>h
 | r :: rs,sz,b,o,F,h,hs,hc =>by
  obtain ⟨hl,F1,F2,h1,h2,hF⟩ :=h
  subst hF
  have e:(r :: rs).length * sz = sz + rs.length * sz :=by simp [Nat.add_mul,Nat.add_comm]
  refine ⟨hl,F1,F2,RL.same hZ r h1 hs.left (fun i hi =>hc _ (mem_span.2 ⟨rfl,by simp,by simp only [e]; omega⟩)),RRs.same hZ rs h2 hs.right (fun c hm =>hc c ?_),rfl⟩
  rw [mem_span] at hm ⊢
  simp only [e] at hm ⊢
  omega
end

theorem RL.get {w:World} {Z:CA→Prop}:∀ {cs:List C} {get:Nat→Option Value} {F:List CA},RL w Z cs get F→∀ {i:Nat} {c:C},cs[i]? = some c →
  ∃ v A G B,get i = some v∧RC w Z c v G∧F = A ++ G ++ B
 | [],_,_,_,i,c,h =>by simp at h
 | d :: cs,get,F,h,i,c,hi =>by
  obtain ⟨v,F1,F2,h0,hc,hr,hF⟩ :=h
  cases i with
  | zero =>
   simp at hi
   subst hi
   exact ⟨v,[],F1,F2,h0,hc,by simp [hF]⟩
  | succ i =>
   simp at hi
   obtain ⟨u,A,G,B,hg,hu,hF2⟩ :=RL.get hr hi
   exact ⟨u,F1 ++ A,G,B,hg,hu,by simp [hF,hF2]⟩

theorem RL.append {w:World} {Z:CA→Prop}:∀ {cs ds:List C} {get:Nat→Option Value} {F G:List CA},RL w Z cs get F→RL w Z ds (fun i =>get (i + cs.length)) G→RL w Z (cs ++ ds) get (F ++ G)
 | [],ds,get,F,G,h,h' =>by
  have:F = [] :=h
  subst this
  simpa using h'
 | c :: cs,ds,get,F,G,h,h' =>by
  obtain ⟨v,F1,F2,h0,hc,hr,hF⟩ :=h
  subst hF
  refine ⟨v,F1,F2 ++ G,h0,hc,RL.append hr ?_,by simp⟩
  have e:(fun i =>get (i + cs.length + 1)) = fun i =>get (i + (c :: cs).length) :=by
   funext i
   simp [Nat.add_assoc]
  rw [e]
  exact h'

theorem RL.split {w:World} {Z:CA→Prop}:∀ {cs ds:List C} {get:Nat→Option Value} {F:List CA},RL w Z (cs ++ ds) get F →
  ∃ F1 F2,RL w Z cs get F1∧RL w Z ds (fun i =>get (i + cs.length)) F2∧F = F1 ++ F2
 | [],ds,get,F,h =>⟨[],F,rfl,by simpa using h,rfl⟩
 | c :: cs,ds,get,F,h =>by
  obtain ⟨v,F1,F2,h0,hc,hr,hF⟩ :=h
  obtain ⟨G1,G2,h1,h2,hG⟩ :=RL.split hr
  refine ⟨F1 ++ G1,G2,⟨v,F1,G1,h0,hc,h1,rfl⟩,?_,by simp [hF,hG]⟩
  have e:(fun i =>get (i + cs.length + 1)) = fun i =>get (i + (c :: cs).length) :=by
   funext i
   simp [Nat.add_assoc]
  rw [← e]
  exact h2

theorem RRs.append {w:World} {Z:CA→Prop}:∀ {xs ys:List (List C)} {sz b o:Nat} {F G:List CA},RRs w Z xs sz b o F→RRs w Z ys sz b (o + xs.length * sz) G→RRs w Z (xs ++ ys) sz b o (F ++ G)
 | [],ys,sz,b,o,F,G,h,h' =>by
  have:F = [] :=h
  subst this
  simpa using h'
 | r :: xs,ys,sz,b,o,F,G,h,h' =>by
  obtain ⟨hl,F1,F2,h1,h2,hF⟩ :=h
  subst hF
  refine ⟨hl,F1,F2 ++ G,h1,RRs.append h2 ?_,by simp⟩
  have e:o + sz + xs.length * sz = o + (r :: xs).length * sz :=by simp [Nat.add_mul]; omega
  rw [e]
  exact h'

theorem RRs.split {w:World} {Z:CA→Prop}:∀ {xs ys:List (List C)} {sz b o:Nat} {F:List CA},RRs w Z (xs ++ ys) sz b o F →
  ∃ F1 F2,RRs w Z xs sz b o F1∧RRs w Z ys sz b (o + xs.length * sz) F2∧F = F1 ++ F2
 | [],ys,sz,b,o,F,h =>⟨[],F,rfl,by simpa using h,rfl⟩
 | r :: xs,ys,sz,b,o,F,h =>by
  obtain ⟨hl,F1,F2,h1,h2,hF⟩ :=h
  obtain ⟨G1,G2,h3,h4,hG⟩ :=RRs.split h2
  refine ⟨F1 ++ G1,G2,⟨hl,F1,G1,h1,h3,rfl⟩,?_,by simp [hF,hG]⟩
  have e:o + sz + xs.length * sz = o + (r :: xs).length * sz :=by simp [Nat.add_mul]; omega
  rw [← e]
  exact h4

theorem RRs.get {w:World} {Z:CA→Prop} {rows:List (List C)} {sz b o:Nat} {F:List CA} (h:RRs w Z rows sz b o F) {i:Nat} {row:List C} (hi:rows[i]? = some row) :
  row.length = sz∧∃ A G B,F = A ++ G ++ B∧RL w Z row (fun j =>cell w (b,o + i * sz + j)) G∧RRs w Z (rows.take i) sz b o A∧RRs w Z (rows.drop (i + 1)) sz b (o + i * sz + sz) B :=by
 have hlt:i < rows.length :=by
  rcases Nat.lt_or_ge i rows.length with h | h
  ·exact h
  ·simp [List.getElem?_eq_none h] at hi
 have hrow:rows = rows.take i ++ row :: rows.drop (i + 1) :=by
  have:row = rows[i] :=by simpa [List.getElem?_eq_getElem hlt] using hi.symm
  rw [this,← List.drop_eq_getElem_cons hlt]
  simp
 rw [hrow] at h
 obtain ⟨F1,F2,h1,h2,hF⟩ :=RRs.split h
 obtain ⟨hl,G1,G2,h3,h4,hG⟩ :=h2
 have e:(rows.take i).length = i :=by simp; omega
 rw [e] at h3 h4
 exact ⟨hl,F1,G1,G2,by simp [hF,hG],h3,h1,h4⟩

end Go.Sx

/- Places in a tree; what is borrowed,what is left behind. -/
namespace Go.Sx

theorem dropL_eq:∀ {n:Nat} {cs l:List C},dropL n cs = some l→∃ pre,cs = pre ++ l∧pre.length = n
 | 0,cs,l,h =>⟨[],by simp [dropL] at h; simp [h],rfl⟩
 | n + 1,[],l,h =>by simp [dropL] at h
 | n + 1,c :: cs,l,h =>by
  obtain ⟨pre,hp,hn⟩ :=dropL_eq (n :=n) (cs :=cs) h
  exact ⟨c :: pre,by simp [hp],by simp [hn]⟩

theorem takeL_eq:∀ {n:Nat} {l xs:List C},takeL n l = some xs→∃ post,l = xs ++ post∧xs.length = n
 | 0,l,xs,h =>by
  simp [takeL] at h
  subst h
  exact ⟨l,rfl,rfl⟩
 | n + 1,[],xs,h =>by simp [takeL] at h
 | n + 1,c :: l,xs,h =>by
  obtain ⟨ys,hy,he⟩ :=bE.1 h
  simp at he
  subst he
  obtain ⟨post,hp,hn⟩ :=takeL_eq hy
  exact ⟨post,by simp [hp],by simp [hn]⟩

theorem atL_eq {α:Type}:∀ {l:List α} {n:Nat} {a:α},atL l n = some a→∃ pre post,l = pre ++ a :: post∧pre.length = n
 | [],n,a,h =>by simp [atL] at h
 | b :: l,0,a,h =>by
  simp [atL] at h
  subst h
  exact ⟨[],l,rfl,rfl⟩
 | b :: l,n + 1,a,h =>by
  obtain ⟨pre,post,hp,hn⟩ :=atL_eq (l :=l) (n :=n) h
  exact ⟨b :: pre,post,by simp [hp],by simp [hn]⟩

theorem atL_getElem {α:Type}:∀ {l:List α} {n:Nat},atL l n = l[n]?
 | [],n =>by simp [atL]
 | b :: l,0 =>by simp [atL]
 | b :: l,n + 1 =>by simp [atL,atL_getElem (l :=l) (n :=n)]

theorem setL_eq {α:Type}:∀ {pre post:List α} {a b:α} {n:Nat},pre.length = n→setL (pre ++ a :: post) n b = pre ++ b :: post
 | [],post,a,b,n,h =>by
  simp at h
  subst h
  rfl
 | c :: pre,post,a,b,n,h =>by
  simp at h
  subst h
  simp [setL,setL_eq (pre :=pre) (post :=post) (a :=a) (b :=b) rfl]

theorem over_eq:∀ {n:Nat} {cs ys cs':List C},over n cs ys = some cs'→∃ pre mid post,cs = pre ++ (mid ++ post)∧pre.length = n∧mid.length = ys.length∧cs' = pre ++ (ys ++ post)
 | 0,cs,[],cs',h =>by
  simp [over] at h
  exact ⟨[],[],cs,rfl,rfl,rfl,by simp [h]⟩
 | 0,[],y :: ys,cs',h =>by simp [over] at h
 | 0,c :: cs,y :: ys,cs',h =>by
  obtain ⟨l,hl,he⟩ :=bE.1 h
  obtain ⟨pre,mid,post,h1,h2,h3,h4⟩ :=over_eq hl
  have:pre = [] :=List.eq_nil_of_length_eq_zero h2
  subst this
  simp at he
  exact ⟨[],c :: mid,post,by simp at h1; simp [h1],rfl,by simp [h3],by simp at h4; simp [← he,h4]⟩
 | n + 1,[],ys,cs',h =>by simp [over] at h
 | n + 1,c :: cs,ys,cs',h =>by
  obtain ⟨l,hl,he⟩ :=bE.1 (show bnd (over n cs ys) _ = some cs' from h)
  obtain ⟨pre,mid,post,h1,h2,h3,h4⟩ :=over_eq hl
  simp at he
  exact ⟨c :: pre,mid,post,by simp [h1],by simp [h2],h3,by simp [← he,h4]⟩

theorem getP_none {cs xs:List C} {off n:Nat} (h:getP cs off none n = some xs):∃ pre post,cs = pre ++ (xs ++ post)∧pre.length = off∧xs.length = n :=by
 obtain ⟨l,hl,hx⟩ :=bE.1 (show bnd (dropL off cs) _ = _ from h)
 obtain ⟨pre,hp,hn⟩ :=dropL_eq hl
 obtain ⟨post,hq,hm⟩ :=takeL_eq hx
 exact ⟨pre,post,by rw [hp,hq],hn,hm⟩

theorem append_cancel {pre mid post pre' mid' post':List C} (h:pre ++ (mid ++ post) = pre' ++ (mid' ++ post')) (h1:pre.length = pre'.length) (h2:mid.length = mid'.length) :
  pre = pre'∧mid = mid'∧post = post' :=by
 obtain ⟨a,b⟩ :=List.append_inj h h1
 obtain ⟨c,d⟩ :=List.append_inj b h2
 exact ⟨a,c,d⟩

theorem setP_none {cs xs ys cs' pre post:List C} {off:Nat} (hc:cs = pre ++ (xs ++ post)) (hp:pre.length = off) (hn:ys.length = xs.length)
  (h:setP cs off none ys = some cs'):cs' = pre ++ (ys ++ post) :=by
 obtain ⟨pre',mid,post',h1,h2,h3,h4⟩ :=over_eq (show over off cs ys = some cs' from h)
 rw [hc] at h1
 obtain ⟨rfl,rfl,rfl⟩ :=append_cancel h1 (by omega) (by omega)
 exact h4

theorem asSl_eq {c:C} {q:Fl × Nat × List (List C)} (h:asSl c = some q):c = .sl q.1 q.2.1 q.2.2 :=by
 cases c with
 | p v =>simp [asSl] at h
 | hole =>simp [asSl] at h
 | mp =>simp [asSl] at h
 | sl f sz rows =>
  simp [asSl] at h
  subst h
  rfl

theorem getP_some {cs xs:List C} {off i o n:Nat} (h:getP cs off (some (i,o)) n = some xs) :
  ∃ pre post f sz rows row rpre rpost,cs = pre ++ .sl f sz rows :: post∧pre.length = off∧rows[i]? = some row∧row = rpre ++ (xs ++ rpost)∧rpre.length = o∧xs.length = n :=by
 obtain ⟨c,hc,h⟩ :=bE.1 (show bnd (atL cs off) _ = _ from h)
 obtain ⟨q,hq,h⟩ :=bE.1 h
 obtain ⟨row,hr,h⟩ :=bE.1 h
 obtain ⟨l,hl,hx⟩ :=bE.1 h
 obtain ⟨pre,post,h1,h2⟩ :=atL_eq hc
 obtain ⟨rpre,h3,h4⟩ :=dropL_eq hl
 obtain ⟨rpost,h5,h6⟩ :=takeL_eq hx
 rw [asSl_eq hq] at h1
 exact ⟨pre,post,q.1,q.2.1,q.2.2,row,rpre,rpost,h1,h2,hr,by rw [h3,h5],h4,h6⟩

theorem setP_some {cs xs ys cs' pre post rpre rpost row:List C} {off i o sz:Nat} {f:Fl} {rows:List (List C)} (hc:cs = pre ++ .sl f sz rows :: post) (hp:pre.length = off)
  (hr:rows[i]? = some row) (hrow:row = rpre ++ (xs ++ rpost)) (ho:rpre.length = o) (hn:ys.length = xs.length)
  (h:setP cs off (some (i,o)) ys = some cs'):f ≠ .shr∧cs' = pre ++ .sl f sz (rows.set i (rpre ++ (ys ++ rpost))) :: post :=by
 obtain ⟨c,hc',h⟩ :=bE.1 (show bnd (atL cs off) _ = _ from h)
 obtain ⟨q,hq,h⟩ :=bE.1 h
 obtain ⟨row',hr',h⟩ :=bE.1 h
 have hcc:c = .sl f sz rows :=by
  rw [atL_getElem,hc,List.getElem?_append_right (by omega),hp] at hc'
  simpa using hc'.symm
 rw [hcc] at hq
 simp [asSl] at hq
 subst hq
 rw [hr] at hr'
 simp at hr'
 subst hr'
 rcases tE.1 h with ⟨hs,h⟩ | ⟨hs,h⟩
 ·exact absurd h (by simp)
 ·obtain ⟨row2,h2,h⟩ :=bE.1 h
  obtain ⟨pre',mid,post',h1,h2',h3,h4⟩ :=over_eq h2
  rw [hrow] at h1
  obtain ⟨rfl,rfl,rfl⟩ :=append_cancel h1 (by omega) (by omega)
  simp at h
  refine ⟨fun e =>?_,?_⟩
  ·subst e
   simp [Fl.isShr] at hs
  ·rw [← h,hc,setL_eq hp,h4]

/-! ### What is left,what is borrowed -/

theorem left_length:∀ (cs:List C),(leftRow cs).length = cs.length
 | [] =>rfl
 | _ :: cs =>by simp [leftRow,left_length cs]
theorem borRow_length:∀ (cs:List C),(borRow cs).length = cs.length
 | [] =>rfl
 | _ :: cs =>by simp [borRow,borRow_length cs]
theorem borRows_length:∀ (cs:List (List C)),(borRows cs).length = cs.length
 | [] =>rfl
 | _ :: cs =>by simp [borRows,borRows_length cs]

theorem RC.left {w:World} {Z:CA→Prop} {x:C} {v:Value} {F:List CA} (h:RC w Z x v F):RC w Z x.left v [] :=by
 cases x with
 | p u =>exact ⟨h.1,h.2.1,rfl⟩
 | hole =>exact ⟨h.1,rfl⟩
 | mp f it ka va nk rows =>
  obtain ⟨b,l,hm,he,hf⟩ :=h
  have ho :=hm.oneCell
  cases f with
  | shr =>
   rcases hf with ⟨_,_,h⟩ | ⟨hf,_⟩
   ·exact ⟨b,l,hm,he,.inl ⟨rfl,rfl,h⟩⟩
   ·exact absurd rfl hf
  | own =>exact ⟨ho,rfl⟩
  | lent =>exact ⟨ho,rfl⟩
 | sl f sz rows =>
  obtain ⟨ad,cap,hv,hle,h⟩ :=h
  cases f with
  | shr =>
   rcases h with ⟨_,_,h⟩ | ⟨hf,_⟩
   ·exact ⟨ad,cap,hv,hle,.inl ⟨rfl,rfl,h⟩⟩
   ·exact absurd rfl hf
  | own =>exact ⟨by rw [hv]; rfl,rfl⟩
  | lent =>exact ⟨by rw [hv]; rfl,rfl⟩

theorem RL.left {w:World} {Z:CA→Prop}:∀ {cs:List C} {get:Nat→Option Value} {F:List CA},RL w Z cs get F→RL w Z (leftRow cs) get []
 | [],_,_,_ =>rfl
 | c :: cs,get,F,h =>by
  obtain ⟨v,F1,F2,h0,hc,hr,hF⟩ :=h
  exact ⟨v,[],[],h0,hc.left,RL.left hr,rfl⟩

class LvOk (lv:El→List C→List C):Prop where
 len:∀ el cs,(lv el cs).length = cs.length
 rl:∀ {w:World} {Z:CA→Prop} {cs:List C} {get:Nat→Option Value} {F:List CA} (el:El),RL w Z cs get F→RL w Z (lv el cs) get []
instance:LvOk leaveL :=⟨fun _ =>left_length,fun _ h =>RL.left h⟩

theorem rrs_ghost (w:World) (Z:CA→Prop) (b:Nat):∀ (n o:Nat),RRs w Z (List.replicate n []) 0 b o []
 | 0,_ =>rfl
 | n + 1,o =>⟨rfl,[],[],rfl,rrs_ghost w Z b n (o + 0),rfl⟩
theorem RC.ghost {w:World} {Z:CA→Prop} {x:C} {v:Value} {F:List CA} (h:RC w Z x v F):RC w Z x.ghost v [] :=by
 cases x with
 | p u =>exact ⟨h.1,h.2.1,rfl⟩
 | hole =>exact ⟨h.1,rfl⟩
 | mp f it ka va nk rows =>exact RC.left h
 | sl f sz rows =>
  cases f with
  | shr =>exact RC.left h
  | own =>
   obtain ⟨ad,cap,hv,hle,h⟩ :=h
   refine ⟨ad,cap,by rw [List.length_replicate]; exact hv,by rw [List.length_replicate]; exact hle,.inl ⟨rfl,rfl,?_⟩⟩
   rcases (h.resolve_left fun h =>by cases h.1).2 with ⟨_,hr,_⟩ | ⟨b,o,G,had,_,_⟩
   ·left; rw [hr]; rfl
   ·right
    exact ⟨b,o,had,rrs_ghost w Z b _ o,fun c hc =>by rw [Nat.mul_zero] at hc; cases hc⟩
  | lent =>
   obtain ⟨ad,cap,hv,hle,h⟩ :=h
   refine ⟨ad,cap,by rw [List.length_replicate]; exact hv,by rw [List.length_replicate]; exact hle,.inl ⟨rfl,rfl,?_⟩⟩
   rcases (h.resolve_left fun h =>by cases h.1).2 with ⟨_,hr,_⟩ | ⟨b,o,G,had,_,_⟩
   ·left; rw [hr]; rfl
   ·right
    exact ⟨b,o,had,rrs_ghost w Z b _ o,fun c hc =>by rw [Nat.mul_zero] at hc; cases hc⟩
theorem ghost_length:∀ (cs:List C),(ghostRow cs).length = cs.length
 | [] =>rfl
 | _ :: cs =>by simp [ghostRow,ghost_length cs]
theorem RL.ghost {w:World} {Z:CA→Prop}:∀ {cs:List C} {get:Nat→Option Value} {F:List CA},RL w Z cs get F→RL w Z (ghostRow cs) get []
 | [],_,_,_ =>rfl
 | c :: cs,get,F,h =>by
  obtain ⟨v,F1,F2,h0,hc,hr,hF⟩ :=h
  exact ⟨v,[],[],h0,hc.ghost,RL.ghost hr,rfl⟩
instance:LvOk leaveG :=⟨fun el cs =>(by cases el with
 | none =>exact ghost_length cs
 | some _ =>exact left_length cs),fun el h =>(by cases el with
 | none =>exact RL.ghost h
 | some _ =>exact RL.left h)⟩

mutual
theorem RC.bor {w:World} {Z Z':CA→Prop} (hZ:∀ c,Z c→Z' c):∀ (x:C) {v:Value} {F:List CA},RC w Z x v F→(∀ c ∈ F,Z' c)→RC w Z' x.bor v []
 | .p _,_,_,h,_ =>⟨h.1,h.2.1,rfl⟩
 | .hole,_,_,h,_ =>⟨h.1,rfl⟩
 | .mp f it ka va nk rows,v,F,h,hF =>by
  obtain ⟨b,l,hm,he,hf⟩ :=h
  refine ⟨b,l,hm.same hZ rfl (fun _ _ =>rfl),REs.same hZ rows he (fun _ _ =>rfl),.inl ⟨rfl,rfl,?_⟩⟩
  rcases hf with ⟨_,_,hz⟩ | ⟨_,hFe⟩
  ·exact hZ _ hz
  ·exact hF _ (by rw [hFe]; simp)
 | .sl f sz rows,v,F,h,hF =>by
  obtain ⟨ad,cap,hv,hle,h⟩ :=h
  rcases h with ⟨hf,hF',h⟩ | ⟨hf,h⟩
  ·subst hf
   refine ⟨ad,cap,hv,hle,.inl ⟨rfl,rfl,h.imp id ?_⟩⟩
   rintro ⟨b,o,had,hr,hz⟩
   exact ⟨b,o,had,RRs.same (w' :=w) hZ rows hr (fun _ _ =>rfl) (fun _ _ =>rfl),fun c hc =>hZ c (hz c hc)⟩
  ·have e:C.bor (.sl f sz rows) = .sl .shr sz (borRows rows) :=by
    cases f
    ·exact absurd rfl hf
    ·rfl
    ·rfl
   rw [e]
   refine ⟨ad,cap,by rw [borRows_length]; exact hv,by rw [borRows_length]; exact hle,.inl ⟨rfl,rfl,?_⟩⟩
   rcases h with ⟨_,hr,_,_⟩ | ⟨b,o,G,had,hr,hG⟩
   ·left
    rw [hr]
    rfl
   ·right
    subst hG
    refine ⟨b,o,had,RRs.bor hZ rows hr.1 (fun c hc =>hF c (List.mem_append_right _ hc)),fun c hc =>hF c (List.mem_append_left _ ?_)⟩
    rw [mem_span] at hc ⊢
    rw [borRows_length] at hc
    exact ⟨hc.1,hc.2.1,Nat.lt_of_lt_of_le hc.2.2 (Nat.add_le_add_left (Nat.mul_le_mul_right _ hle) _)⟩
theorem RL.bor {w:World} {Z Z':CA→Prop} (hZ:∀ c,Z c→Z' c):∀ (cs:List C) {get:Nat→Option Value} {F:List CA},RL w Z cs get F→(∀ c ∈ F,Z' c)→RL w Z' (borRow cs) get []
 | [],_,_,_,_ =>rfl
 | c :: cs,get,F,h,hF =>by
  obtain ⟨v,F1,F2,h0,hc,hr,hF'⟩ :=h
  subst hF'
  exact ⟨v,[],[],h0,RC.bor hZ c hc (fun c hc =>hF c (List.mem_append_left _ hc)),RL.bor hZ cs hr (fun c hc =>hF c (List.mem_append_right _ hc)),rfl⟩
theorem RRs.bor {w:World} {Z Z':CA→Prop} (hZ:∀ c,Z c→Z' c):∀ (rows:List (List C)) {sz b o:Nat} {F:List CA},RRs w Z rows sz b o F→(∀ c ∈ F,Z' c)→RRs w Z' (borRows rows) sz b o []
 | [],_,_,_,_,_,_ =>rfl
 | r :: rs,sz,b,o,F,h,hF =>by
  obtain ⟨hl,F1,F2,h1,h2,hF'⟩ :=h
  subst hF'
  exact ⟨by rw [borRow_length]; exact hl,[],[],RL.bor hZ r h1 (fun c hc =>hF c (List.mem_append_left _ hc)),RRs.bor hZ rs h2 (fun c hc =>hF c (List.mem_append_right _ hc)),rfl⟩
end

theorem RC.free {w:World} {Z:CA→Prop} {x:C} {v:Value} {F:List CA} (h:RC w Z x v F) (hf:x.free = true):F = [] :=by
 cases x with
 | p u =>exact h.2.2
 | hole =>exact h.2
 | mp f it ka va nk rows =>
  obtain ⟨b,l,hm,he,hs⟩ :=h
  rcases hs with ⟨_,hF,_⟩ | ⟨hn,_⟩
  ·exact hF
  ·cases f <;> first | exact absurd rfl hn | simp [C.free,Fl.isShr] at hf
 | sl f sz rows =>
  obtain ⟨ad,cap,hv,hle,h⟩ :=h
  cases f with
  | shr =>
   rcases h with ⟨_,hF,_⟩ | ⟨hf,_⟩
   ·exact hF
   ·exact absurd rfl hf
  | own =>simp [C.free,Fl.isShr] at hf
  | lent =>simp [C.free,Fl.isShr] at hf

theorem RL.free {w:World} {Z:CA→Prop}:∀ {cs:List C} {get:Nat→Option Value} {F:List CA},RL w Z cs get F→allFree cs = true→F = []
 | [],_,_,h,_ =>h
 | c :: cs,get,F,h,hf =>by
  obtain ⟨v,F1,F2,h0,hc,hr,hF⟩ :=h
  simp [allFree] at hf
  rw [hF,hc.free hf.1,RL.free hr hf.2]
  rfl

theorem RL.idle {w:World} {Z:CA→Prop}:∀ {cs:List C} {get:Nat→Option Value} {F:List CA},RL w Z cs get F→allIdle cs = true→F = []
 | [],_,_,h,_ =>h
 | c :: cs,get,F,h,hf =>by
  obtain ⟨v,F1,F2,h0,hc,hr,hF⟩ :=h
  simp [allIdle] at hf
  have:F1 = [] :=by
   cases c with
   | p u =>exact hc.2.2
   | hole =>exact hc.2
   | mp f it ka va nk rows =>exact RC.free hc hf.1
   | sl f sz rows =>exact RC.free hc hf.1
  rw [hF,this,RL.idle hr hf.2]
  rfl

mutual
theorem RC.mine {w:World} {Z Z':CA→Prop}:∀ (x:C) {v:Value} {F:List CA},RC w Z x v F→x.mine = true→RC w Z' x v F
 | .p _,_,_,h,_ =>h
 | .hole,_,_,_,hm =>by simp [C.mine] at hm
 | .mp ..,_,_,_,hm =>by simp [C.mine] at hm
 | .sl f sz rows,v,F,h,hm =>by
  obtain ⟨ad,cap,hv,hle,h⟩ :=h
  simp [C.mine] at hm
  refine ⟨ad,cap,hv,hle,?_⟩
  rcases h with ⟨hf,_⟩ | ⟨hf,h⟩
  ·subst hf
   simp [Fl.isOwn] at hm
  ·refine .inr ⟨hf,h.imp id ?_⟩
   rintro ⟨b,o,G,had,hr,hG⟩
   exact ⟨b,o,G,had,⟨RRs.mine rows hr.1 hm.2,hr.2⟩,hG⟩
theorem RL.mine {w:World} {Z Z':CA→Prop}:∀ (cs:List C) {get:Nat→Option Value} {F:List CA},RL w Z cs get F→mineRow cs = true→RL w Z' cs get F
 | [],_,_,h,_ =>h
 | c :: cs,get,F,h,hm =>by
  obtain ⟨v,F1,F2,h0,hc,hr,hF⟩ :=h
  simp [mineRow] at hm
  exact ⟨v,F1,F2,h0,RC.mine c hc hm.1,RL.mine cs hr hm.2,hF⟩
theorem RRs.mine {w:World} {Z Z':CA→Prop}:∀ (rows:List (List C)) {sz b o:Nat} {F:List CA},RRs w Z rows sz b o F→mineRows rows = true→RRs w Z' rows sz b o F
 | [],_,_,_,_,h,_ =>h
 | r :: rs,sz,b,o,F,h,hm =>by
  obtain ⟨hl,F1,F2,h1,h2,hF⟩ :=h
  simp [mineRows] at hm
  exact ⟨hl,F1,F2,RL.mine r h1 hm.1,RRs.mine rs h2 hm.2,hF⟩
end

theorem RC.oneCell {w:World} {Z:CA→Prop} {x:C} {v:Value} {F:List CA} (h:RC w Z x v F):v.oneCell' = true :=by
 cases x with
 | p u =>exact h.1 ▸ h.2.1
 | hole =>exact h.1
 | mp f it ka va nk rows =>
  obtain ⟨b,l,hm,_⟩ :=h
  exact hm.oneCell
 | sl f sz rows =>
  obtain ⟨ad,cap,hv,hle,h⟩ :=h
  rw [hv]
  rfl

theorem RL.holes {w:World} {Z:CA→Prop}:∀ {cs:List C} {get:Nat→Option Value} {F:List CA},RL w Z cs get F→RL w Z (holesOf cs) get []
 | [],_,_,_ =>rfl
 | c :: cs,get,F,h =>by
  obtain ⟨v,F1,F2,h0,hc,hr,hF⟩ :=h
  exact ⟨v,[],[],h0,⟨hc.oneCell,rfl⟩,RL.holes hr,rfl⟩
theorem holes_length:∀ (cs:List C),(holesOf cs).length = cs.length
 | [] =>rfl
 | _ :: cs =>by simp [holesOf,holes_length cs]
end Go.Sx

/- A frame and the world behind it. -/
namespace Go.Sx

def TR (w:World) (Z:CA→Prop):List (Bool × List C)→List Value→List CA→Prop
 | [],[],F =>F = []
 | z :: r,u :: us,F =>∃ vs F1 F2,Packs z.1 vs u∧vs.length = z.2.length∧RL w Z z.2 (fun i =>vs[i]?) F1∧TR w Z r us F2∧F = F1 ++ F2
 | [],_ :: _,_ =>False
 | _ :: _,[],_ =>False

def CapR (w:World) (Z:CA→Prop):List (List C)→List Value→Prop
 | [],[] =>True
 | cs :: r,u :: us =>(∃ b o,u = .pointer (some ⟨b,o,none⟩)∧RL w Z cs (fun i =>cell w (b,o + i)) []∧∀ c ∈ span (b,o) cs.length,Z c)∧CapR w Z r us
 | [],_ :: _ =>False
 | _ :: _,[] =>False

def rget (w:World) (x:S) (tv:Value):Nat→Option Value :=
 match x with
 | .val .. =>fun i =>tv.cells.toList[i]?
 | .box .. =>fun i =>match tv with
  | .pointer (some a) =>cell w (a.block,a.off + i)
  | _ =>none
 | .fz .. =>fun i =>match tv with
  | .pointer (some a) =>cell w (a.block,a.off + i)
  | _ =>none
 | _ =>fun _ =>none

def pget (w:World) (get:Nat→Option Value) (cs:List C) (off:Nat) (el:El):Nat→Option Value :=
 match el with
 | none =>fun j =>get (off + j)
 | some (i,o) =>fun j =>match get off,cs[off]? with
  | some (.slice (some a) _ _),some (.sl _ sz _) =>cell w (a.block,a.off + i * sz + o + j)
  | _,_ =>none

def cutV (lo k sz:Nat) (v:Value):Value :=
 match v with
 | .slice ad _ cap =>.slice (if cap = lo then ad else ad.map (·.add (lo * sz))) k (cap - lo)
 | v =>v

def LnkTo (w:World) (get:Nat→Option Value) (cs:List C) (off n:Nat) (a:Bool) (el win:El) (v:Value):Prop :=
 (∃ xs,getP cs off el n = some xs)∧∃ vs,vs.length = n∧(∀ j,j < n→pget w get cs off el j = vs[j]?)∧(match win with
  | none =>Packs a vs v
  | some (lo,k) =>a = false∧∃ u f sz rows,vs = [u]∧getP cs off el 1 = some [.sl f sz rows]∧lo + k≤rows.length∧v = cutV lo k sz u)

def PtrTo (get:Nat→Option Value) (cs:List C) (tv:Value) (off:Nat) (el:El) (v:Value):Prop :=
 match el with
 | none =>∃ b o,tv = .pointer (some ⟨b,o,none⟩)∧v = .pointer (some ⟨b,o + off,none⟩)
 | some (i,o') =>∃ b o len cap f sz rows,get off = some (.slice (some ⟨b,o,none⟩) len cap)∧cs[off]? = some (.sl f sz rows)∧v = .pointer (some ⟨b,o + i * sz + o',none⟩)

def Rep (w:World) (Z:CA→Prop) (l:List (Tmp × S)) (tm:Tmp→Value) (v:Value) (F:List CA):S→Prop
 | .val _ a cs =>∃ vs,Packs a vs v∧vs.length = cs.length∧RL w Z cs (fun i =>vs[i]?) F
 | .box _ _ cs =>∃ b o G,v = .pointer (some ⟨b,o,none⟩)∧RL w Z cs (fun i =>cell w (b,o + i)) G∧F = span (b,o) cs.length ++ G
 | .fz _ cs =>∃ b o,v = .pointer (some ⟨b,o,none⟩)∧RL w Z cs (fun i =>cell w (b,o + i)) F∧∀ c ∈ span (b,o) cs.length,Z c
 | .lnk r h off n a el win =>F = []∧∀ cs,(look l r).rootL h = some cs→LnkTo w (rget w (look l r) (tm r)) cs off n a el win v
 | .ptr r g off el =>F = []∧∀ cs,(look l r).rootR g el = some cs→PtrTo (rget w (look l r) (tm r)) cs (tm r) off el v
 | .rp cs =>F = []∧∃ b o,v = .pointer (some ⟨b,o,none⟩)∧RL w Z cs (fun i =>cell w (b,o + i)) []∧∀ c ∈ span (b,o) cs.length,Z c
 | .fn f caps =>F = []∧∃ us,v = .func (.func f) #[] us.toArray∧CapR w Z caps us
 | .tup vs =>∃ us,v = .tuple us.toArray∧TR w Z vs us F
 | .dead =>F = []

def S.stampsLt (n:Nat):S→Prop
 | .val g _ _ =>g < n
 | .box g h _ =>g < n∧h < n
 | .fz g _ =>g < n
 | .lnk _ h _ _ _ _ _ =>h < n
 | .ptr _ g _ _ =>g < n
 | .rp _ =>True
 | .fn .. =>True
 | .tup _ =>True
 | .dead =>True

def Mine (w:World) (Z:CA→Prop) (c:CA):Prop :=(gcell w c).isSome = true∧fro w c = false∧¬ Z c

structure Inv (w:World) (Z:CA→Prop) (tm:Tmp→Value) (s:St) (fp:Tmp→List CA):Prop where
 rep:∀ t,Rep w Z s.sl tm (tm t) (fp t) (look s.sl t)
 nd:∀ t,(fp t).Nodup
 disj:∀ t u,t ≠ u→∀ c ∈ fp t,c ∉ fp u
 mine:∀ t,∀ c ∈ fp t,Mine w Z c
 zok:∀ c,Z c→(gcell w c).isSome = true
 stamps:∀ t,(look s.sl t).stampsLt s.cnt

theorem Rep.root {w:World} {Z:CA→Prop} {l:List (Tmp × S)} {tm:Tmp→Value} {v:Value} {F:List CA} {x:S} {cs:List C} (h:Rep w Z l tm v F x) (hr:x.root = some cs) :
  ∃ G,RL w Z cs (rget w x v) G∧(F = G∨∃ b o,v = .pointer (some ⟨b,o,none⟩)∧F = span (b,o) cs.length ++ G) :=by
 cases x with
 | val g a ds =>
  simp [S.root] at hr
  subst hr
  obtain ⟨vs,hp,hl,h⟩ :=h
  refine ⟨F,?_,.inl rfl⟩
  have e:rget w (.val g a ds) v = fun i =>vs[i]? :=by
   funext i
   simp only [rget,hp.cells]
  rw [e]
  exact h
 | box g k ds =>
  simp [S.root] at hr
  subst hr
  obtain ⟨b,o,G,hv,h,hF⟩ :=h
  refine ⟨G,?_,.inr ⟨b,o,hv,hF⟩⟩
  have e:rget w (.box g k ds) v = fun i =>cell w (b,o + i) :=by
   funext i
   simp only [rget,hv]
  rw [e]
  exact h
 | fz g ds =>
  simp [S.root] at hr
  subst hr
  obtain ⟨b,o,hv,h,hz⟩ :=h
  refine ⟨F,?_,.inl rfl⟩
  have e:rget w (.fz g ds) v = fun i =>cell w (b,o + i) :=by
   funext i
   simp only [rget,hv]
  rw [e]
  exact h
 | _ =>simp [S.root] at hr

theorem rootL_root {x:S} {h:Nat} {cs:List C} (e:x.rootL h = some cs):x.root = some cs∧x.linkStamp = h :=by
 cases x with
 | val g a ds =>
  simp only [S.rootL] at e
  split at e
  ·exact ⟨e,by assumption⟩
  ·cases e
 | box g k ds =>
  simp only [S.rootL] at e
  split at e
  ·exact ⟨e,by assumption⟩
  ·cases e
 | fz g ds =>
  simp only [S.rootL] at e
  split at e
  ·exact ⟨e,by assumption⟩
  ·cases e
 | _ =>simp [S.rootL] at e

theorem rootP_root {x:S} {g:Nat} {el:El} {cs:List C} (e:x.rootP g el = some cs):x.root = some cs :=by
 cases x with
 | val h a ds =>
  cases el with
  | none =>simp [S.rootP] at e
  | some q =>
   simp only [S.rootP] at e
   split at e
   ·exact e
   ·cases e
 | box k h ds =>
  cases el with
  | none =>
   simp only [S.rootP] at e
   split at e
   ·exact e
   ·cases e
  | some q =>
   simp only [S.rootP] at e
   split at e
   ·exact e
   ·cases e
 | fz h ds =>
  cases el with
  | none =>simp [S.rootP] at e
  | some q =>
   simp only [S.rootP] at e
   split at e
   ·exact e
   ·cases e
 | _ =>simp [S.rootP] at e

theorem rootP_R {x:S} {g:Nat} {el:El} {cs:List C} (e:x.rootP g el = some cs):x.rootR g el = some cs :=by
 cases x with
 | val h a ds =>exact e
 | box k h ds =>exact e
 | fz h ds =>
  cases el with
  | none =>simp [S.rootP] at e
  | some q =>exact e
 | _ =>simp [S.rootP] at e
theorem rootR_root {x:S} {g:Nat} {el:El} {cs:List C} (e:x.rootR g el = some cs):x.root = some cs :=by
 cases x with
 | val h a ds =>exact rootP_root (x :=.val h a ds) e
 | box k h ds =>exact rootP_root (x :=.box k h ds) e
 | fz h ds =>
  simp only [S.rootR] at e
  split at e
  ·exact e
  ·cases e
 | _ =>simp [S.rootR] at e

theorem rget_with {w:World} {x:S} {tv:Value} {c:Nat} {cs:List C}:rget w (x.withCells c cs) tv = rget w x tv :=by
 cases x <;> rfl

theorem place_read {w:World} {Z:CA→Prop} {cs xs:List C} {get:Nat→Option Value} {G:List CA} {off n:Nat} {el:El} (h:RL w Z cs get G) (hg:getP cs off el n = some xs) :
  xs.length = n∧∃ A Fx B,G = A ++ Fx ++ B∧RL w Z xs (pget w get cs off el) Fx :=by
 cases el with
 | none =>
  obtain ⟨pre,post,hc,hp,hn⟩ :=getP_none hg
  subst hc
  obtain ⟨F1,F2,h1,h2,hF⟩ :=RL.split h
  obtain ⟨F3,F4,h3,h4,hF2⟩ :=RL.split h2
  refine ⟨hn,F1,F3,F4,by simp [hF,hF2],?_⟩
  have e:pget w get (pre ++ (xs ++ post)) off none = fun i =>get (i + pre.length) :=by
   funext j
   simp [pget,hp,Nat.add_comm]
  rw [e]
  exact h3
 | some q =>
  obtain ⟨i,o⟩ :=q
  obtain ⟨pre,post,f,sz,rows,row,rpre,rpost,hc,hp,hr,hrow,ho,hn⟩ :=getP_some hg
  have hat:cs[off]? = some (.sl f sz rows) :=by rw [hc,List.getElem?_append_right (by omega),hp]; simp
  obtain ⟨v,A,G',B,hv,hrc,hG⟩ :=RL.get h hat
  obtain ⟨ad,cap,hv2,hle,hs⟩ :=hrc
  have hrows:rows ≠ [] :=by
   intro e
   simp [e] at hr
  have key:∀ {b o':Nat} {H:List CA},ad = some ⟨b,o',none⟩→RRs w Z rows sz b o' H→∃ A1 Fx B1,H = A1 ++ Fx ++ B1∧RL w Z xs (pget w get cs off (some (i,o))) Fx :=by
   intro b o' H had hrr
   obtain ⟨hl,A1,G1,B1,hH,hrl,_,_⟩ :=RRs.get hrr hr
   rw [hrow] at hrl
   obtain ⟨F1,F2,h1,h2,hF⟩ :=RL.split hrl
   obtain ⟨F3,F4,h3,h4,hF2⟩ :=RL.split h2
   refine ⟨A1 ++ F1,F3,F4 ++ B1,by simp [hH,hF,hF2],?_⟩
   have e:pget w get cs off (some (i,o)) = fun j =>cell w (b,o' + i * sz + (j + rpre.length)) :=by
    funext j
    simp only [pget,hv,hv2,hat,had,ho]
    congr 2
    omega
   rw [e]
   exact h3
  refine ⟨hn,?_⟩
  rcases hs with ⟨_,hF,hs⟩ | ⟨_,hs⟩
  ·rcases hs with hs | ⟨b,o',had,hrr,_⟩
   ·exact absurd hs hrows
   ·obtain ⟨A1,Fx,B1,hH,hrl⟩ :=key had hrr
    exact ⟨A ++ A1,Fx,B1 ++ B,by rw [hG,hF,hH]; simp,hrl⟩
  ·rcases hs with ⟨_,hs,_⟩ | ⟨b,o',H,had,⟨hrr,_⟩,hF⟩
   ·exact absurd hs hrows
   ·obtain ⟨A1,Fx,B1,hH,hrl⟩ :=key had hrr
    exact ⟨A ++ (span (b,o') (cap * sz) ++ A1),Fx,B1 ++ B,by rw [hG,hF,hH]; simp,hrl⟩

theorem pget_same {w w':World} {Z:CA→Prop} {cs xs:List C} {get get':Nat→Option Value} {G:List CA} {off n:Nat} {el:El} (h:RL w Z cs get G) (hg:getP cs off el n = some xs)
  (hs:Same w w' G Z) (hget:∀ i,i < cs.length→get' i = get i):∀ j,j < n→pget w' get' cs off el j = pget w get cs off el j :=by
 intro j hj
 cases el with
 | none =>
  obtain ⟨pre,post,hc,hp,hn⟩ :=getP_none hg
  simp only [pget]
  exact hget _ (by rw [hc]; simp; omega)
 | some q =>
  obtain ⟨i,o⟩ :=q
  obtain ⟨pre,post,f,sz,rows,row,rpre,rpost,hc,hp,hr,hrow,ho,hn⟩ :=getP_some hg
  have hat:cs[off]? = some (.sl f sz rows) :=by rw [hc,List.getElem?_append_right (by omega),hp]; simp
  obtain ⟨v,A,G',B,hv,hrc,hG⟩ :=RL.get h hat
  obtain ⟨ad,cap,hv2,hle,hs2⟩ :=hrc
  have hrows:rows ≠ [] :=by
   intro e
   simp [e] at hr
  have hlt:i < rows.length :=by
   rcases Nat.lt_or_ge i rows.length with h | h
   ·exact h
   ·simp [List.getElem?_eq_none h] at hr
  have hoff:get' off = get off :=hget off (by rw [hc]; simp; omega)
  simp only [pget,hoff,hv,hv2,hat]
  have inside:∀ {b o' m:Nat},row.length = sz→rows.length≤m→(b,o' + i * sz + o + j) ∈ span (b,o') (m * sz) :=by
   intro b o' m hl hm
   rw [mem_span]
   refine ⟨rfl,by simp; omega,?_⟩
   have h1:(i + 1) * sz≤m * sz :=Nat.mul_le_mul_right _ (by omega)
   have h2:o + j < sz :=by rw [← hl,hrow]; simp; omega
   have h3:(i + 1) * sz = i * sz + sz :=by rw [Nat.add_mul,Nat.one_mul]
   show o' + i * sz + o + j < o' + m * sz
   omega
  cases ad with
  | none =>rfl
  | some a =>
   rcases hs2 with ⟨_,hF,hs2⟩ | ⟨_,hs2⟩
   ·rcases hs2 with hs2 | ⟨b,o',had,hrr,hz⟩
    ·exact absurd hs2 hrows
    ·cases had
     exact cell_of_g (hs _ (.inr (hz _ (inside (RRs.get hrr hr).1 (Nat.le_refl _)))))
   ·rcases hs2 with ⟨had,_⟩ | ⟨b,o',H,had,⟨hrr,_⟩,hF⟩
    ·cases had
    ·cases had
     refine cell_of_g (hs _ (.inl ?_))
     rw [hG,hF]
     exact List.mem_append_left _ (List.mem_append_right _ (List.mem_append_left _ (inside (RRs.get hrr hr).1 hle)))
end Go.Sx

/- Cells replaced; a frame that goes on. -/
namespace Go.Sx

theorem nodup_mid {A S B:List CA} (h:(A ++ S ++ B).Nodup) {c:CA} (hc:c ∈ S):c ∉ A∧c ∉ B :=by
 rw [List.append_assoc,List.nodup_append] at h
 obtain ⟨_,h2,h3⟩ :=h
 rw [List.nodup_append] at h2
 exact ⟨fun ha =>h3 c ha c (List.mem_append_left _ hc) rfl,fun hb =>h2.2.2 c hc c hb rfl⟩

theorem place_set_none {w:World} {Z:CA→Prop} {cs xs:List C} {get:Nat→Option Value} {G:List CA} {off n:Nat} (h:RL w Z cs get G) (hg:getP cs off none n = some xs) :
  ∃ A Fx B,G = A ++ Fx ++ B∧RL w Z xs (fun j =>get (off + j)) Fx ∧
   ∀ (w':World) (Z':CA→Prop) (get':Nat→Option Value) (ys:List C) (Fy:List CA) (cs':List C),(∀ c,Z c→Z' c)→Same w w' (A ++ B) Z →
    (∀ i,i < cs.length→(i < off∨off + n≤i)→get' i = get i)→ys.length = n→RL w' Z' ys (fun j =>get' (off + j)) Fy→setP cs off none ys = some cs' →
     RL w' Z' cs' get' (A ++ Fy ++ B)∧cs'.length = cs.length :=by
 obtain ⟨pre,post,hc,hp,hn⟩ :=getP_none hg
 subst hc
 obtain ⟨F1,F2,h1,h2,hF⟩ :=RL.split h
 obtain ⟨F3,F4,h3,h4,hF2⟩ :=RL.split h2
 have e3:(fun i =>get (i + pre.length)) = fun j =>get (off + j) :=by
  funext j
  rw [hp,Nat.add_comm]
 refine ⟨F1,F3,F4,by simp [hF,hF2],by rw [← e3]; exact h3,?_⟩
 intro w' Z' get' ys Fy cs' hZ hs hget hyn hy hset
 have hcs' :=setP_none rfl hp (by omega) hset
 subst hcs'
 have e4:(fun j =>get' (off + j)) = fun i =>get' (i + pre.length) :=by
  funext j
  rw [hp,Nat.add_comm]
 rw [e4] at hy
 refine ⟨?_,by simp; omega⟩
 rw [List.append_assoc]
 refine RL.append (RL.same hZ pre h1 hs.left (fun i hi =>hget i (by simp; omega) (.inl (by omega)))) (RL.append hy ?_)
 refine RL.same hZ post h4 hs.right (fun i hi =>?_)
 rw [hyn,← hn]
 exact hget _ (by simp; omega) (.inr (by omega))

theorem place_set_some {w:World} {Z:CA→Prop} {cs xs:List C} {get:Nat→Option Value} {G:List CA} {off n i o:Nat} (h:RL w Z cs get G) (hg:getP cs off (some (i,o)) n = some xs)
  (hnd:G.Nodup) {zs:List C} {cz:List C} (hset0:setP cs off (some (i,o)) zs = some cz) (hz0:zs.length = n) :
  ∃ (A Fx B:List CA) (b p:Nat),G = A ++ Fx ++ B∧RL w Z xs (fun j =>cell w (b,p + j)) Fx∧(∀ c ∈ span (b,p) n,c ∈ A)∧(∀ j,pget w get cs off (some (i,o)) j = cell w (b,p + j)) ∧
   (∃ o' len cap f sz rows,get off = some (.slice (some ⟨b,o',none⟩) len cap)∧cs[off]? = some (.sl f sz rows)∧o' + i * sz + o = p) ∧
   ∀ (w':World) (Z':CA→Prop) (get':Nat→Option Value) (ys:List C) (Fy:List CA) (cs':List C),(∀ c,Z c→Z' c)→(∀ c,(c ∈ A ++ B∨Z c)→c ∉ span (b,p) n→gcell w' c = gcell w c) →
    (∀ c ∈ span (b,p) n,¬ Z c)→(∀ i,i < cs.length→get' i = get i)→ys.length = n→RL w' Z' ys (fun j =>cell w' (b,p + j)) Fy→setP cs off (some (i,o)) ys = some cs' →
     RL w' Z' cs' get' (A ++ Fy ++ B)∧cs'.length = cs.length :=by
 obtain ⟨pre,post,f,sz,rows,row,rpre,rpost,hc,hp,hr,hrow,ho,hn⟩ :=getP_some hg
 have hns:f ≠ .shr :=(setP_some hc hp hr hrow ho (by omega) hset0).1
 have hat:cs[off]? = some (.sl f sz rows) :=by rw [hc,List.getElem?_append_right (by omega),hp]; simp
 have h' :=h
 rw [hc] at h
 obtain ⟨G1,G0,h1,h2,hG⟩ :=RL.split h
 obtain ⟨v,FC,G2,hv,hrc,h3,hG0⟩ :=h2
 simp only [Nat.zero_add] at hv
 rw [hp] at hv
 obtain ⟨ad,cap,hv2,hle,hs⟩ :=hrc
 have hlt:i < rows.length :=by
  rcases Nat.lt_or_ge i rows.length with h | h
  ·exact h
  ·simp [List.getElem?_eq_none h] at hr
 rcases hs with ⟨hf,_⟩ | ⟨_,hs⟩
 ·exact absurd hf hns
 rcases hs with ⟨_,hs,_⟩ | ⟨b,q,H,had,⟨hrr,hreal⟩,hFC⟩
 ·simp [hs] at hr
 obtain ⟨hl,A1,GR,B1,hH,hrl,hta,htd⟩ :=RRs.get hrr hr
 rw [hrow] at hrl
 obtain ⟨F1,F2,hr1,hr2,hGR⟩ :=RL.split hrl
 obtain ⟨Fx,F4,hr3,hr4,hF2⟩ :=RL.split hr2
 have hGeq:G = (G1 ++ (span (b,q) (cap * sz) ++ (A1 ++ F1))) ++ Fx ++ (F4 ++ (B1 ++ G2)) :=by
  rw [hG,hG0,hFC,hH,hGR,hF2]
  simp
 have hrlen:rpre.length + (xs.length + rpost.length) = sz :=by
  have :=congrArg List.length hrow
  simp at this
  omega
 have hisz:(i + 1) * sz≤cap * sz :=Nat.mul_le_mul_right _ (by omega)
 have hisz2:(i + 1) * sz = i * sz + sz :=by rw [Nat.add_mul,Nat.one_mul]
 have hisz3:i * sz + sz≤cap * sz :=by rw [← hisz2]; exact hisz
 clear hisz hisz2
 have hDspan:∀ c ∈ span (b,q + i * sz + o) n,c ∈ span (b,q) (cap * sz) :=by
  intro c hc
  rw [mem_span] at hc ⊢
  simp only at hc ⊢
  omega
 have hnd2:(G1 ++ span (b,q) (cap * sz) ++ ((A1 ++ F1) ++ Fx ++ (F4 ++ (B1 ++ G2)))).Nodup :=by
  have:G1 ++ span (b,q) (cap * sz) ++ ((A1 ++ F1) ++ Fx ++ (F4 ++ (B1 ++ G2))) = G :=by rw [hGeq]; simp
  rw [this]
  exact hnd
 have hDoff:∀ c ∈ span (b,q + i * sz + o) n,c ∉ G1∧c ∉ (A1 ++ F1) ++ Fx ++ (F4 ++ (B1 ++ G2)) :=fun c hc =>nodup_mid hnd2 (hDspan c hc)
 refine ⟨G1 ++ (span (b,q) (cap * sz) ++ (A1 ++ F1)),Fx,F4 ++ (B1 ++ G2),b,q + i * sz + o,hGeq,?_,?_,?_,?_,?_⟩
 ·have e:(fun j =>cell w (b,q + i * sz + o + j)) = fun j =>cell w (b,q + i * sz + (j + rpre.length)) :=by
   funext j
   rw [ho]
   congr 2
   omega
  rw [e]
  exact hr3
 ·intro c hc
  exact List.mem_append_right _ (List.mem_append_left _ (hDspan c hc))
 ·intro j
  simp only [pget,hv,hv2,hat,had]
 ·exact ⟨q,rows.length,cap,f,sz,rows,by rw [hv,hv2,had],hat,rfl⟩
 ·intro w' Z' get' ys Fy cs' hZ hs hDZ hget hyn hy hset
  have hcs' :=(setP_some hc hp hr hrow ho (by omega) hset).2
  have rowlen:(rpre ++ (ys ++ rpost)).length = sz :=by simp; omega
  -- what is untouched
  have keep:∀ {K:List CA},(∀ c ∈ K,c ∈ G1∨c ∈ (A1 ++ F1) ++ Fx ++ (F4 ++ (B1 ++ G2)))→(∀ c ∈ K,c ∈ (G1 ++ (span (b,q) (cap * sz) ++ (A1 ++ F1))) ++ (F4 ++ (B1 ++ G2)))→Same w w' K Z :=by
   intro K hK1 hK2 c hc
   rcases hc with hc | hc
   ·refine hs c (.inl (hK2 c hc)) (fun hD =>?_)
    have :=hDoff c hD
    rcases hK1 c hc with h | h
    ·exact this.1 h
    ·exact this.2 h
   ·exact hs c (.inr hc) (fun hD =>hDZ c hD hc)
  have cellK:∀ c ∈ span (b,q) (cap * sz),c ∉ span (b,q + i * sz + o) n→cell w' c = cell w c :=fun c hc hD =>
   cell_of_g (hs c (.inl (List.mem_append_left _ (List.mem_append_right _ (List.mem_append_left _ hc)))) hD)
  have hnewrow:RL w' Z' (rpre ++ (ys ++ rpost)) (fun j =>cell w' (b,q + i * sz + j)) (F1 ++ (Fy ++ F4)) :=by
   refine RL.append (RL.same hZ rpre hr1 (keep (by simp +contextual) (by simp +contextual)) (fun j hj =>cellK _ ?_ ?_)) (RL.append ?_ (RL.same hZ rpost hr4 (keep (by simp +contextual) (by simp +contextual)) (fun j hj =>?_)))
   ·rw [mem_span]
    simp only [true_and]
    omega
   ·rw [mem_span]
    simp only [true_and]
    omega
   ·have e:(fun j =>cell w' (b,q + i * sz + (j + rpre.length))) = fun j =>cell w' (b,q + i * sz + o + j) :=by
     funext j
     rw [ho]
     congr 2
     omega
    rw [e]
    exact hy
   ·have e:(j + ys.length + rpre.length) = (j + xs.length + rpre.length) :=by omega
    simp only [e]
    refine cellK _ ?_ ?_
    ·rw [mem_span]
     simp only [true_and]
     omega
    ·rw [mem_span]
     simp only [true_and]
     omega
  have hnewrows:RRs w' Z' (rows.set i (rpre ++ (ys ++ rpost))) sz b q (A1 ++ (F1 ++ (Fy ++ F4)) ++ B1) :=by
   have hset':rows.set i (rpre ++ (ys ++ rpost)) = rows.take i ++ ((rpre ++ (ys ++ rpost)) :: rows.drop (i + 1)) :=by
    rw [List.set_eq_take_append_cons_drop,if_pos hlt]
   rw [hset',List.append_assoc]
   have htl:(rows.take i).length = i :=by simp; omega
   refine RRs.append (RRs.same hZ _ hta (keep (by simp +contextual) (by simp +contextual)) (fun c hcm =>cellK c ?_ ?_)) ⟨rowlen,F1 ++ (Fy ++ F4),B1,by rw [htl]; exact hnewrow,?_,rfl⟩
   ·rw [mem_span] at hcm ⊢
    rw [htl] at hcm
    simp only at hcm ⊢
    have:i * sz≤cap * sz :=Nat.mul_le_mul_right _ (by omega)
    omega
   ·rw [mem_span] at hcm ⊢
    rw [htl] at hcm
    simp only at hcm ⊢
    omega
   ·rw [htl]
    have hdl:(rows.drop (i + 1)).length = rows.length - (i + 1) :=by simp
    have hmul:(rows.length - (i + 1)) * sz + (i + 1) * sz≤cap * sz :=by
     rw [← Nat.add_mul]
     exact Nat.mul_le_mul_right _ (by omega)
    rw [Nat.add_mul,Nat.one_mul] at hmul
    refine RRs.same hZ _ htd (keep (by simp +contextual) (by simp +contextual)) (fun c hcm =>cellK c ?_ ?_)
    ·rw [mem_span] at hcm ⊢
     rw [hdl] at hcm
     simp only at hcm ⊢
     omega
    ·rw [mem_span] at hcm ⊢
     simp only at hcm ⊢
     omega
  have hreal':∀ c ∈ span (b,q) (cap * sz),(cell w' c).isSome = true :=by
   intro c hc
   by_cases hD:c ∈ span (b,q + i * sz + o) n
   ·obtain ⟨c1,c2⟩ :=c
    rw [mem_span] at hD
    simp only at hD
    obtain ⟨rfl,h1,h2⟩ :=hD
    have hlt:c2 - (q + i * sz + o) < ys.length :=by omega
    obtain ⟨v,_,_,_,hg,_⟩ :=RL.get hy (List.getElem?_eq_getElem hlt)
    rw [show q + i * sz + o + (c2 - (q + i * sz + o)) = c2 by omega] at hg
    rw [hg]
    rfl
   ·rw [cellK c hc hD]
    exact hreal c hc
  rw [hcs']
  refine ⟨?_,by rw [hc]; simp⟩
  have hfin:(G1 ++ (span (b,q) (cap * sz) ++ (A1 ++ F1))) ++ Fy ++ (F4 ++ (B1 ++ G2)) = G1 ++ ((span (b,q) (cap * sz) ++ (A1 ++ (F1 ++ (Fy ++ F4)) ++ B1)) ++ G2) :=by simp
  rw [hfin]
  refine RL.append (RL.same hZ pre h1 (keep (by simp +contextual) (by simp +contextual)) (fun j hj =>hget j (by rw [hc]; simp; omega))) ?_
  refine ⟨v,_,G2,?_,⟨ad,cap,by rw [List.length_set]; exact hv2,by rw [List.length_set]; exact hle,.inr ⟨hns,.inr ⟨b,q,_,had,⟨hnewrows,hreal'⟩,rfl⟩⟩⟩,?_,rfl⟩
  ·simp only [Nat.zero_add]
   rw [hp,hget off (by rw [hc]; simp; omega)]
   exact hv
  ·refine RL.same hZ post h3 (keep (by simp +contextual) (by simp +contextual)) (fun j hj =>hget _ (by rw [hc]; simp; omega))
end Go.Sx

/- A frame that goes on: a slot filled,a root's cells replaced,a world that grew. -/
namespace Go.Sx

def Follows (w w':World) (Z:CA→Prop) (l l':List (Tmp × S)) (tm tm':Tmp→Value) (N:Nat):Prop :=
 ∀ q,(look l' q = look l q∧tm' q = tm q∧(∀ cs,(look l q).root = some cs→∃ G,RL w Z cs (rget w (look l q) (tm q)) G∧Same w w' G Z ∧
   ∀ i,i < cs.length→rget w' (look l q) (tm q) i = rget w (look l q) (tm q) i)) ∨
  ((∀ h cs,(look l' q).rootL h = some cs→N≤h)∧(∀ g i cs,(look l' q).rootR g (some i) = some cs→N≤g) ∧
   (∀ g cs,(look l' q).rootR g none = some cs→N≤g∨(tm' q = tm q∧∃ cs0,(look l q).rootR g none = some cs0)))

theorem TR.same {w w':World} {Z Z':CA→Prop} (hZ:∀ c,Z c→Z' c):∀ {vs:List (Bool × List C)} {us:List Value} {F:List CA},TR w Z vs us F→Same w w' F Z→TR w' Z' vs us F
 | [],[],_,h,_ =>h
 | z :: r,u :: us,F,h,hs =>by
  obtain ⟨vs,F1,F2,hp,hl,h1,h2,hF⟩ :=h
  subst hF
  exact ⟨vs,F1,F2,hp,hl,RL.same hZ _ h1 hs.left (fun _ _ =>rfl),TR.same hZ h2 hs.right,rfl⟩
 | [],_ :: _,_,h,_ =>h.elim
 | _ :: _,[],_,h,_ =>h.elim

theorem CapR.same {w w':World} {Z Z':CA→Prop} (hZ:∀ c,Z c→Z' c) (hs:∀ c,Z c→gcell w' c = gcell w c):∀ {caps:List (List C)} {us:List Value},CapR w Z caps us→CapR w' Z' caps us
 | [],[],_ =>trivial
 | cs :: r,u :: us,⟨⟨b,o,hu,h,hz⟩,h2⟩ =>⟨⟨b,o,hu,RL.same hZ cs h (fun c hc =>hs c (hc.resolve_left (by simp))) (fun i hi =>cell_of_g (hs _ (hz _ (mem_span.2 ⟨rfl,by simp,by simp; omega⟩)))),fun c hc =>hZ c (hz c hc)⟩,CapR.same hZ hs h2⟩
 | [],_ :: _,h =>h.elim
 | _ :: _,[],h =>h.elim

theorem Rep.follow {w w':World} {Z Z':CA→Prop} {l l':List (Tmp × S)} {tm tm':Tmp→Value} {N:Nat} (hZ:∀ c,Z c→Z' c) (hf:Follows w w' Z l l' tm tm' N)
  {v:Value} {F:List CA} {x:S} (h:Rep w Z l tm v F x) (hst:x.stampsLt N) (hs:Same w w' F Z):Rep w' Z' l' tm' v F x :=by
 cases x with
 | val g a cs =>
  obtain ⟨vs,hp,hl,h⟩ :=h
  exact ⟨vs,hp,hl,RL.same hZ cs h hs (fun _ _ =>rfl)⟩
 | box g k cs =>
  obtain ⟨b,o,G,hv,h,hF⟩ :=h
  subst hF
  refine ⟨b,o,G,hv,RL.same hZ cs h hs.right (fun i hi =>cell_of_g (hs _ (.inl (List.mem_append_left _ (mem_span.2 ⟨rfl,by simp,by simp; omega⟩))))),rfl⟩
 | fz g cs =>
  obtain ⟨b,o,hv,h,hz⟩ :=h
  exact ⟨b,o,hv,RL.same hZ cs h hs (fun i hi =>cell_of_g (hs _ (.inr (hz _ (mem_span.2 ⟨rfl,by simp,by simp; omega⟩))))),fun c hc =>hZ c (hz c hc)⟩
 | lnk r k off n a el win =>
  obtain ⟨hF,h⟩ :=h
  refine ⟨hF,fun cs hr =>?_⟩
  rcases hf r with ⟨h1,h2,h3⟩ | ⟨h1,_,_⟩
  ·rw [h1] at hr
   obtain ⟨⟨xs,hx⟩,vs,hn,hj,hm⟩ :=h cs hr
   obtain ⟨G,hG,hsG,hget⟩ :=h3 cs (rootL_root hr).1
   refine ⟨⟨xs,hx⟩,vs,hn,fun j hjn =>?_,hm⟩
   rw [h1,h2,← hj j hjn]
   exact pget_same hG hx hsG hget j hjn
  ·have :=h1 _ _ hr
   exact absurd hst (by simp only [S.stampsLt]; omega)
 | ptr r g off el =>
  obtain ⟨hF,h⟩ :=h
  refine ⟨hF,fun cs hr =>?_⟩
  rcases hf r with ⟨h1,h2,h3⟩ | ⟨_,h1,h2⟩
  ·rw [h1] at hr
   have h4 :=h cs hr
   cases el with
   | none =>rw [h2]; exact h4
   | some q =>
    obtain ⟨i,o'⟩ :=q
    obtain ⟨b,o,len,cap,f,sz,rows,e1,e2,e3⟩ :=h4
    obtain ⟨G,hG,hsG,hget⟩ :=h3 cs (rootR_root hr)
    refine ⟨b,o,len,cap,f,sz,rows,?_,e2,e3⟩
    rw [h1,h2,hget off ?_]
    ·exact e1
    ·rcases Nat.lt_or_ge off cs.length with h | h
     ·exact h
     ·simp [List.getElem?_eq_none h] at e2
  ·cases el with
   | none =>
    rcases h2 _ _ hr with h2 | ⟨h2,cs0,h3⟩
    ·exact absurd hst (by simp only [S.stampsLt]; omega)
    ·rw [h2]
     exact h cs0 h3
   | some q =>
    have :=h1 _ _ _ hr
    exact absurd hst (by simp only [S.stampsLt]; omega)
 | rp cs =>
  obtain ⟨hF,b,o,hv,h,hz⟩ :=h
  subst hF
  exact ⟨rfl,b,o,hv,RL.same hZ cs h hs (fun i hi =>cell_of_g (hs _ (.inr (hz _ (mem_span.2 ⟨rfl,by simp,by simp; omega⟩))))),fun c hc =>hZ c (hz c hc)⟩
 | fn f caps =>
  obtain ⟨hF,us,hv,ht⟩ :=h
  exact ⟨hF,us,hv,ht.same hZ (fun c hc =>hs c (.inr hc))⟩
 | tup vs =>
  obtain ⟨us,hv,h⟩ :=h
  exact ⟨us,hv,h.same hZ hs⟩
 | dead =>exact h

theorem rget_same {w w':World} {Z:CA→Prop} {l:List (Tmp × S)} {tm:Tmp→Value} {v:Value} {F:List CA} {x:S} {cs:List C} (h:Rep w Z l tm v F x) (hr:x.root = some cs) (hs:Same w w' F Z) :
  ∀ i,i < cs.length→rget w' x v i = rget w x v i :=by
 intro i hi
 cases x with
 | val g a ds =>rfl
 | box g k ds =>
  simp [S.root] at hr
  subst hr
  obtain ⟨b,o,G,hv,h,hF⟩ :=h
  subst hF
  simp only [rget,hv]
  exact cell_of_g (hs _ (.inl (List.mem_append_left _ (mem_span.2 ⟨rfl,by simp,by simp; omega⟩))))
 | fz g ds =>
  simp [S.root] at hr
  subst hr
  obtain ⟨b,o,hv,h,hz⟩ :=h
  simp only [rget,hv]
  exact cell_of_g (hs _ (.inr (hz _ (mem_span.2 ⟨rfl,by simp,by simp; omega⟩))))
 | _ =>simp [S.root] at hr

theorem Inv.rootKept {w w':World} {Z:CA→Prop} {tm:Tmp→Value} {s:St} {fp:Tmp→List CA} (h:Inv w Z tm s fp) {q:Tmp} (hs:Same w w' (fp q) Z) :
  ∀ cs,(look s.sl q).root = some cs→∃ G,RL w Z cs (rget w (look s.sl q) (tm q)) G∧Same w w' G Z∧∀ i,i < cs.length→rget w' (look s.sl q) (tm q) i = rget w (look s.sl q) (tm q) i :=by
 intro cs hr
 obtain ⟨G,hG,hF⟩ :=(h.rep q).root hr
 refine ⟨G,hG,?_,rget_same (h.rep q) hr hs⟩
 rcases hF with hF | ⟨b,o,_,hF⟩
 ·rw [← hF]; exact hs
 ·rw [hF] at hs; exact hs.right

theorem Inv.world {w w':World} {Z Z':CA→Prop} {tm:Tmp→Value} {s:St} {fp:Tmp→List CA} (h:Inv w Z tm s fp) (hZ:∀ c,Z c→Z' c) (hs:∀ t,Same w w' (fp t) Z)
  (hm:∀ t,∀ c ∈ fp t,Mine w' Z' c) (hz:∀ c,Z' c→(gcell w' c).isSome = true):Inv w' Z' tm s fp where
 rep t :=Rep.follow (N :=s.cnt) hZ (fun q =>.inl ⟨rfl,rfl,h.rootKept (hs q)⟩) (h.rep t) (h.stamps t) (hs t)
 nd :=h.nd
 disj :=h.disj
 mine :=hm
 zok :=hz
 stamps :=h.stamps

theorem look_cons (t u:Tmp) (x:S) (l:List (Tmp × S)):look ((u,x) :: l) t = if u = t then x else look l t :=rfl

theorem stamp_rootL {c h:Nat} {x:S} {cs:List C} (e:(x.stamp c).rootL h = some cs):h = c :=by
 cases x <;> simp only [S.stamp,S.rootL] at e <;> first | (split at e <;> first | (rename_i e'; exact e'.symm) | cases e) | cases e
theorem stamp_rootR {c g:Nat} {el:El} {x:S} {cs:List C} (e:(x.stamp c).rootR g el = some cs):g = c :=by
 cases x <;> cases el <;> simp only [S.stamp,S.rootR,S.rootP] at e <;> first | (split at e <;> first | (rename_i e'; exact e'.symm) | cases e) | cases e
theorem Rep.stamp {w:World} {Z:CA→Prop} {l:List (Tmp × S)} {tm:Tmp→Value} {v:Value} {F:List CA} {x:S} (c:Nat) (h:Rep w Z l tm v F x):Rep w Z l tm v F (x.stamp c) :=by
 cases x <;> exact h

theorem stampsLt_mono {m n:Nat} {x:S} (h:x.stampsLt m) (hmn:m≤n):x.stampsLt n :=by
 cases x <;> simp only [S.stampsLt] at h ⊢ <;> omega

def S.linksLt (n:Nat):S→Prop
 | .lnk _ h _ _ _ _ _ =>h < n
 | .ptr _ g _ _ =>g < n
 | _ =>True

theorem stamp_lt' {c:Nat} {x:S} (h:x.linksLt c):(x.stamp c).stampsLt (c + 1) :=by
 cases x <;> simp only [S.stamp,S.stampsLt,S.linksLt] at h ⊢ <;> omega

theorem Rep.ofLinks {w:World} {Z Z':CA→Prop} {l l':List (Tmp × S)} {tm tm':Tmp→Value} {N:Nat} (hf:Follows w w Z l l' tm tm' N)
  {v:Value} {F:List CA} {x:S} (h:Rep w Z l tm v F x) (hst:x.linksLt N):Rep w Z l' tm' v F x :=by
 cases x with
 | lnk r k off n a el win =>exact Rep.follow (fun _ h =>h) hf h hst (fun _ _ =>rfl)
 | ptr r g off el =>exact Rep.follow (fun _ h =>h) hf h hst (fun _ _ =>rfl)
 | val g a cs =>exact h
 | box g k cs =>exact h
 | fz g cs =>exact h
 | rp cs =>exact h
 | fn f caps =>exact h
 | tup vs =>exact h
 | dead =>exact h

theorem Inv.put {w:World} {Z:CA→Prop} {tm tm':Tmp→Value} {s:St} {fp:Tmp→List CA} (h:Inv w Z tm s fp) {d:Tmp} {x:S} {F:List CA} (hd:tm' d = tm' d)
  (ht:∀ t,t ≠ d→tm' t = tm t) (hx:Rep w Z s.sl tm (tm' d) F x) (hl:x.linksLt s.cnt) (hnd:F.Nodup) (hm:∀ c ∈ F,Mine w Z c) (hdis:∀ t,t ≠ d→∀ c ∈ F,c ∉ fp t) :
  Inv w Z tm' (Sx.put (some d) x s) (fun t =>if t = d then F else fp t) :=by
 have hput:Sx.put (some d) x s = ⟨s.cnt + 1,(d,x.stamp s.cnt) :: s.sl⟩ :=rfl
 rw [hput]
 have hf:Follows w w Z s.sl ((d,x.stamp s.cnt) :: s.sl) tm tm' s.cnt :=by
  intro q
  by_cases hq:d = q
  ·right
   subst hq
   rw [look_cons,if_pos rfl]
   exact ⟨fun k cs e =>Nat.le_of_eq (stamp_rootL e).symm,fun g i cs e =>Nat.le_of_eq (stamp_rootR e).symm,fun g cs e =>.inl (Nat.le_of_eq (stamp_rootR e).symm)⟩
  ·left
   rw [look_cons,if_neg hq]
   exact ⟨rfl,ht q (fun e =>hq e.symm),h.rootKept (fun _ _ =>rfl)⟩
 refine ⟨fun t =>?_,fun t =>?_,fun t u htu c hc =>?_,fun t c hc =>?_,h.zok,fun t =>?_⟩
 ·by_cases htd:t = d
  ·subst htd
   simp only [look_cons,if_true]
   exact Rep.ofLinks (Z' :=Z) hf (Rep.stamp s.cnt hx) (by cases x <;> exact hl)
  ·have htd':¬ d = t :=fun e =>htd e.symm
   simp only [look_cons,if_neg htd',if_neg htd]
   rw [ht t htd]
   exact Rep.follow (fun _ h =>h) hf (h.rep t) (h.stamps t) (fun _ _ =>rfl)
 ·by_cases htd:t = d
  ·simp only [if_pos htd]; exact hnd
  ·simp only [if_neg htd]; exact h.nd t
 ·by_cases htd:t = d
  ·simp only [if_pos htd] at hc
   have hud:u ≠ d :=fun e =>htu (htd.trans e.symm)
   simp only [if_neg hud]
   exact hdis u hud c hc
  ·simp only [if_neg htd] at hc
   by_cases hud:u = d
   ·simp only [if_pos hud]
    exact fun hcF =>hdis t htd c hcF hc
   ·simp only [if_neg hud]
    exact h.disj t u htu c hc
 ·by_cases htd:t = d
  ·simp only [if_pos htd] at hc; exact hm c hc
  ·simp only [if_neg htd] at hc; exact h.mine t c hc
 ·by_cases htd:t = d
  ·subst htd
   simp only [look_cons,if_true]
   exact stamp_lt' hl
  ·have htd':¬ d = t :=fun e =>htd e.symm
   simp only [look_cons,if_neg htd']
   exact stampsLt_mono (h.stamps t) (Nat.le_succ _)

theorem with_rootL {c h:Nat} {x:S} {cs ds:List C} (e:(x.withCells c cs).rootL h = some ds):h = c :=by
 cases x <;> simp only [S.withCells,S.rootL] at e <;> first | (split at e <;> first | (rename_i e'; exact e'.symm) | cases e) | cases e
theorem with_rootR {c g:Nat} {i:Nat × Nat} {x:S} {cs ds:List C} (e:(x.withCells c cs).rootR g (some i) = some ds):g = c :=by
 cases x <;> simp only [S.withCells,S.rootR,S.rootP] at e <;> first | (split at e <;> first | (rename_i e'; exact e'.symm) | cases e) | cases e
theorem with_rootN {c g:Nat} {x:S} {cs ds:List C} (e:(x.withCells c cs).rootR g none = some ds):g = c∨∃ cs0,x.rootR g none = some cs0 :=by
 cases x with
 | box k h es =>
  simp only [S.withCells,S.rootR,S.rootP] at e
  split at e
  ·rename_i hk
   exact .inr ⟨es,by simp [S.rootR,S.rootP,hk]⟩
  ·cases e
 | fz h es =>
  simp only [S.withCells,S.rootR] at e
  split at e
  ·rename_i hk; exact .inl hk.symm
  ·cases e
 | _ =>simp [S.withCells,S.rootR,S.rootP] at e
theorem with_lt {c:Nat} {x:S} {cs:List C} (h:x.stampsLt c) (hr:x.root.isSome = true):(x.withCells c cs).stampsLt (c + 1) :=by
 cases x <;> simp only [S.withCells,S.stampsLt] at h ⊢ <;> first | omega | simp [S.root] at hr

theorem Inv.upd {w w':World} {Z Z':CA→Prop} {tm:Tmp→Value} {s:St} {fp:Tmp→List CA} (h:Inv w Z tm s fp) {r:Tmp} {cs':List C} {F':List CA}
  (hroot:(look s.sl r).root.isSome = true) (hZ:∀ c,Z c→Z' c) (hs:∀ t,t ≠ r→Same w w' (fp t) Z)
  (hrep:∀ l tm0,Rep w' Z' l tm0 (tm r) F' ((look s.sl r).withCells s.cnt cs')) (hnd:F'.Nodup) (hm':∀ c ∈ F',Mine w' Z' c) (hdis:∀ t,t ≠ r→∀ c ∈ F',c ∉ fp t)
  (hm:∀ t,t ≠ r→∀ c ∈ fp t,Mine w' Z' c) (hz:∀ c,Z' c→(gcell w' c).isSome = true) :
  Inv w' Z' tm (Sx.upd r cs' s) (fun t =>if t = r then F' else fp t) :=by
 have hupd:Sx.upd r cs' s = ⟨s.cnt + 1,(r,(look s.sl r).withCells s.cnt cs') :: s.sl⟩ :=rfl
 rw [hupd]
 have hf:Follows w w' Z s.sl ((r,(look s.sl r).withCells s.cnt cs') :: s.sl) tm tm s.cnt :=by
  intro q
  by_cases hq:r = q
  ·right
   subst hq
   rw [look_cons,if_pos rfl]
   exact ⟨fun k ds e =>Nat.le_of_eq (with_rootL e).symm,fun g i ds e =>Nat.le_of_eq (with_rootR e).symm,fun g ds e =>(with_rootN e).elim (fun h =>.inl (Nat.le_of_eq h.symm)) (fun h =>.inr ⟨by rfl,h⟩)⟩
  ·left
   rw [look_cons,if_neg hq]
   exact ⟨by rfl,by rfl,h.rootKept (hs q (fun e =>hq e.symm))⟩
 refine ⟨fun t =>?_,fun t =>?_,fun t u htu c hc =>?_,fun t c hc =>?_,hz,fun t =>?_⟩
 ·by_cases htd:t = r
  ·subst htd
   simp only [look_cons,if_true]
   exact hrep _ _
  ·have htd':¬ r = t :=fun e =>htd e.symm
   simp only [look_cons,if_neg htd',if_neg htd]
   exact Rep.follow hZ hf (h.rep t) (h.stamps t) (hs t htd)
 ·by_cases htd:t = r
  ·simp only [if_pos htd]; exact hnd
  ·simp only [if_neg htd]; exact h.nd t
 ·by_cases htd:t = r
  ·simp only [if_pos htd] at hc
   have hud:u ≠ r :=fun e =>htu (htd.trans e.symm)
   simp only [if_neg hud]
   exact hdis u hud c hc
  ·simp only [if_neg htd] at hc
   by_cases hud:u = r
   ·simp only [if_pos hud]
    exact fun hcF =>hdis t htd c hcF hc
   ·simp only [if_neg hud]
    exact h.disj t u htu c hc
 ·by_cases htd:t = r
  ·simp only [if_pos htd] at hc; exact hm' c hc
  ·simp only [if_neg htd] at hc; exact hm t htd c hc
 ·by_cases htd:t = r
  ·subst htd
   simp only [look_cons,if_true]
   exact with_lt (h.stamps t) hroot
  ·have htd':¬ r = t :=fun e =>htd e.symm
   simp only [look_cons,if_neg htd']
   exact stampsLt_mono (h.stamps t) (Nat.le_succ _)
end Go.Sx

/- What an operand reads; what is taken. -/
namespace Go.Sx

theorem span_append (b o m:Nat):∀ n,span (b,o) (n + m) = span (b,o) n ++ span (b,o + n) m
 | 0 =>by simp [span]
 | n + 1 =>by
  have e:n + 1 + m = (n + m) + 1 :=by omega
  rw [e]
  simp only [span,List.cons_append]
  rw [show (b,o + (n + 1)) = (b,o + 1 + n) by congr 1; omega]
  congr 1
  -- the rest,from the next cell on
  have :=span_append b (o + 1) m n
  exact this

theorem RC.cut {w:World} {Z:CA→Prop} {f:Fl} {sz:Nat} {rows:List (List C)} {u:Value} {F:List CA} (h:RC w Z (.sl f sz rows) u F) {lo k:Nat} (hk:lo + k≤rows.length) :
  ∃ F',RC w Z (.sl f sz ((rows.drop lo).take k)) (cutV lo k sz u) F'∧F'.Sublist F :=by
 obtain ⟨ad,cap,hv,hle,h⟩ :=h
 have hlen:((rows.drop lo).take k).length = k :=by simp; omega
 have hrows:rows = rows.take lo ++ ((rows.drop lo).take k ++ (rows.drop lo).drop k) :=by rw [List.take_append_drop,List.take_append_drop]
 have part:∀ {b o:Nat} {G:List CA},RRs w Z rows sz b o G→∃ G1 G2 G3,RRs w Z ((rows.drop lo).take k) sz b (o + lo * sz) G2∧G = G1 ++ (G2 ++ G3) :=by
  intro b o G hr
  have hr' :=hrows ▸ hr
  obtain ⟨G1,G0,h1,h2,hG⟩ :=RRs.split hr'
  obtain ⟨G2,G3,h3,h4,hG0⟩ :=RRs.split h2
  have e:(rows.take lo).length = lo :=by simp; omega
  rw [e] at h3
  exact ⟨G1,G2,G3,h3,by rw [hG,hG0]⟩
 have hadd:∀ (b o:Nat),(if cap = lo then (some ⟨b,o,none⟩:Option Addr) else (some ⟨b,o,none⟩:Option Addr).map (·.add (lo * sz))) = some ⟨b,if cap = lo then o else o + lo * sz,none⟩ :=by
  intro b o
  by_cases hc:cap = lo
  ·simp [hc]
  ·simp only [hc,if_false,Option.map_some,Addr.add]
   split
   ·rename_i h0
    simp [h0]
   ·rfl
 rcases h with ⟨hf,hF,hs⟩ | ⟨hf,hs⟩
 ·subst hf
  refine ⟨[],⟨if cap = lo then ad else ad.map (·.add (lo * sz)),cap - lo,by rw [hv,hlen]; rfl,by rw [hlen]; omega,.inl ⟨rfl,rfl,?_⟩⟩,List.nil_sublist _⟩
  rcases hs with hs | ⟨b,o,had,hr,hz⟩
  ·left
   rw [hs]
   simp
  ·by_cases hk0:k = 0
   ·left
    simp [hk0]
   ·right
    have hc:cap ≠ lo :=by omega
    obtain ⟨G1,G2,G3,h1,hG⟩ :=part hr
    have:G2 = [] :=by
     have :=congrArg List.length hG
     simp only [List.length_nil,List.length_append] at this
     exact List.eq_nil_of_length_eq_zero (by omega)
    subst this
    refine ⟨b,o + lo * sz,by rw [had,hadd,if_neg hc],h1,fun c hcm =>hz c ?_⟩
    rw [mem_span] at hcm ⊢
    rw [hlen] at hcm
    have:k * sz + lo * sz≤rows.length * sz :=by rw [← Nat.add_mul]; exact Nat.mul_le_mul_right _ (by omega)
    simp only at hcm ⊢
    omega
 ·rcases hs with ⟨had,hr,hcap,hF⟩ | ⟨b,o,G,had,⟨hr,hreal⟩,hF⟩
  ·subst hr
   simp at hk
   refine ⟨[],⟨none,0,by rw [hv,had,hcap,hlen]; simp [cutV],by rw [hlen]; omega,.inr ⟨hf,.inl ⟨rfl,by simp,rfl,rfl⟩⟩⟩,List.nil_sublist _⟩
  ·obtain ⟨G1,G2,G3,h1,hG⟩ :=part hr
   by_cases hc:cap = lo
   ·have hk0:k = 0 :=by omega
    subst hk0
    refine ⟨[],⟨some ⟨b,o,none⟩,0,by rw [hv,had,hlen]; simp [cutV,hc],by rw [hlen]; omega,.inr ⟨hf,.inr ⟨b,o,[],rfl,?_,by simp [span]⟩⟩⟩,List.nil_sublist _⟩
    rw [List.take_zero]
    exact ⟨rfl,fun c hc =>by simp [span] at hc⟩
   ·have hreal':∀ c ∈ span (b,o + lo * sz) ((cap - lo) * sz),(cell w c).isSome = true :=fun c hc =>hreal c (by
     have e:cap * sz = lo * sz + (cap - lo) * sz :=by rw [← Nat.add_mul]; congr 1; omega
     rw [mem_span] at hc ⊢
     simp only at hc ⊢
     omega)
    refine ⟨span (b,o + lo * sz) ((cap - lo) * sz) ++ G2,⟨some ⟨b,o + lo * sz,none⟩,cap - lo,by rw [hv,had,hlen]; simp only [cutV]; rw [hadd,if_neg hc],by rw [hlen]; omega,.inr ⟨hf,.inr ⟨b,o + lo * sz,G2,rfl,⟨h1,hreal'⟩,rfl⟩⟩⟩,?_⟩
    rw [hF,hG]
    have e:cap * sz = lo * sz + (cap - lo) * sz :=by rw [← Nat.add_mul]; congr 1; omega
    rw [e,span_append]
    refine List.Sublist.append (List.sublist_append_right _ _) ((List.sublist_append_left G2 G3).trans (List.sublist_append_right _ _))

theorem winC_some {w:World} {Z:CA→Prop} {win:El} {xs ys:List C} {vs:List Value} {F:List CA} {a:Bool} {v:Value} (h:RL w Z xs (fun i =>vs[i]?) F) (hl:vs.length = xs.length) (hw:winC win xs = some ys)
  (hm:match win with
   | none =>Packs a vs v
   | some (lo,k) =>a = false∧∃ u f sz rows,vs = [u]∧xs = [.sl f sz rows]∧lo + k≤rows.length∧v = cutV lo k sz u) :
  ∃ us F',Packs a us v∧us.length = ys.length∧RL w Z ys (fun i =>us[i]?) F'∧F'.Sublist F :=by
 cases win with
 | none =>
  simp [winC] at hw
  subst hw
  exact ⟨vs,F,hm,hl,h,List.Sublist.refl _⟩
 | some q =>
  obtain ⟨lo,k⟩ :=q
  obtain ⟨ha,u,f,sz,rows,hvs,hxs,hlk,hv⟩ :=hm
  subst hvs hxs
  obtain ⟨u',F1,F2,h0,hc,hr,hF⟩ :=h
  simp at h0
  subst h0
  have hF2:F2 = [] :=hr
  subst hF2
  obtain ⟨F',hcut,hsub⟩ :=hc.cut hlk
  simp only [winC,asSl,bnd] at hw
  simp only [hlk,decide_true,tst,Option.some.injEq] at hw
  subst hw
  refine ⟨[v],F',.inr ⟨ha,rfl,?_⟩,rfl,⟨v,F',[],rfl,by rw [hv]; exact hcut,rfl,by simp⟩,by rw [hF]; simpa using hsub⟩
  rw [hv]
  exact hcut.oneCell

def S.rootOf:S→Option Tmp
 | .lnk r _ _ _ _ _ _ =>some r
 | .ptr r _ _ _ =>some r
 | _ =>none

theorem Rep.root2 {w:World} {Z:CA→Prop} {l:List (Tmp × S)} {tm:Tmp→Value} {v:Value} {F:List CA} {x:S} {cs:List C} (h:Rep w Z l tm v F x) (hr:x.root = some cs) :
  ∃ D G,F = D ++ G∧RL w Z cs (rget w x v) G∧(∀ w',(∀ c,(c ∈ D∨Z c)→gcell w' c = gcell w c)→∀ i,i < cs.length→rget w' x v i = rget w x v i) ∧
   (∀ w' Z' cs' G' l' tm' c,(∀ c,Z c→Z' c)→cs'.length = cs.length→RL w' Z' cs' (rget w' x v) G'→Rep w' Z' l' tm' v (D ++ G') (x.withCells c cs')) :=by
 cases x with
 | val g a ds =>
  simp [S.root] at hr
  subst hr
  obtain ⟨vs,hp,hl,h⟩ :=h
  have e:∀ w',rget w' (.val g a ds) v = fun i =>vs[i]? :=fun w' =>by
   funext i
   simp only [rget,hp.cells]
  refine ⟨[],F,rfl,by rw [e]; exact h,fun _ _ _ _ =>rfl,?_⟩
  intro w' Z' cs' G' l' tm' c _ hlen hrl
  rw [e] at hrl
  exact ⟨vs,hp,by rw [hlen]; exact hl,hrl⟩
 | box g k ds =>
  simp [S.root] at hr
  subst hr
  obtain ⟨b,o,G,hv,h,hF⟩ :=h
  have e:∀ w',rget w' (.box g k ds) v = fun i =>cell w' (b,o + i) :=fun w' =>by
   funext i
   simp only [rget,hv]
  refine ⟨span (b,o) ds.length,G,hF,by rw [e]; exact h,fun w' hs i hi =>?_,?_⟩
  ·rw [e,e]
   exact cell_of_g (hs _ (.inl (mem_span.2 ⟨rfl,by simp,by simp; omega⟩)))
  ·intro w' Z' cs' G' l' tm' c _ hlen hrl
   rw [e] at hrl
   exact ⟨b,o,G',hv,hrl,by rw [hlen]⟩
 | fz g ds =>
  simp [S.root] at hr
  subst hr
  obtain ⟨b,o,hv,h,hz⟩ :=h
  have e:∀ w',rget w' (.fz g ds) v = fun i =>cell w' (b,o + i) :=fun w' =>by
   funext i
   simp only [rget,hv]
  refine ⟨[],F,rfl,by rw [e]; exact h,fun w' hs i hi =>?_,?_⟩
  ·rw [e,e]
   exact cell_of_g (hs _ (.inr (hz _ (mem_span.2 ⟨rfl,by simp,by simp; omega⟩))))
  ·intro w' Z' cs' G' l' tm' c hZ hlen hrl
   rw [e] at hrl
   exact ⟨b,o,hv,hrl,fun c hc =>hZ c (hz c (by rw [← hlen]; exact hc))⟩
 | _ =>simp [S.root] at hr

theorem cells_rep {w:World} {Z:CA→Prop} {tm:Tmp→Value} {s:St} {fp:Tmp→List CA} (h:Inv w Z tm s fp) {u:S} {v:Value} {a:Bool} {ys:List C} (hu:Rep w Z s.sl tm v [] u)
  (hc:cells s u = some (a,ys)):∃ vs F,Packs a vs v∧vs.length = ys.length∧RL w Z ys (fun i =>vs[i]?) F∧(∀ c ∈ F,∃ r,u.rootOf = some r∧c ∈ fp r)∧F.Nodup :=by
 cases u with
 | val g b cs =>
  simp [cells] at hc
  obtain ⟨rfl,rfl⟩ :=hc
  obtain ⟨vs,hp,hl,hr⟩ :=hu
  exact ⟨vs,[],hp,hl,hr,by simp,List.nodup_nil⟩
 | lnk r k off n b el win =>
  obtain ⟨cs,hroot,hc⟩ :=bE.1 (show bnd _ _ = some (a,ys) from hc)
  obtain ⟨xs,hg,hc⟩ :=bE.1 hc
  obtain ⟨zs,hw,hc⟩ :=bE.1 hc
  simp at hc
  obtain ⟨rfl,rfl⟩ :=hc
  obtain ⟨_,hlnk⟩ :=hu
  obtain ⟨_,vs,hn,hj,hm⟩ :=hlnk cs hroot
  obtain ⟨D,G,hF,hG,_,_⟩ :=(h.rep r).root2 (rootL_root hroot).1
  obtain ⟨hxl,A,Fx,B,hGe,hx⟩ :=place_read hG hg
  have hx':RL w Z xs (fun i =>vs[i]?) Fx :=RL.same (w' :=w) (fun _ h =>h) xs hx (fun _ _ =>rfl) (fun i hi =>(hj i (by omega)).symm)
  obtain ⟨us,F',h1,h2,h3,h4⟩ :=winC_some (a :=b) (v :=v) hx' (by omega) hw (by
   cases win with
   | none =>exact hm
   | some q =>
    obtain ⟨lo,k⟩ :=q
    obtain ⟨ha,u,f,sz,rows,e1,e2,e3,e4⟩ :=hm
    refine ⟨ha,u,f,sz,rows,e1,?_,e3,e4⟩
    have:n = 1 :=by rw [← hn,e1]; rfl
    subst this
    rw [hg] at e2
    simpa using e2)
  have hsub:∀ c ∈ G,c ∈ fp r :=fun c hc =>by rw [hF]; exact List.mem_append_right _ hc
  have hndG:G.Nodup :=by
   have :=h.nd r
   rw [hF,List.nodup_append] at this
   exact this.2.1
  have hndx:Fx.Nodup :=by
   rw [hGe,List.append_assoc,List.nodup_append] at hndG
   have :=hndG.2.1
   rw [List.nodup_append] at this
   exact this.1
  exact ⟨us,F',h1,h2,h3,fun c hc =>⟨r,rfl,hsub c (by rw [hGe]; exact List.mem_append_left _ (List.mem_append_right _ (h4.subset hc)))⟩,hndx.sublist h4⟩
 | _ =>simp [cells] at hc

structure Taken (w:World) (Z:CA→Prop) (tm:Tmp→Value) (s s':St) (fp fp':Tmp→List CA) (a:Bool) (ys:List C) (v:Value) (vs:List Value) (F:List CA):Prop where
 inv:Inv w Z tm s' fp'
 packs:Packs a vs v
 len:vs.length = ys.length
 rl:RL w Z ys (fun i =>vs[i]?) F
 nd:F.Nodup
 mine:∀ c ∈ F,Mine w Z c
 apart:∀ t,∀ c ∈ F,c ∉ fp' t
 sub:∀ t,∀ c ∈ fp' t,c ∈ fp t
 from_:∀ c ∈ F,∃ t,c ∈ fp t
 cnt:s.cnt≤s'.cnt

theorem nodup_drop_mid {A X B:List CA} (h:(A ++ X ++ B).Nodup):(A ++ [] ++ B).Nodup :=by
 refine h.sublist ?_
 simp only [List.append_nil,List.append_assoc]
 exact List.Sublist.append (List.Sublist.refl _) (List.sublist_append_right _ _)

theorem take_rep {lv:El→List C→List C} [hlv:LvOk lv] {w:World} {Z:CA→Prop} {tm:Tmp→Value} {s s':St} {fp:Tmp→List CA} (h:Inv w Z tm s fp) {u:S} {v:Value} {a:Bool} {ys:List C} (hu:Rep w Z s.sl tm v [] u)
  (ht:takeW lv s u = some (s',a,ys)):∃ fp' vs F,Taken w Z tm s s' fp fp' a ys v vs F :=by
 cases u with
 | val g b cs =>
  simp [takeW] at ht
  obtain ⟨rfl,rfl,rfl⟩ :=ht
  obtain ⟨vs,hp,hl,hr⟩ :=hu
  exact ⟨fp,vs,[],⟨h,hp,hl,hr,List.nodup_nil,by simp,by simp,fun _ _ h =>h,by simp,Nat.le_refl _⟩⟩
 | lnk r k off n b el win =>
  obtain ⟨cs,hroot,ht⟩ :=bE.1 (show bnd _ _ = some (s',a,ys) from ht)
  obtain ⟨xs,hg,ht⟩ :=bE.1 ht
  rcases tE.1 ht with ⟨hwh,ht⟩ | ⟨_,ht⟩
  case inr =>cases ht
  obtain ⟨zs,hw,ht⟩ :=bE.1 ht
  obtain ⟨cs',hset,ht⟩ :=bE.1 ht
  simp at ht
  obtain ⟨rfl,rfl,rfl⟩ :=ht
  obtain ⟨_,hlnk⟩ :=hu
  obtain ⟨_,vs,hn,hj,hm⟩ :=hlnk cs hroot
  have hrt :=(rootL_root hroot).1
  obtain ⟨D,G,hF,hG,hget,hmk⟩ :=(h.rep r).root2 hrt
  have hndr:(D ++ G).Nodup :=hF ▸ h.nd r
  have hndG:G.Nodup :=by
   rw [List.nodup_append] at hndr
   exact hndr.2.1
  have hsub:∀ c ∈ G,c ∈ fp r :=fun c hc =>by rw [hF]; exact List.mem_append_right _ hc
  -- the place,and the root without it
  have key:∃ A Fx B,G = A ++ Fx ++ B∧xs.length = n∧RL w Z xs (pget w (rget w (look s.sl r) (tm r)) cs off el) Fx∧RL w Z cs' (rget w (look s.sl r) (tm r)) (A ++ [] ++ B)∧cs'.length = cs.length :=by
   have hxl :=(place_read hG hg).1
   cases el with
   | none =>
    obtain ⟨A,Fx,B,hGe,hx,hnew⟩ :=place_set_none hG hg
    have hx':RL w Z xs (pget w (rget w (look s.sl r) (tm r)) cs off none) Fx :=hx
    have :=hnew w Z (rget w (look s.sl r) (tm r)) (lv _ xs) [] cs' (fun _ h =>h) (fun _ _ =>rfl) (fun _ _ _ =>rfl) (by rw [hlv.len]; exact hxl) (hlv.rl _ hx) hset
    exact ⟨A,Fx,B,hGe,hxl,hx',this.1,this.2⟩
   | some q =>
    obtain ⟨i,o⟩ :=q
    obtain ⟨A,Fx,B,b',p,hGe,hx,hD,hpg,_,hnew⟩ :=place_set_some hG hg hndG hset (by rw [hlv.len]; exact hxl)
    have hx':RL w Z xs (pget w (rget w (look s.sl r) (tm r)) cs off (some (i,o))) Fx :=by
     have e:pget w (rget w (look s.sl r) (tm r)) cs off (some (i,o)) = fun j =>cell w (b',p + j) :=funext hpg
     rw [e]; exact hx
    have hDZ:∀ c ∈ span (b',p) n,¬ Z c :=fun c hc =>(h.mine r c (hsub c (by rw [hGe]; exact List.mem_append_left _ (List.mem_append_left _ (hD c hc))))).2.2
    have :=hnew w Z (rget w (look s.sl r) (tm r)) (lv _ xs) [] cs' (fun _ h =>h) (fun _ _ _ =>rfl) hDZ (fun _ _ =>rfl) (by rw [hlv.len]; exact hxl) (hlv.rl _ hx) hset
    exact ⟨A,Fx,B,hGe,hxl,hx',this.1,this.2⟩
  obtain ⟨A,Fx,B,hGe,hxl,hx,hnew,hlen⟩ :=key
  have hx':RL w Z xs (fun i =>vs[i]?) Fx :=RL.same (w' :=w) (fun _ h =>h) xs hx (fun _ _ =>rfl) (fun i hi =>(hj i (by omega)).symm)
  obtain ⟨us,F',h1,h2,h3,h4⟩ :=winC_some (a :=b) (v :=v) hx' (by omega) hw (by
   cases win with
   | none =>exact hm
   | some q =>
    obtain ⟨lo,k⟩ :=q
    obtain ⟨ha,u,f,sz,rows,e1,e2,e3,e4⟩ :=hm
    refine ⟨ha,u,f,sz,rows,e1,?_,e3,e4⟩
    have:n = 1 :=by rw [← hn,e1]; rfl
    subst this
    rw [hg] at e2
    simpa using e2)
  have hxG:∀ c ∈ F',c ∈ G :=fun c hc =>by rw [hGe]; exact List.mem_append_left _ (List.mem_append_right _ (h4.subset hc))
  have hnd2:(A ++ Fx ++ B).Nodup :=hGe ▸ hndG
  have hapart:∀ c ∈ F',c ∉ A ++ [] ++ B :=fun c hc hm =>by
   have :=nodup_mid hnd2 (h4.subset hc)
   simp only [List.append_nil,List.mem_append] at hm
   exact hm.elim this.1 this.2
  have hABG:∀ c ∈ A ++ [] ++ B,c ∈ G :=fun c hc =>by
   rw [hGe]
   simp only [List.append_nil,List.mem_append] at hc ⊢
   rcases hc with h | h
   ·exact .inl (.inl h)
   ·exact .inr h
  have hndx:Fx.Nodup :=by
   rw [List.append_assoc,List.nodup_append] at hnd2
   have :=hnd2.2.1
   rw [List.nodup_append] at this
   exact this.1
  have hDG:∀ c ∈ D,c ∉ G :=fun c hc hg =>by
   rw [List.nodup_append] at hndr
   exact hndr.2.2 c hc c hg rfl
  have hrepr:∀ l tm0,Rep w Z l tm0 (tm r) (D ++ (A ++ [] ++ B)) ((look s.sl r).withCells s.cnt cs') :=fun l tm0 =>hmk w Z cs' _ l tm0 s.cnt (fun _ h =>h) hlen hnew
  have hsubr:∀ c ∈ D ++ (A ++ [] ++ B),c ∈ fp r :=fun c hc =>by
   rw [hF]
   rcases List.mem_append.1 hc with hc | hc
   ·exact List.mem_append_left _ hc
   ·exact List.mem_append_right _ (hABG c hc)
  have hndnew:(D ++ (A ++ [] ++ B)).Nodup :=by
   rw [List.nodup_append]
   rw [List.nodup_append] at hndr
   exact ⟨hndr.1,nodup_drop_mid hnd2,fun c hc d hd e =>hDG c hc (hABG c (e ▸ hd))⟩
  have hoff:∀ c ∈ F',c ∉ D ++ (A ++ [] ++ B) :=fun c hc hm =>by
   rcases List.mem_append.1 hm with hm | hm
   ·exact hDG c hm (hxG c hc)
   ·exact hapart c hc hm
  refine ⟨fun t =>if t = r then D ++ (A ++ [] ++ B) else fp t,us,F',⟨?_,h1,h2,h3,hndx.sublist h4,fun c hc =>h.mine r c (hsub c (hxG c hc)),?_,?_,fun c hc =>⟨r,hsub c (hxG c hc)⟩,?_⟩⟩
  ·exact h.upd (by rw [hrt]; rfl) (fun _ h =>h) (fun _ _ _ _ =>rfl) hrepr hndnew (fun c hc =>h.mine r c (hsubr c hc)) (fun t ht c hc =>h.disj r t (fun e =>ht e.symm) c (hsubr c hc)) (fun t _ c hc =>h.mine t c hc) h.zok
  ·intro t c hc
   by_cases htr:t = r
   ·simp only [if_pos htr]; exact hoff c hc
   ·simp only [if_neg htr]; exact h.disj r t (fun e =>htr e.symm) c (hsub c (hxG c hc))
  ·intro t c hc
   by_cases htr:t = r
   ·simp only [if_pos htr] at hc; rw [htr]; exact hsubr c hc
   ·simp only [if_neg htr] at hc; exact hc
  ·exact Nat.le_succ _
 | _ =>simp [takeW] at ht
end Go.Sx

/- Worlds that go on; types; what operands are. -/
namespace Go.Sx

/-! ### Worlds -/

structure Goes (w w':World) (F:CA→Prop):Prop where
 os:w'.os = w.os
 tape:w'.tape = w.tape
 output:w'.output = w.output
 size:w.heap.size≤w'.heap.size
 block:∀ b,b < w.heap.size→(∀ o,¬ F (b,o))→w'.heap[b]? = w.heap[b]?
 cells:∀ c:CA,c.1 < w.heap.size→¬ F c→gcell w' c = gcell w c
 fro:∀ c:CA,c.1 < w.heap.size→fro w' c = fro w c
 some:∀ c:CA,(gcell w c).isSome = true→(gcell w' c).isSome = true
 real:∀ c:CA,(cell w c).isSome = true→(cell w' c).isSome = true

theorem cellR_lt {w:World} {c:CA} (h:(cell w c).isSome = true):c.1 < w.heap.size :=by
 obtain ⟨v,hv⟩ :=Option.isSome_iff_exists.1 h
 exact World.block_lt_of_cell? w _ hv

theorem cell_lt {w:World} {c:CA} (h:(gcell w c).isSome = true):c.1 < w.heap.size :=by
 unfold gcell at h
 cases hh:w.heap[c.1]? with
 | none =>rw [hh] at h; cases h
 | some o =>exact (Array.getElem?_eq_some_iff.1 hh).1

theorem Goes.refl (w:World) (F:CA→Prop):Goes w w F :=⟨rfl,rfl,rfl,Nat.le_refl _,fun _ _ _ =>rfl,fun _ _ _ =>rfl,fun _ _ =>rfl,fun _ h =>h,fun _ h =>h⟩

theorem Goes.mono {w w':World} {F F':CA→Prop} (h:Goes w w' F) (hF:∀ c,F c→F' c):Goes w w' F' :=
 ⟨h.os,h.tape,h.output,h.size,fun b hb hn =>h.block b hb (fun o ho =>hn o (hF _ ho)),fun c hc hn =>h.cells c hc (fun hf =>hn (hF c hf)),h.fro,h.some,h.real⟩

theorem Goes.trans {w w1 w2:World} {F F1:CA→Prop} (h:Goes w w1 F) (h1:Goes w1 w2 F1) (hF:∀ c,F1 c→F c∨w.heap.size≤c.1):Goes w w2 F where
 os :=h1.os.trans h.os
 tape :=h1.tape.trans h.tape
 output :=h1.output.trans h.output
 size :=Nat.le_trans h.size h1.size
 block b hb hn :=(h1.block b (Nat.lt_of_lt_of_le hb h.size) (fun o ho =>(hF _ ho).elim (hn o) (fun hle =>absurd hb (Nat.not_lt.2 hle)))).trans (h.block b hb hn)
 cells c hc hn :=(h1.cells c (Nat.lt_of_lt_of_le hc h.size) (fun ho =>(hF _ ho).elim hn (fun hle =>absurd hc (Nat.not_lt.2 hle)))).trans (h.cells c hc hn)
 fro c hc :=(h1.fro c (Nat.lt_of_lt_of_le hc h.size)).trans (h.fro c hc)
 some c hc :=h1.some c (h.some c hc)
 real c hc :=h1.real c (h.real c hc)

theorem Goes.same {w w':World} {F:CA→Prop} (h:Goes w w' F) {G:List CA} {Z:CA→Prop} (hG:∀ c,(c ∈ G∨Z c)→(gcell w c).isSome = true∧¬ F c):Same w w' G Z :=
 fun c hc =>h.cells c (cell_lt (hG c hc).1) (hG c hc).2

theorem Goes.below {w w':World} {F:CA→Prop} (h:Goes w w' F) (hF:∀ c,¬ F c):RowKit.Below w.heap.size w w' :=⟨h.os,h.tape,h.output,h.size,fun b hb =>h.block b hb (fun _ =>hF _)⟩

theorem gcell_of_heap {w w':World} {c:CA} (h:w'.heap[c.1]? = w.heap[c.1]?):gcell w' c = gcell w c :=by unfold gcell; rw [h]
theorem cell_of_heap {w w':World} {c:CA} (h:w'.heap[c.1]? = w.heap[c.1]?):cell w' c = cell w c :=World.cell?_of_block (w :=w) (a :=⟨c.1,c.2,none⟩) h
theorem fro_of_heap {w w':World} {c:CA} (h:w'.heap[c.1]? = w.heap[c.1]?):fro w' c = fro w c :=World.frozen?_of_block (w :=w) (a :=⟨c.1,c.2,none⟩) h

theorem goes_drew (w:World) (F:CA→Prop):Goes w w.drew F :=⟨rfl,rfl,rfl,Nat.le_refl _,fun _ _ _ =>rfl,fun _ _ _ =>rfl,fun _ _ =>rfl,fun _ h =>h,fun _ h =>h⟩

theorem goes_drewN (w:World) (n:Nat) (F:CA→Prop):Goes w { w with drawn :=n } F :=⟨rfl,rfl,rfl,Nat.le_refl _,fun _ _ _ =>rfl,fun _ _ _ =>rfl,fun _ _ =>rfl,fun _ h =>h,fun _ h =>h⟩

theorem alloc_old (w:World) (o:Obj) {r:Nat} (h:r < w.heap.size):(w.alloc o).heap[r]? = w.heap[r]? :=by
 show (w.heap.push o)[r]? = _
 rw [Array.getElem?_push,if_neg (by omega)]
theorem alloc_new (w:World) (o:Obj):(w.alloc o).heap[w.heap.size]? = some o :=by
 show (w.heap.push o)[w.heap.size]? = _
 rw [Array.getElem?_push,if_pos rfl]
theorem alloc_size (w:World) (o:Obj):(w.alloc o).heap.size = w.heap.size + 1 :=by
 show (w.heap.push o).size = _
 simp

theorem goes_alloc (w:World) (o:Obj) (F:CA→Prop):Goes w (w.alloc o) F where
 os :=rfl
 tape :=rfl
 output :=rfl
 size :=by rw [alloc_size]; omega
 block b hb _ :=alloc_old w o hb
 cells c hc _ :=gcell_of_heap (alloc_old w o hc)
 fro c hc :=fro_of_heap (alloc_old w o hc)
 some c hc :=by rw [gcell_of_heap (alloc_old w o (cell_lt hc))]; exact hc
 real c hc :=by rw [cell_of_heap (alloc_old w o (cellR_lt hc))]; exact hc

theorem cell_alloc_new (w:World) (cs:Array Value) (e:TypeId) (o:Nat):cell (w.alloc (.cells cs e)) (w.heap.size,o) = cs[o]? :=by
 simp only [cell,World.cell?]
 rw [alloc_new]
 rfl
theorem fro_alloc_new (w:World) (cs:Array Value) (e:TypeId) (o:Nat):fro (w.alloc (.cells cs e)) (w.heap.size,o) = false :=by
 simp only [fro,World.frozen?]
 rw [alloc_new]
 simp

theorem cell_setCells_off (b:Nat):∀ (vs:List Value) (o:Nat) (w:World) (c:CA),c ∉ span (b,o) vs.length→cell (w.setCells b o vs) c = cell w c
 | [],_,_,_,_ =>rfl
 | v :: r,o,w,c,h =>by
  simp only [List.length_cons,span,List.mem_cons,not_or] at h
  rw [World.setCells,cell_setCells_off b r (o + 1) _ c h.2]
  refine World.cell?_setCell_other _ _ _ _ ?_
  intro e
  apply h.1
  obtain ⟨c1,c2⟩ :=c
  simp at e
  simp [e]

theorem gcell_setCell (w:World) (a:Addr) (v:Value) (c:CA) (ha:a.spot = none) (h:c ≠ (a.block,a.off)):gcell (w.setCell a v) c = gcell w c :=by
 obtain ⟨c1,c2⟩ :=c
 by_cases hb:c1 = a.block
 ·subst hb
  have hne:c2 ≠ a.off :=fun e =>h (by rw [e])
  unfold gcell World.setCell
  simp only [Array.getElem?_modify,if_true]
  cases hh:w.heap[a.block]? with
  | none =>rfl
  | some o =>
   cases o with
   | cells cs e f =>
    simp only [Option.map_some,ha,Option.isSome_none,Bool.false_eq_true,if_false]
    rw [Array.getElem?_setIfInBounds_ne (Ne.symm hne)]
   | _ =>rfl
 ·have:(w.setCell a v).heap[c1]? = w.heap[c1]? :=RowKit.Below.heap_setCell _ _ _ _ hb
  exact gcell_of_heap (c :=(c1,c2)) this
theorem gcell_setCells_off (b:Nat):∀ (vs:List Value) (o:Nat) (w:World) (c:CA),c ∉ span (b,o) vs.length→gcell (w.setCells b o vs) c = gcell w c
 | [],_,_,_,_ =>rfl
 | v :: r,o,w,c,h =>by
  simp only [List.length_cons,span,List.mem_cons,not_or] at h
  rw [World.setCells,gcell_setCells_off b r (o + 1) _ c h.2]
  exact gcell_setCell _ _ _ _ rfl h.1

theorem cell_setCells_in (b:Nat):∀ (vs:List Value) (o:Nat) (w:World),(∀ c ∈ span (b,o) vs.length,(cell w c).isSome = true)→∀ j v,vs[j]? = some v→cell (w.setCells b o vs) (b,o + j) = some v :=by
 intro vs o w h j v hv
 have hj:j < vs.length :=by
  rcases Nat.lt_or_ge j vs.length with h | h
  ·exact h
  ·simp [List.getElem?_eq_none h] at hv
 have :=World.cell?_setCells_in b vs o w (fun i hi =>h (b,o + i) (mem_span.2 ⟨rfl,by simp,by simp; omega⟩)) j hj
 show (w.setCells b o vs).cell? ⟨b,o + j,none⟩ = some v
 rw [this,← hv]
 simp [hj]

theorem goes_setCells (b:Nat) (F:CA→Prop) (vs:List Value) (o:Nat) (w:World) (hc:∀ c ∈ span (b,o) vs.length,(cell w c).isSome = true) (hF:∀ c ∈ span (b,o) vs.length,F c) :
  Goes w (w.setCells b o vs) F where
 os :=by
  clear hc hF
  induction vs generalizing o w with
  | nil =>rfl
  | cons v r ih =>rw [World.setCells,ih]; rfl
 tape :=by
  clear hc hF
  induction vs generalizing o w with
  | nil =>rfl
  | cons v r ih =>rw [World.setCells,ih]; rfl
 output :=by
  clear hc hF
  induction vs generalizing o w with
  | nil =>rfl
  | cons v r ih =>rw [World.setCells,ih]; rfl
 size :=by
  clear hc hF
  induction vs generalizing o w with
  | nil =>exact Nat.le_refl _
  | cons v r ih =>
   rw [World.setCells]
   exact Nat.le_trans (by simp [World.setCell]) (ih (o + 1) _)
 block k hk hn :=by
  clear hc
  induction vs generalizing o w with
  | nil =>rfl
  | cons v r ih =>
   have hne:k ≠ b :=fun e =>hn o (by subst e; exact hF _ (by simp [span]))
   rw [World.setCells,ih (o + 1) (w.setCell ⟨b,o,none⟩ v) (fun c hc =>hF c (by simp [span,hc])) (by simpa [World.setCell] using hk)]
   exact RowKit.Below.heap_setCell _ _ _ _ hne
 cells c _ hn :=gcell_setCells_off b vs o w c (fun h =>hn (hF c h))
 fro c _ :=World.frozen?_setCells b vs o w _
 some c h :=by
  by_cases hm:c ∈ span (b,o) vs.length
  ·obtain ⟨c1,c2⟩ :=c
   rw [mem_span] at hm
   simp only at hm
   obtain ⟨rfl,h1,h2⟩ :=hm
   have hlt:c2 - o < vs.length :=by omega
   have :=cell_setCells_in c1 vs o w hc (c2 - o) vs[c2 - o] (by simp [hlt])
   rw [show o + (c2 - o) = c2 by omega] at this
   rw [gcell_of this]
   rfl
  ·rw [gcell_setCells_off b vs o w c hm]
   exact h
 real c h :=by
  by_cases hm:c ∈ span (b,o) vs.length
  ·obtain ⟨c1,c2⟩ :=c
   rw [mem_span] at hm
   simp only at hm
   obtain ⟨rfl,h1,h2⟩ :=hm
   have hlt:c2 - o < vs.length :=by omega
   have :=cell_setCells_in c1 vs o w hc (c2 - o) vs[c2 - o] (by simp [hlt])
   rw [show o + (c2 - o) = c2 by omega] at this
   rw [this]
   rfl
  ·rw [cell_setCells_off b vs o w c hm]
   exact h

/-! ### Types -/

def zeroC:C→Value→Bool
 | .p (.int k n),.int k' m =>decide (k = k') && decide (n = m)
 | .p (.bool a),.bool b =>a == b
 | .p (.string a),.string b =>decide (a = b)
 | .p (.pointer none),.pointer none =>true
 | .p (.map none),.map none =>true
 | .sl f _ rows,.slice none n m =>!f.isShr && rows.isEmpty && decide (n = 0) && decide (m = 0)
 | _,_ =>false
def zeroL:List C→List Value→Bool
 | [],[] =>true
 | c :: cs,v :: vs =>zeroC c v && zeroL cs vs
 | _,_ =>false

def notAgg:TypeDesc→Bool
 | .struct _ =>false
 | .array _ _ =>false
 | _ =>true

structure TIOk (P:Program) (t:TypeId) (i:TI):Prop where
 info:∃ inf z,P.info? t = some inf∧inf.size = i.size∧inf.bytes = i.bytes∧inf.zero = some z∧z.cells.size = i.size∧zeroL i.zero z.cells.toList = true∧(i.k.agg = false→z.oneCell' = true)∧(i.k.agg = true→∃ cs,z = .agg cs)
 bytes:i.bytes≤32768
 size:0 < i.size
 small:i.size≤4096
 bool:∀ b,i.zero = [.p (.bool b)]→P.underlying t = some .bool
 int:∀ k n,i.zero = [.p (.int k n)]→P.underlying t = some (.int k)
 str:∀ b,i.zero = [.p (.string b)]→P.underlying t = some .string
 kind:match i.k with
  | .prim =>i.size = 1∧∃ d,P.underlying t = some d∧notAgg d = true
  | .strct offs =>∃ fs,P.underlying t = some (.struct fs)∧(∀ f d,atL offs f = some d→∃ fl inf,fs[f]? = some fl∧fl.offset = d.1∧P.info? fl.type = some inf∧inf.size = d.2.1∧d.2.1 ≠ 0)∧(∀ fl ∈ fs.toList,(P.info? fl.type).isSome = true)
  | .slc e =>i.size = 1∧P.underlying t = some (.slice e)∧∃ sz,i.zero = [.sl .own sz []]
  | .ptr e =>i.size = 1∧P.underlying t = some (.pointer e)
  | .mp k e =>i.size = 1∧P.underlying t = some (.map k e)

def TOk (P:Program) (E:Env):Prop :=∀ t i,E.T t = some i→TIOk P t i

theorem zeroC_rep {w:World} {Z:CA→Prop} {c:C} {v:Value} (h:zeroC c v = true):RC w Z c v [] :=by
 cases c with
 | hole =>cases v <;> simp [zeroC] at h
 | mp =>cases v <;> simp [zeroC] at h
 | p u =>
  cases u <;> cases v <;> simp [zeroC] at h
  ·subst h; exact ⟨rfl,rfl,rfl⟩
  ·obtain ⟨rfl,rfl⟩ :=h; exact ⟨rfl,rfl,rfl⟩
  ·subst h; exact ⟨rfl,rfl,rfl⟩
  ·rename_i a b
   cases a <;> cases b <;> simp [zeroC] at h
   exact ⟨rfl,rfl,rfl⟩
  ·rename_i a b
   cases a <;> cases b <;> simp [zeroC] at h
   exact ⟨rfl,rfl,rfl⟩
 | sl f sz rows =>
  cases v with
  | slice a n m =>
   cases a with
   | some a =>simp [zeroC] at h
   | none =>
    simp [zeroC] at h
    obtain ⟨⟨⟨hf,hr⟩,rfl⟩,rfl⟩ :=h
    have:rows = [] :=by simpa using hr
    subst this
    exact ⟨none,0,rfl,Nat.le_refl _,.inr ⟨by intro e; subst e; simp [Fl.isShr] at hf,.inl ⟨rfl,rfl,rfl,rfl⟩⟩⟩
  | _ =>simp [zeroC] at h

theorem zeroL_rep {w:World} {Z:CA→Prop}:∀ {cs:List C} {vs:List Value},zeroL cs vs = true→vs.length = cs.length∧RL w Z cs (fun i =>vs[i]?) []
 | [],[],_ =>⟨rfl,rfl⟩
 | c :: cs,v :: vs,h =>by
  simp [zeroL] at h
  obtain ⟨h1,h2⟩ :=zeroL_rep (w :=w) (Z :=Z) h.2
  exact ⟨by simp [h1],v,[],[],rfl,zeroC_rep h.1,h2,rfl⟩
 | [],_ :: _,h =>by simp [zeroL] at h
 | _ :: _,[],h =>by simp [zeroL] at h

/-! ### Operands -/

def Act.tm (a:Act):Tmp→Value :=fun t =>a.tmps.getD t undef

theorem allFree_fp {w:World} {Z:CA→Prop} {l:List (Tmp × S)} {tm:Tmp→Value} {v:Value} {F:List CA} {g:Nat} {a:Bool} {cs:List C} (h:Rep w Z l tm v F (.val g a cs)) (hf:allFree cs = true):F = [] :=by
 obtain ⟨vs,_,_,hr⟩ :=h
 exact hr.free hf

theorem dropL_zero (cs:List C):dropL 0 cs = some cs :=by cases cs <;> rfl
theorem takeL_all:∀ (cs:List C),takeL cs.length cs = some cs
 | [] =>rfl
 | c :: cs =>by
  show bnd (takeL cs.length cs) _ = _
  rw [takeL_all cs]
  rfl

theorem getP_all (cs:List C):getP cs 0 none cs.length = some cs :=by
 show bnd (dropL 0 cs) _ = _
 rw [dropL_zero]
 exact takeL_all cs

theorem isNilSlice_eq {v:Value} (h:isNilSlice v = true):v = .slice none 0 0 :=by
 cases v with
 | slice a n m =>
  cases a with
  | some a =>simp [isNilSlice] at h
  | none =>
   cases n with
   | succ n =>simp [isNilSlice] at h
   | zero =>
    cases m with
    | succ m =>simp [isNilSlice] at h
    | zero =>rfl
 | _ =>simp [isNilSlice] at h

theorem tr_free {w:World} {Z:CA→Prop}:∀ {vs:List (Bool × List C)} {us:List Value} {F:List CA},TR w Z vs us F→allFreeT vs = true→F = []
 | [],[],F,h,_ =>h
 | z :: r,u :: us,F,h,hf =>by
  obtain ⟨xs,F1,F2,_,_,h1,h2,rfl⟩ :=h
  rw [allFreeT,Bool.and_eq_true] at hf
  rw [h1.free hf.1,tr_free h2 hf.2]
  rfl
 | [],_ :: _,_,h,_ =>h.elim
 | _ :: _,[],_,h,_ =>h.elim

theorem rd_rep {P:Program} {E:Env} (hT:TOk P E) {w:World} {Z:CA→Prop} {a:Act} {s:St} {fp:Tmp→List CA} (h:Inv w Z (Act.tm a) s fp) {ty:TypeId} {x:Operand} {u:S}
  (hu:rd E ty s x = some u) :
  Rep w Z s.sl (Act.tm a) (a.eval x) [] u∧u.linksLt s.cnt :=by
 cases x with
 | tmp t =>
  have hr :=h.rep t
  have hst :=h.stamps t
  simp only [rd] at hu
  cases hl:look s.sl t with
  | val g b cs =>
   rw [hl] at hr hst hu
   simp only [S.read] at hu
   split at hu
   ·rename_i hf
    simp at hu
    subst hu
    have :=allFree_fp hr hf
    rw [this] at hr
    exact ⟨hr,trivial⟩
   ·simp at hu
    subst hu
    refine ⟨⟨rfl,fun cs' hroot =>?_⟩,hst⟩
    rw [hl] at hroot
    simp [S.rootL] at hroot
    subst hroot
    obtain ⟨vs,hp,hlen,hrl⟩ :=hr
    refine ⟨⟨cs,getP_all cs⟩,vs,hlen,fun j _ =>?_,hp⟩
    simp only [pget,rget,hl,Nat.zero_add,hp.cells]
  | fz g cs =>
   rw [hl] at hr hst hu
   simp [S.read] at hu
   subst hu
   refine ⟨⟨rfl,fun cs' hroot =>?_⟩,hst⟩
   obtain ⟨b,o,hv,_,_⟩ :=hr
   exact ⟨b,o,hv,hv⟩
  | box g k cs =>
   rw [hl] at hr hst hu
   simp [S.read] at hu
   subst hu
   refine ⟨⟨rfl,fun cs' hroot =>?_⟩,hst.1⟩
   obtain ⟨b,o,G,hv,_,_⟩ :=hr
   exact ⟨b,o,hv,hv⟩
  | lnk r k off n b el win =>
   rw [hl] at hr hst hu
   simp [S.read] at hu
   subst hu
   have hF:fp t = [] :=hr.1
   rw [hF] at hr
   exact ⟨hr,hst⟩
  | ptr r g off el =>
   rw [hl] at hr hst hu
   simp [S.read] at hu
   subst hu
   have hF:fp t = [] :=hr.1
   rw [hF] at hr
   exact ⟨hr,hst⟩
  | rp cs =>
   rw [hl] at hr hst hu
   simp [S.read] at hu
   subst hu
   have hF:fp t = [] :=hr.1
   rw [hF] at hr
   exact ⟨hr,trivial⟩
  | fn f caps =>
   rw [hl] at hr hst hu
   simp [S.read] at hu
   subst hu
   have hF:fp t = [] :=hr.1
   rw [hF] at hr
   exact ⟨hr,trivial⟩
  | tup vs =>
   rw [hl] at hr hst hu
   simp only [S.read] at hu
   split at hu
   ·rename_i hf
    simp at hu
    subst hu
    obtain ⟨us,e,htr⟩ :=hr
    have :=tr_free htr hf
    rw [this] at htr
    exact ⟨⟨us,e,htr⟩,trivial⟩
   ·cases hu
  | dead =>
   rw [hl] at hu
   simp [S.read] at hu
 | const v =>
  simp only [rd] at hu
  split at hu
  ·rename_i hns
   obtain ⟨i,hi,hu⟩ :=bE.1 hu
   obtain ⟨e,he,hu⟩ :=bE.1 hu
   simp at hu
   subst hu
   have hv :=isNilSlice_eq hns
   subst hv
   have hz:zeroL i.zero [.slice none 0 0] = true :=by
    have hk :=(hT _ _ hi).kind
    cases hki:i.k with
    | slc e =>
     rw [hki] at hk
     obtain ⟨_,_,sz,hz⟩ :=hk
     rw [hz]
     rfl
    | _ =>rw [hki] at he; simp [TK.elem] at he
   obtain ⟨hl,hr⟩ :=zeroL_rep (w :=w) (Z :=Z) hz
   exact ⟨⟨[.slice none 0 0],.inr ⟨rfl,rfl,rfl⟩,hl,hr⟩,trivial⟩
  ·rcases tE.1 hu with ⟨h1,hu⟩ | ⟨_,hu⟩
   case inr =>cases hu
   simp at hu
   subst hu
   exact ⟨⟨[v],.inr ⟨rfl,rfl,h1⟩,rfl,v,[],[],rfl,⟨rfl,h1,rfl⟩,rfl,rfl⟩,trivial⟩
 | func f =>
  simp [rd] at hu
  subst hu
  exact ⟨⟨rfl,[],rfl,trivial⟩,trivial⟩
 | global g =>simp [rd] at hu
end Go.Sx
