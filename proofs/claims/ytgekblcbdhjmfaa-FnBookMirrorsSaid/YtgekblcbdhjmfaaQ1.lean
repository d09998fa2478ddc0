/- Typed views of the book's structs (written by a program). -/
import Derived.Test.YtgekblcbdhjmfaaTab8
import Derived.Test.YtgekblcbdhjmfaaSxD
import Derived.Sort.Walk0
namespace Go.Proofs.Ytgekblcbdhjmfaa
open Go.Sx
set_option maxRecDepth 100000
set_option maxHeartbeats 64000000
set_option linter.unusedVariables false
set_option linter.unusedSimpArgs false
def intC (n:Int):List C :=[.p (.int .i64 n)]
def strC (s:ByteArray):List C :=[.p (.string s)]
def boolC (b:Bool):List C :=[.p (.bool b)]
def i64ok (n:Int):Prop :=-9223372036854775808≤n∧n≤9223372036854775807
def subW (left:Int) (w:Nat):Int :=if left < w then -1 else left - w
theorem rwS (l:List ByteArray):borRows (l.map strC) = l.map strC∧mineRows (l.map strC) = true∧wholeRows (l.map strC) = true∧allFreeRows (l.map strC) = true :=flat_rows strC (fun _ =>rfl) l

def sumWString:List ByteArray→Nat
 | [] =>0
 | x :: r =>x.size + sumWString r
def wSString (l:List ByteArray):Nat :=l.length + sumWString l
structure VO where
 kind:ByteArray
 name:ByteArray
 version:Int
 born:Int
 text:ByteArray
 ending:Bool
 holds:List ByteArray
def VO.c (f:Fl) (x:VO):List C :=[.p (.string x.kind),.p (.string x.name),.p (.int .i64 x.version),.p (.int .i64 x.born),.p (.string x.text),.p (.bool x.ending),.sl f 1 (x.holds.map strC)]
def VO.w (x:VO):Nat :=x.kind.size + x.name.size + x.text.size + wSString x.holds
def VO.ok (x:VO):Prop :=x.kind.size≤maxLen∧x.name.size≤maxLen∧i64ok x.version∧i64ok x.born∧x.text.size≤maxLen∧(x.holds.length≤maxLen∧∀ e ∈ x.holds,e.size≤maxLen)
theorem rowBookObject (x:VO):borRow (VO.c .own x) = VO.c .shr x∧mineRow (VO.c .own x) = true∧wholeRow (VO.c .own x) = true∧wholeRow (VO.c .shr x) = true∧allFree (VO.c .shr x) = true :=by
 refine ⟨?_,?_,?_,?_,?_⟩ <;> simp only [rA,seval,VO.c,rwS,Fl.isShr,Fl.isOwn]
theorem rwO (l:List VO):borRows (l.map (VO.c .own)) = l.map (VO.c .shr)∧mineRows (l.map (VO.c .own)) = true∧wholeRows (l.map (VO.c .own)) = true∧wholeRows (l.map (VO.c .shr)) = true∧allFreeRows (l.map (VO.c .shr)) = true :=rows_by (fun x =>(rowBookObject x).1) (fun x =>(rowBookObject x).2.1) (fun x =>(rowBookObject x).2.2.1) (fun x =>(rowBookObject x).2.2.2.1) (fun x =>(rowBookObject x).2.2.2.2) l
def sumWBookObject:List VO→Nat
 | [] =>0
 | x :: r =>x.w + sumWBookObject r
def wSBookObject (l:List VO):Nat :=l.length + sumWBookObject l
theorem wSBookObject_mem {l:List VO} {x:VO} (h:x ∈ l):x.w≤sumWBookObject l :=by
 induction l with
 | nil =>cases h
 | cons y r ih =>
  simp only [sumWBookObject]
  rcases List.mem_cons.1 h with rfl | h
  ·omega
  ·have :=ih h
   omega
structure VC where
 version:Int
 gone:Bool
 object:VO
def VC.c (f:Fl) (x:VC):List C :=[.p (.int .i64 x.version),.p (.bool x.gone),.p (.string x.object.kind),.p (.string x.object.name),.p (.int .i64 x.object.version),.p (.int .i64 x.object.born),.p (.string x.object.text),.p (.bool x.object.ending),.sl f 1 (x.object.holds.map strC)]
def VC.w (x:VC):Nat :=x.object.w
def VC.ok (x:VC):Prop :=i64ok x.version∧x.object.ok
theorem rowBookChange (x:VC):borRow (VC.c .own x) = VC.c .shr x∧mineRow (VC.c .own x) = true∧wholeRow (VC.c .own x) = true∧wholeRow (VC.c .shr x) = true∧allFree (VC.c .shr x) = true :=by
 refine ⟨?_,?_,?_,?_,?_⟩ <;> simp only [rA,seval,VC.c,rwS,Fl.isShr,Fl.isOwn]
theorem rwC (l:List VC):borRows (l.map (VC.c .own)) = l.map (VC.c .shr)∧mineRows (l.map (VC.c .own)) = true∧wholeRows (l.map (VC.c .own)) = true∧wholeRows (l.map (VC.c .shr)) = true∧allFreeRows (l.map (VC.c .shr)) = true :=rows_by (fun x =>(rowBookChange x).1) (fun x =>(rowBookChange x).2.1) (fun x =>(rowBookChange x).2.2.1) (fun x =>(rowBookChange x).2.2.2.1) (fun x =>(rowBookChange x).2.2.2.2) l
def sumWBookChange:List VC→Nat
 | [] =>0
 | x :: r =>x.w + sumWBookChange r
def wSBookChange (l:List VC):Nat :=l.length + sumWBookChange l
theorem wSBookChange_mem {l:List VC} {x:VC} (h:x ∈ l):x.w≤sumWBookChange l :=by
 induction l with
 | nil =>cases h
 | cons y r ih =>
  simp only [sumWBookChange]
  rcases List.mem_cons.1 h with rfl | h
  ·omega
  ·have :=ih h
   omega
structure VT where
 client:ByteArray
 number:Int
 print:ByteArray
 code:Int
 version:Int
def VT.c (x:VT):List C :=[.p (.string x.client),.p (.int .i64 x.number),.p (.string x.print),.p (.int .i64 x.code),.p (.int .i64 x.version)]
def VT.w (x:VT):Nat :=x.client.size + x.print.size
def VT.ok (x:VT):Prop :=x.client.size≤maxLen∧i64ok x.number∧x.print.size≤maxLen∧i64ok x.code∧i64ok x.version
theorem rwT (l:List VT):borRows (l.map VT.c) = l.map VT.c∧mineRows (l.map VT.c) = true∧wholeRows (l.map VT.c) = true∧allFreeRows (l.map VT.c) = true :=flat_rows VT.c (fun _ =>rfl) l
def sumWBookTicket:List VT→Nat
 | [] =>0
 | x :: r =>x.w + sumWBookTicket r
def wSBookTicket (l:List VT):Nat :=l.length + sumWBookTicket l
structure VBook where
 now:Int
 floor:Int
 objects:List VO
 history:List VC
 tickets:List VT
def VBook.c (f:Fl) (x:VBook):List C :=[.p (.int .i64 x.now),.p (.int .i64 x.floor),.sl f 7 (x.objects.map (VO.c f)),.sl f 9 (x.history.map (VC.c f)),.sl f 5 (x.tickets.map VT.c)]
def VBook.w (x:VBook):Nat :=wSBookObject x.objects + wSBookChange x.history + wSBookTicket x.tickets
def VBook.ok (x:VBook):Prop :=i64ok x.now∧i64ok x.floor∧(x.objects.length≤maxLen∧∀ e ∈ x.objects,e.ok)∧(x.history.length≤maxLen∧∀ e ∈ x.history,e.ok)∧(x.tickets.length≤maxLen∧∀ e ∈ x.tickets,e.ok)
theorem rowBook (x:VBook):borRow (VBook.c .own x) = VBook.c .shr x∧mineRow (VBook.c .own x) = true∧wholeRow (VBook.c .own x) = true∧wholeRow (VBook.c .shr x) = true∧allFree (VBook.c .shr x) = true :=by
 refine ⟨?_,?_,?_,?_,?_⟩ <;> simp only [rA,seval,VBook.c,rwO,rwC,rwT,Fl.isShr,Fl.isOwn]
structure VW where
 op:Int
 kind:ByteArray
 name:ByteArray
 seen:Int
 text:ByteArray
 hold:ByteArray
def VW.c (x:VW):List C :=[.p (.int .i64 x.op),.p (.string x.kind),.p (.string x.name),.p (.int .i64 x.seen),.p (.string x.text),.p (.string x.hold)]
def VW.w (x:VW):Nat :=x.kind.size + x.name.size + x.text.size + x.hold.size
def VW.ok (x:VW):Prop :=i64ok x.op∧x.kind.size≤maxLen∧x.name.size≤maxLen∧i64ok x.seen∧x.text.size≤maxLen∧x.hold.size≤maxLen
theorem rowsBookWrite (l:List VW):borRows (l.map VW.c) = l.map VW.c∧mineRows (l.map VW.c) = true∧wholeRows (l.map VW.c) = true∧allFreeRows (l.map VW.c) = true :=flat_rows VW.c (fun _ =>rfl) l
structure VN where
 kind:ByteArray
 name:ByteArray
 version:Int
def VN.c (x:VN):List C :=[.p (.string x.kind),.p (.string x.name),.p (.int .i64 x.version)]
def VN.w (x:VN):Nat :=x.kind.size + x.name.size
def VN.ok (x:VN):Prop :=x.kind.size≤maxLen∧x.name.size≤maxLen∧i64ok x.version
theorem rowsBookWant (l:List VN):borRows (l.map VN.c) = l.map VN.c∧mineRows (l.map VN.c) = true∧wholeRows (l.map VN.c) = true∧allFreeRows (l.map VN.c) = true :=flat_rows VN.c (fun _ =>rfl) l
def sumWBookWant:List VN→Nat
 | [] =>0
 | x :: r =>x.w + sumWBookWant r
def wSBookWant (l:List VN):Nat :=l.length + sumWBookWant l
def sumWBookWrite:List VW→Nat
 | [] =>0
 | x :: r =>x.w + sumWBookWrite r
def wSBookWrite (l:List VW):Nat :=l.length + sumWBookWrite l
structure VU where
 wants:List VN
 writes:List VW
def VU.c (f:Fl) (x:VU):List C :=[.sl f 3 (x.wants.map VN.c),.sl f 6 (x.writes.map VW.c)]
def VU.w (x:VU):Nat :=wSBookWant x.wants + wSBookWrite x.writes
def VU.ok (x:VU):Prop :=(x.wants.length≤maxLen∧∀ e ∈ x.wants,e.ok)∧(x.writes.length≤maxLen∧∀ e ∈ x.writes,e.ok)
structure VDi where
 code:Int
 book:VBook
 version:Int
def VDi.c (f:Fl) (x:VDi):List C :=[.p (.int .i64 x.code),.p (.int .i64 x.book.now),.p (.int .i64 x.book.floor),.sl f 7 (x.book.objects.map (VO.c f)),.sl f 9 (x.book.history.map (VC.c f)),.sl f 5 (x.book.tickets.map VT.c),.p (.int .i64 x.version)]
def VDi.w (x:VDi):Nat :=x.book.w
def VDi.ok (x:VDi):Prop :=i64ok x.code∧x.book.ok∧i64ok x.version
structure VMi where
 kind:ByteArray
 prefix_:ByteArray
 at_:Int
 objects:List VO
 seen:Int
def VMi.c (f:Fl) (x:VMi):List C :=[.p (.string x.kind),.p (.string x.prefix_),.p (.int .i64 x.at_),.sl f 7 (x.objects.map (VO.c f)),.p (.int .i64 x.seen)]
def VMi.w (x:VMi):Nat :=x.kind.size + x.prefix_.size + wSBookObject x.objects
def VMi.ok (x:VMi):Prop :=x.kind.size≤maxLen∧x.prefix_.size≤maxLen∧i64ok x.at_∧(x.objects.length≤maxLen∧∀ e ∈ x.objects,e.ok)∧i64ok x.seen
structure VNe where
 code:Int
 changes:List VC
 from_:Int
def VNe.c (f:Fl) (x:VNe):List C :=[.p (.int .i64 x.code),.sl f 9 (x.changes.map (VC.c f)),.p (.int .i64 x.from_)]
def VNe.w (x:VNe):Nat :=wSBookChange x.changes
def VNe.ok (x:VNe):Prop :=i64ok x.code∧(x.changes.length≤maxLen∧∀ e ∈ x.changes,e.ok)∧i64ok x.from_
theorem rowBookNews (x:VNe):borRow (VNe.c .own x) = VNe.c .shr x∧mineRow (VNe.c .own x) = true∧wholeRow (VNe.c .own x) = true∧wholeRow (VNe.c .shr x) = true∧allFree (VNe.c .shr x) = true :=by
 refine ⟨?_,?_,?_,?_,?_⟩ <;> simp only [rA,seval,VNe.c,rwC,Fl.isShr,Fl.isOwn]
structure VWa where
 kind:ByteArray
 prefix_:ByteArray
 from_:Int
def VWa.c (x:VWa):List C :=[.p (.string x.kind),.p (.string x.prefix_),.p (.int .i64 x.from_)]
def VWa.w (x:VWa):Nat :=x.kind.size + x.prefix_.size
def VWa.ok (x:VWa):Prop :=x.kind.size≤maxLen∧x.prefix_.size≤maxLen∧i64ok x.from_
structure VCa where
 client:ByteArray
 number:Int
 bundle:VU
def VCa.c (f:Fl) (x:VCa):List C :=[.p (.string x.client),.p (.int .i64 x.number),.sl f 3 (x.bundle.wants.map VN.c),.sl f 6 (x.bundle.writes.map VW.c)]
def VCa.w (x:VCa):Nat :=x.client.size + x.bundle.w
def VCa.ok (x:VCa):Prop :=x.client.size≤maxLen∧i64ok x.number∧x.bundle.ok
structure VSa where
 code:Int
 version:Int
 again:Bool
def VSa.c (x:VSa):List C :=[.p (.int .i64 x.code),.p (.int .i64 x.version),.p (.bool x.again)]
def VSa.w (x:VSa):Nat :=0
def VSa.ok (x:VSa):Prop :=i64ok x.code∧i64ok x.version
def byC (x:Int):List C :=[.p (.int .u8 x)]
def rdC (bs:List Int) (p:Nat):List C :=[.sl .shr 1 (bs.map byC),.p (.int .i64 p)]
def Bytes (bs:List Int):Prop :=bs.length≤2000∧∀ x ∈ bs,0≤x∧x≤255
theorem rowsBy (l:List Int):borRows (l.map byC) = l.map byC∧mineRows (l.map byC) = true∧wholeRows (l.map byC) = true∧allFreeRows (l.map byC) = true :=flat_rows byC (fun _ =>rfl) l
theorem xor_nn {x y:Int} (hx:0≤x) (hx2:x < 4611686018427387904) (hy:0≤y) (hy2:y < 4611686018427387904):0≤xorV .i64 x y :=by
 have h1:(BitVec.ofInt 64 x).toNat = x.toNat :=by
  rw [BitVec.toNat_ofInt]
  congr 1
  exact Int.emod_eq_of_lt hx (by simpa using (by omega:x < 18446744073709551616))
 have h2:(BitVec.ofInt 64 y).toNat = y.toNat :=by
  rw [BitVec.toNat_ofInt]
  congr 1
  exact Int.emod_eq_of_lt hy (by simpa using (by omega:y < 18446744073709551616))
 have h3:x.toNat ^^^ y.toNat < 2 ^ 62 :=Nat.xor_lt_two_pow (by omega) (by omega)
 have h4:((BitVec.ofInt 64 x ^^^ BitVec.ofInt 64 y).toNat:Int) < 4611686018427387904 :=by
  rw [BitVec.toNat_xor,h1,h2]
  omega
 have e:xorV .i64 x y = IntKind.i64.wrap ((BitVec.ofInt 64 x ^^^ BitVec.ofInt 64 y).toNat:Int) :=rfl
 rw [e,wrap64 (by omega) (by omega)]
 omega
theorem k30 {bs:List Int} (hb:Bytes bs) (p:Nat) (hp:p≤1000000) (n:Int):∃ k:Int,(0≤k∧(k < n∨k = 0))∧EV Try.prog E 30 [.box 0 0 (rdC bs p),.val 0 false [.p (.int .i64 n)]] = some ⟨[(false,[.p (.int .i64 k)])],[rdC bs (p + 1)]⟩ :=by
 obtain ⟨hl,hb⟩ :=hb
 have w0 :=wrap64 (n :=(p:Int) + 1) (by omega) (by omega)
 have w1 :=wrap64 (n :=(p:Int) + 1 - 1) (by omega) (by omega)
 have e1:(p:Int) + 1 - 1 = p :=by omega
 rw [e1] at w1
 have hc:(((p + 1:Nat)):Int) = (p:Int) + 1 :=by omega
 by_cases hn:n < 1
 ·refine ⟨0,⟨by omega,.inr rfl⟩,eVi Try.func30 rfl ?_⟩
  simp only [rA,seval,e30,Try.f30,rdC,hn,w0,hc]
 by_cases h0:(bs.length:Int) = 0
 ·refine ⟨0,⟨by omega,.inr rfl⟩,eVi Try.func30 rfl ?_⟩
  simp only [rA,seval,e30,Try.f30,rdC,hn,h0,w0,hc,List.length_map]
 have hn0:¬ n = 0 :=by omega
 have hlp:0 < bs.length :=by omega
 by_cases h1:(p:Int) < (bs.length:Int)
 ·have hlt:p < bs.length :=by omega
  obtain ⟨x,hx⟩:∃ x,bs[p]? = some x :=⟨bs[p],List.getElem?_eq_getElem hlt⟩
  have hxb :=hb x (List.mem_of_getElem? hx)
  have hr :=getElem?_map_some (f :=byC) hx
  simp only [byC] at hr
  have hp0:(0:Int)≤(p:Int) :=by omega
  have wx :=wrap64 (n :=x) (by omega) (by omega)
  refine ⟨x.tmod n,⟨Int.tmod_nonneg _ hxb.1,.inl (Int.tmod_lt_of_pos _ (by omega))⟩,eVi Try.func30 rfl ?_⟩
  simp only [rA,seval,e30,Try.f30,rdC,hn,hn0,h0,h1,hr,hp0,w0,w1,e1,wx,hc,List.length_map,i64c]
 ·have hlI:(0:Int)≤(bs.length:Int) :=by omega
  have e2:(p:Int).tmod (bs.length:Int) = ((p % bs.length:Nat):Int) :=by rw [Int.tmod_eq_emod_of_nonneg (by omega)]; exact (Int.natCast_emod _ _).symm
  have e3:((p:Int) * 7 + 3).tmod (bs.length:Int) = (((p * 7 + 3) % bs.length:Nat):Int) :=by
   rw [Int.tmod_eq_emod_of_nonneg (by omega)]
   rw [show (p:Int) * 7 + 3 = ((p * 7 + 3:Nat):Int) by omega]
   exact (Int.natCast_emod _ _).symm
  have e4:(p:Int).tdiv (bs.length:Int) = ((p / bs.length:Nat):Int) :=by rw [Int.tdiv_eq_ediv_of_nonneg (by omega)]; exact (Int.natCast_ediv _ _).symm
  have q1 :=Nat.mod_lt p hlp
  have q2 :=Nat.mod_lt (p * 7 + 3) hlp
  have q3 :=Nat.div_le_self p bs.length
  obtain ⟨x,hx⟩:∃ x,bs[p % bs.length]? = some x :=⟨_,List.getElem?_eq_getElem q1⟩
  obtain ⟨y,hy⟩:∃ y,bs[(p * 7 + 3) % bs.length]? = some y :=⟨_,List.getElem?_eq_getElem q2⟩
  have hxb :=hb x (List.mem_of_getElem? hx)
  have hyb :=hb y (List.mem_of_getElem? hy)
  have hr :=getElem?_map_some (f :=byC) hx
  have hs :=getElem?_map_some (f :=byC) hy
  simp only [byC] at hr hs
  generalize p % bs.length = i1 at *
  generalize (p * 7 + 3) % bs.length = i2 at *
  generalize p / bs.length = dv at *
  have i10:(0:Int)≤(i1:Int) :=by omega
  have i11:(i1:Int) < (bs.length:Int) :=by omega
  have i20:(0:Int)≤(i2:Int) :=by omega
  have i21:(i2:Int) < (bs.length:Int) :=by omega
  have v1 :=wrap64 (n :=x) (by omega) (by omega)
  have v2 :=wrap64 (n :=y) (by omega) (by omega)
  have v3 :=wrap64 (n :=x * 131) (by omega) (by omega)
  have v4 :=wrap64 (n :=(p:Int) * 7) (by omega) (by omega)
  have v5 :=wrap64 (n :=(p:Int) * 7 + 3) (by omega) (by omega)
  have v6 :=wrap64 (n :=y * 1117) (by omega) (by omega)
  have v7 :=wrap64 (n :=x * 131 + y * 1117) (by omega) (by omega)
  have v8 :=wrap64 (n :=(p:Int) * 29) (by omega) (by omega)
  have v9 :=wrap64 (n :=x * 131 + y * 1117 + (p:Int) * 29) (by omega) (by omega)
  have va :=wrap64 (n :=(dv:Int)) (by omega) (by omega)
  have vb :=wrap64 (n :=(dv:Int) * 53) (by omega) (by omega)
  have vc :=wrap64 (n :=x * 131 + y * 1117 + (p:Int) * 29 + (dv:Int) * 53) (by omega) (by omega)
  have b0:0≤x * 131 + y * 1117 + (p:Int) * 29 + (dv:Int) * 53 :=by omega
  have b1:x * 131 + y * 1117 + (p:Int) * 29 + (dv:Int) * 53 < 4611686018427387904 :=by omega
  generalize hX:x * 131 + y * 1117 + (p:Int) * 29 + (dv:Int) * 53 = X at *
  have d1:0≤X.tdiv 64 :=Int.tdiv_nonneg b0 (by decide)
  have d2:X.tdiv 64≤X :=by rw [Int.tdiv_eq_ediv_of_nonneg b0]; omega
  have vd :=wrap64 (n :=X.tdiv 64) (by omega) (by omega)
  have hk :=xor_nn b0 b1 d1 (by omega)
  refine ⟨(xorV .i64 X (X.tdiv 64)).tmod n,⟨Int.tmod_nonneg _ hk,.inl (Int.tmod_lt_of_pos _ (by omega))⟩,eVi Try.func30 rfl ?_⟩
  simp only [rA,seval,e30,Try.f30,rdC,hn,hn0,h0,h1,hr,hs,hX,i10,i11,i20,i21,v1,v2,v3,v4,v5,v6,v7,v8,v9,va,vb,vc,vd,e2,e3,e4,w0,w1,e1,hc,List.length_map,i64c]
theorem rdNil (E:Env) (ty:TypeId) (s:St):rd E ty s (.const (.pointer none)) = some (.val 0 false [.p (.pointer none)]) :=rfl
theorem n0c:((0:Nat):Int) = 0 :=rfl
theorem k28 {l:List Int} (hl:l.length≤2097152) (hb:∀ x ∈ l,0≤x∧x≤255):∃ bs,Bytes bs∧EV Try.prog E 28 [.val 0 false [.sl .shr 1 (l.map byC)]] = some ⟨[(false,[]),(true,rdC bs 0)],[]⟩ :=by
 by_cases h:(2000:Int) < (l.length:Int)
 ·refine ⟨l.take 2000,⟨by rw [List.length_take]; omega,fun x hx =>hb x (List.mem_of_mem_take hx)⟩,eVi Try.func28 rfl ?_⟩
  have hr :=(rowsBy (l.take 2000)).2.2.1
  rw [List.map_take] at hr
  have h2:(2000:Int)≤(l.length:Int) :=by omega
  have h3:2000≤l.length :=by omega
  have h4:Int.toNat 2000 = 2000 :=rfl
  simp only [rA,seval,e28,Try.f28,rdC,rdNil,n0c,h,h2,h3,h4,Nat.zero_le,Nat.sub_zero,hr,List.length_map,List.map_take,LIM]
 ·refine ⟨l,⟨by omega,hb⟩,eVi Try.func28 rfl ?_⟩
  have hr :=(rowsBy l).2.2.1
  simp only [rA,seval,e28,Try.f28,rdC,rdNil,n0c,h,hr,List.length_map]
theorem tmod2 (n:Nat):(n:Int).tmod 2 = ((n % 2:Nat):Int) :=rfl
theorem tdiv2 (n:Nat):(n:Int).tdiv 2 = ((n / 2:Nat):Int) :=rfl
theorem k94 (t:ByteArray) (n:Nat) (hn:n≤1000) (ht:t.size≤20):∃ u:ByteArray,u.size = n * t.size∧EV Try.prog E 94 [.val 0 false [.p (.string t)],.val 0 false [.p (.int .i64 n)]] = some ⟨[(false,[.p (.string u)])],[]⟩ :=by
 have key:∃ r,EV Try.prog E 94 [.val 0 false [.p (.string t)],.val 0 false [.p (.int .i64 n)]] = some r∧∃ u:ByteArray,u.size = n * t.size∧r = ⟨[(false,[.p (.string u)])],[]⟩ :=by
  refine EV_introX Try.func94 rfl ?_
  have hN:n * t.size≤20000 :=Nat.le_trans (Nat.mul_le_mul hn ht) (by decide)
  simp only [rA,seval,e94,Try.f94]
  generalize hX:blockO _ _ (itω _ _ _) = X
  have hw:∃ o,X = some o∧∃ u:ByteArray,u.size = n * t.size∧o = .norm ⟨1,[(5,.val 0 false [.p (.string u)])]⟩ :=by
   refine while_ex hX (fun (q:Nat × ByteArray × ByteArray) =>⟨3,[(0,.val 0 false [.p (.string q.2.1)]),(1,.val 1 false [.p (.int .i64 q.1)]),(5,.val 2 false [.p (.string q.2.2)])]⟩)
    (fun q =>q.2.2.size + q.1 * q.2.1.size = n * t.size∧q.1≤1000∧q.2.1.size≤40000) (fun o =>∃ u:ByteArray,u.size = n * t.size∧o = .norm ⟨1,[(5,.val 0 false [.p (.string u)])]⟩) (fun q =>q.1) ?_ (i :=(n,t,⟨#[]⟩)) ⟨by show 0 + n * t.size = n * t.size; omega,hn,by show t.size≤40000; omega⟩ (by simp only [rA,seval,e94])
   rintro ⟨m,s,r⟩ ⟨h1,h2,h3⟩
   simp only at h1 h2 h3
   by_cases hm:0 < (m:Int)
   ·left
    have hm1:1≤m :=by omega
    have h4:s.size≤m * s.size :=Nat.le_mul_of_pos_left _ hm1
    have h5:r.size + s.size < 9223372036854775807 :=by omega
    have h6:s.size + s.size < 9223372036854775807 :=by omega
    have h7 :=wrap64 (n :=((m / 2:Nat):Int)) (by omega) (by omega)
    have e:m = 2 * (m / 2) + m % 2 :=by omega
    have h8:m * s.size = 2 * (m / 2 * s.size) + m % 2 * s.size :=by
     conv =>lhs; rw [e]
     rw [Nat.add_mul,Nat.mul_assoc]
    have h9:m / 2 * (s.size + s.size) = 2 * (m / 2 * s.size) :=by rw [Nat.mul_add]; omega
    by_cases hp:((m % 2:Nat):Int) = 1
    ·have hp2:m % 2 = 1 :=by omega
     rw [hp2,Nat.one_mul] at h8
     refine ⟨(m / 2,s ++ s,r ++ s),?_,⟨by simp only [ByteArray.size_append]; omega,by simp only; omega,by simp only [ByteArray.size_append]; omega⟩,by simp only; omega⟩
     simp only [rA,seval,e94,hm,tmod2,tdiv2,hp,h5,h6,h7]
    ·have hp2:m % 2 = 0 :=by omega
     rw [hp2,Nat.zero_mul] at h8
     refine ⟨(m / 2,s ++ s,r),?_,⟨by simp only [ByteArray.size_append]; omega,by simp only; omega,by simp only [ByteArray.size_append]; omega⟩,by simp only; omega⟩
     simp only [rA,seval,e94,hm,tmod2,tdiv2,hp,h5,h6,h7]
   ·right
    have h0:m = 0 :=by omega
    subst h0
    exact ⟨_,by simp only [rA,seval,e94,hm],r,by omega,rfl⟩
  obtain ⟨o,ho,u,hu,rfl⟩ :=hw
  rw [ho]
  simp only [rA,seval,e94]
  exact ⟨_,rfl,u,hu,rfl⟩
 obtain ⟨r,h1,u,h2,rfl⟩ :=key
 exact ⟨u,h2,h1⟩
theorem k95:∀ (f n:Nat),n < 10 ^ (f + 1)→n≤1000000000→f≤20→∃ u:ByteArray,u.size≤f + 1∧EV Try.prog E 95 [.val 0 false [.p (.int .i64 n)]] = some ⟨[(false,[.p (.string u)])],[]⟩ :=by
 intro f
 induction f with
 | zero =>
  intro n h h2 h3
  have h4:(n:Int) < 10 :=by simp at h; omega
  have h5:¬ (n:Int) < 0 :=by omega
  refine ⟨⟨#[UInt8.ofNat (IntKind.u8.wrap (IntKind.i64.wrap (48 + (n:Int)))).toNat]⟩,by exact Nat.le_refl 1,eVi Try.func95 rfl ?_⟩
  simp only [rA,seval,e95,Try.f95,h4,h5]
 | succ f ih =>
  intro n h h2 h3
  have h5:¬ (n:Int) < 0 :=by omega
  by_cases h4:(n:Int) < 10
  ·refine ⟨⟨#[UInt8.ofNat (IntKind.u8.wrap (IntKind.i64.wrap (48 + (n:Int)))).toNat]⟩,by have:(⟨#[UInt8.ofNat (IntKind.u8.wrap (IntKind.i64.wrap (48 + (n:Int)))).toNat]⟩:ByteArray).size = 1 :=rfl; omega,eVi Try.func95 rfl ?_⟩
   simp only [rA,seval,e95,Try.f95,h4,h5]
  ·obtain ⟨u,hu,he⟩ :=ih (n / 10) (by rw [Nat.pow_succ] at h; omega) (by omega) (by omega)
   have h7 :=wrap64 (n :=((n / 10:Nat):Int)) (by omega) (by omega)
   have e2:(dgt n).size = 1 :=rfl
   have h6:u.size + (dgt n).size < 9223372036854775807 :=by omega
   refine ⟨u ++ dgt n,by rw [ByteArray.size_append]; omega,eVi Try.func95 rfl ?_⟩
   unfold dgt at h6 ⊢
   simp only [rA,seval,e95,Try.f95,h4,h5,tmod10,tdiv10,h7,he,h6]
theorem k89 {bs:List Int} (hb:Bytes bs) (p:Nat) (hp:p≤999990):∃ (u:ByteArray) (p':Nat),u.size≤300∧p≤p'∧p'≤p + 2∧EV Try.prog E 89 [.box 0 0 (rdC bs p)] = some ⟨[(false,[.p (.string u)])],[rdC bs p']⟩ :=by
 obtain ⟨k,⟨hk0,hk1⟩,h1⟩ :=k30 hb p (by omega) 8
 simp only [rdC] at h1
 by_cases c0:k = 0
 ·refine ⟨⟨#[]⟩,p + 1,by decide,by omega,by omega,eVi Try.func89 rfl ?_⟩
  simp only [rA,seval,e89,e30,Try.f89,rdC,h1,c0]
 by_cases c1:k = 1
 ·refine ⟨⟨#[113,34,117,92,111,10,255]⟩,p + 1,by decide,by omega,by omega,eVi Try.func89 rfl ?_⟩
  simp only [rA,seval,e89,e30,Try.f89,rdC,h1,c0,c1]
 by_cases c2:k = 2
 ·obtain ⟨k2,⟨hk2,hk3⟩,h2⟩ :=k30 hb (p + 1) (by omega) 2
  simp only [rdC] at h2
  have hn:300 - k2 = ((300 - k2).toNat:Int) :=by omega
  obtain ⟨u,hu,h3⟩ :=k94 ⟨#[116]⟩ (300 - k2).toNat (by omega) (by decide)
  rw [← hn] at h3
  have hw :=wrap64 (n :=300 - k2) (by omega) (by omega)
  have e1:(⟨#[116]⟩:ByteArray).size = 1 :=rfl
  rw [e1] at hu
  refine ⟨u,p + 1 + 1,by omega,by omega,by omega,eVi Try.func89 rfl ?_⟩
  simp only [rA,seval,e89,e30,e94,Try.f89,rdC,h1,h2,h3,hw,c2]
 ·obtain ⟨k2,⟨hk2,hk3⟩,h2⟩ :=k30 hb (p + 1) (by omega) 20
  simp only [rdC] at h2
  have hn:k2 = (k2.toNat:Int) :=by omega
  obtain ⟨u,hu,h3⟩ :=k95 1 k2.toNat (by omega) (by omega) (by omega)
  rw [← hn] at h3
  have e1:(⟨#[118]⟩:ByteArray).size = 1 :=rfl
  have hs:(⟨#[118]⟩:ByteArray).size + u.size < 9223372036854775807 :=by omega
  refine ⟨⟨#[118]⟩ ++ u,p + 1 + 1,by rw [ByteArray.size_append]; omega,by omega,by omega,eVi Try.func89 rfl ?_⟩
  simp only [rA,seval,e89,e30,e95,Try.f89,rdC,h1,h2,h3,c0,c1,c2,hs]
def KL:List ByteArray :=[⟨#[98,101,114,116,104]⟩,⟨#[106,111,98]⟩,⟨#[97,46,98]⟩]
def NL:List ByteArray :=[⟨#[120]⟩,⟨#[120,49]⟩,⟨#[121]⟩,⟨#[122,45,48]⟩]
def HL:List ByteArray :=[⟨#[104]⟩,⟨#[104,50]⟩,⟨#[107,101,101,112,101,114]⟩,⟨#[97]⟩,⟨#[98]⟩,⟨#[99]⟩]
theorem KL_sz:∀ s ∈ KL,s.size≤6 :=by
 intro s hs
 simp only [KL,List.mem_cons,List.not_mem_nil,or_false] at hs
 rcases hs with rfl | rfl | rfl <;> decide
theorem NL_sz:∀ s ∈ NL,s.size≤6 :=by
 intro s hs
 simp only [NL,List.mem_cons,List.not_mem_nil,or_false] at hs
 rcases hs with rfl | rfl | rfl | rfl <;> decide
theorem HL_sz:∀ s ∈ HL,s.size≤6 :=by
 intro s hs
 simp only [HL,List.mem_cons,List.not_mem_nil,or_false] at hs
 rcases hs with rfl | rfl | rfl | rfl | rfl | rfl <;> decide
theorem pickL (L:List ByteArray) {k:Int} (h0:0≤k) (h1:k < L.length):∃ s ∈ L,(L.map strC)[k.toNat]? = some (strC s) :=by
 have h:k.toNat < L.length :=by omega
 exact ⟨L[k.toNat],List.getElem_mem h,getElem?_map_some (f :=strC) (List.getElem?_eq_getElem h)⟩
theorem hold_sz {l:List ByteArray} {s:ByteArray} (h:s ∈ l):s.size≤wSString l :=by
 induction l with
 | nil =>cases h
 | cons x r ih =>
  simp only [wSString,sumWString,List.length_cons] at ih ⊢
  rcases List.mem_cons.1 h with rfl | h
  ·omega
  ·have :=ih h
   omega
theorem k76 {bs:List Int} (hb:Bytes bs) (p:Nat) (hp:p≤999900) (b:VBook) (hol:b.objects.length≤4194304) {M:Nat} (hM:∀ o ∈ b.objects,o.w≤M∧o.holds.length≤4194304∧0≤o.version∧o.version≤1000000000) :
  ∃ (w:VW) (p':Nat),w.w≤M + 400∧((0≤w.op∧w.op≤1000000000)∧0≤w.seen∧w.seen≤1000000000)∧p≤p'∧p'≤p + 12∧EV Try.prog E 76 [.box 0 0 (rdC bs p),.val 0 true (b.c .shr)] = some ⟨[(true,VW.c w)],[rdC bs p']⟩ :=by
 obtain ⟨k1,⟨k10,k11⟩,h1⟩ :=k30 hb p (by omega) 5
 obtain ⟨k2,⟨k20,k21⟩,h2⟩ :=k30 hb (p + 1) (by omega) 3
 obtain ⟨k3,⟨k3a,k3b⟩,h3⟩ :=k30 hb (p + 1 + 1) (by omega) 4
 have k22:k2 < 3 :=by omega
 have k23:k2.toNat < 3 :=by omega
 have k32:k3 < 4 :=by omega
 have k33:k3.toNat < 4 :=by omega
 obtain ⟨kd,hkd,hr2⟩ :=pickL KL k20 (by simpa [KL] using k22)
 obtain ⟨nm,hnm,hr3⟩ :=pickL NL k3a (by simpa [NL] using k32)
 have skd :=KL_sz kd hkd
 have snm :=NL_sz nm hnm
 simp only [rdC] at h1 h2 h3
 simp only [KL,NL,List.map_cons,List.map_nil,strC] at hr2 hr3
 have w1 :=wrap64 (n :=1 + k1) (by omega) (by omega)
 have hop:∃ op,1 + k1 = op∧1≤op∧op≤5 :=⟨_,rfl,by omega,by omega⟩
 obtain ⟨op,hop,o1,o5⟩ :=hop
 rw [hop] at w1
 have z0:(⟨#[]⟩:ByteArray).size = 0 :=rfl
 rcases (show op = 1∨op = 2∨op = 3∨op = 4∨op = 5 by omega) with rfl | rfl | rfl | rfl | rfl
 ·skip
  obtain ⟨tx,pt,htx,pt1,pt2,h89⟩ :=k89 hb (p + 1 + 1 + 1) (by omega)
  simp only [rdC] at h89
  obtain ⟨kc,⟨kca,kcb⟩,hkc⟩ :=k30 hb (pt) (by omega) 3
  simp only [rdC] at hkc
  by_cases kcz:kc = 0
  ·skip
   obtain ⟨kh,⟨kha,khb⟩,hkh⟩ :=k30 hb (pt + 1) (by omega) 6
   simp only [rdC] at hkh
   have khc:kh < 6 :=by omega
   have khn:kh.toNat < 6 :=by omega
   obtain ⟨hd,hhd,hrh⟩ :=pickL HL kha (by simpa [HL] using khc)
   have shd :=HL_sz hd hhd
   simp only [HL,List.map_cons,List.map_nil,strC] at hrh
   refine ⟨⟨1,kd,nm,0,tx,hd⟩,pt + 1 + 1,by simp only [VW.w,z0]; omega,⟨⟨by simp only; omega,by simp only; omega⟩,by simp only; omega,by simp only; omega⟩,by omega,by omega,eVi Try.func76 rfl ?_⟩
   simp only [rA,seval,e76,e30,e89,Try.f76,rdC,VBook.c,VW.c,VO.c,List.length_map,h1,h2,h3,hr2,hr3,k20,k22,k23,k3a,k32,k33,hop,w1,h89,hkc,kcz,hkh,kha,khc,khn,hrh]
  ·skip
   refine ⟨⟨1,kd,nm,0,tx,⟨#[]⟩⟩,pt + 1,by simp only [VW.w,z0]; omega,⟨⟨by simp only; omega,by simp only; omega⟩,by simp only; omega,by simp only; omega⟩,by omega,by omega,eVi Try.func76 rfl ?_⟩
   simp only [rA,seval,e76,e30,e89,Try.f76,rdC,VBook.c,VW.c,VO.c,List.length_map,h1,h2,h3,hr2,hr3,k20,k22,k23,k3a,k32,k33,hop,w1,h89,hkc,kcz]
 ·skip
  by_cases hl0:0 < (b.objects.length:Int)
  ·skip
   obtain ⟨kp,⟨kpa,kpb⟩,hkp⟩ :=k30 hb (p + 1 + 1 + 1) (by omega) 6
   simp only [rdC] at hkp
   by_cases kpz:0 < kp
   ·skip
    obtain ⟨ko,⟨koa,kob⟩,hko⟩ :=k30 hb (p + 1 + 1 + 1 + 1) (by omega) (b.objects.length:Int)
    simp only [rdC] at hko
    have koc:ko < (b.objects.length:Int) :=by omega
    have kon:ko.toNat < b.objects.length :=by omega
    obtain ⟨o,ho⟩:∃ o,b.objects[ko.toNat]? = some o :=⟨_,List.getElem?_eq_getElem kon⟩
    have hro :=getElem?_map_some (f :=VO.c .shr) ho
    simp only [VO.c] at hro
    obtain ⟨hoM,hoh,hov,hov2⟩ :=hM o (List.mem_of_getElem? ho)
    simp only [VO.w] at hoM
    obtain ⟨ks,⟨ksa,ksb⟩,hks⟩ :=k30 hb (p + 1 + 1 + 1 + 1 + 1) (by omega) 5
    simp only [rdC] at hks
    rcases (show ks = 0∨ks = 1∨(¬ ks = 0∧¬ ks = 1) by omega) with ksz | ksz | ⟨ksz,ksy⟩
    ·skip
     obtain ⟨tx,pt,htx,pt1,pt2,h89⟩ :=k89 hb (p + 1 + 1 + 1 + 1 + 1 + 1) (by omega)
     simp only [rdC] at h89
     refine ⟨⟨2,o.kind,o.name,0,tx,⟨#[]⟩⟩,pt,by simp only [VW.w,z0]; omega,⟨⟨by simp only; omega,by simp only; omega⟩,by simp only; omega,by simp only; omega⟩,by omega,by omega,eVi Try.func76 rfl ?_⟩
     simp only [rA,seval,e76,e30,e89,Try.f76,rdC,VBook.c,VW.c,VO.c,List.length_map,h1,h2,h3,hr2,hr3,k20,k22,k23,k3a,k32,k33,hop,w1,hl0,hkp,kpz,hko,koa,koc,kon,hro,hks,ksz,h89]
    ·skip
     obtain ⟨kv,⟨kva,kvb⟩,hkv⟩ :=k30 hb (p + 1 + 1 + 1 + 1 + 1 + 1) (by omega) 20
     simp only [rdC] at hkv
     have wkv :=wrap64 (n :=1 + kv) (by omega) (by omega)
     obtain ⟨tx,pt,htx,pt1,pt2,h89⟩ :=k89 hb (p + 1 + 1 + 1 + 1 + 1 + 1 + 1) (by omega)
     simp only [rdC] at h89
     refine ⟨⟨2,o.kind,o.name,1 + kv,tx,⟨#[]⟩⟩,pt,by simp only [VW.w,z0]; omega,⟨⟨by simp only; omega,by simp only; omega⟩,by simp only; omega,by simp only; omega⟩,by omega,by omega,eVi Try.func76 rfl ?_⟩
     simp only [rA,seval,e76,e30,e89,Try.f76,rdC,VBook.c,VW.c,VO.c,List.length_map,h1,h2,h3,hr2,hr3,k20,k22,k23,k3a,k32,k33,hop,w1,hl0,hkp,kpz,hko,koa,koc,kon,hro,hks,hkv,ksz,wkv,h89]
    ·skip
     obtain ⟨tx,pt,htx,pt1,pt2,h89⟩ :=k89 hb (p + 1 + 1 + 1 + 1 + 1 + 1) (by omega)
     simp only [rdC] at h89
     refine ⟨⟨2,o.kind,o.name,o.version,tx,⟨#[]⟩⟩,pt,by simp only [VW.w,z0]; omega,⟨⟨by simp only; omega,by simp only; omega⟩,by simp only; omega,by simp only; omega⟩,by omega,by omega,eVi Try.func76 rfl ?_⟩
     simp only [rA,seval,e76,e30,e89,Try.f76,rdC,VBook.c,VW.c,VO.c,List.length_map,h1,h2,h3,hr2,hr3,k20,k22,k23,k3a,k32,k33,hop,w1,hl0,hkp,kpz,hko,koa,koc,kon,hro,hks,ksz,ksy,h89]
   ·skip
    obtain ⟨tx,pt,htx,pt1,pt2,h89⟩ :=k89 hb (p + 1 + 1 + 1 + 1) (by omega)
    simp only [rdC] at h89
    refine ⟨⟨2,kd,nm,0,tx,⟨#[]⟩⟩,pt,by simp only [VW.w,z0]; omega,⟨⟨by simp only; omega,by simp only; omega⟩,by simp only; omega,by simp only; omega⟩,by omega,by omega,eVi Try.func76 rfl ?_⟩
    simp only [rA,seval,e76,e30,e89,Try.f76,rdC,VBook.c,VW.c,VO.c,List.length_map,h1,h2,h3,hr2,hr3,k20,k22,k23,k3a,k32,k33,hop,w1,hl0,hkp,kpz,h89]
  ·skip
   obtain ⟨tx,pt,htx,pt1,pt2,h89⟩ :=k89 hb (p + 1 + 1 + 1) (by omega)
   simp only [rdC] at h89
   refine ⟨⟨2,kd,nm,0,tx,⟨#[]⟩⟩,pt,by simp only [VW.w,z0]; omega,⟨⟨by simp only; omega,by simp only; omega⟩,by simp only; omega,by simp only; omega⟩,by omega,by omega,eVi Try.func76 rfl ?_⟩
   simp only [rA,seval,e76,e30,e89,Try.f76,rdC,VBook.c,VW.c,VO.c,List.length_map,h1,h2,h3,hr2,hr3,k20,k22,k23,k3a,k32,k33,hop,w1,hl0,h89]
 ·skip
  by_cases hl0:0 < (b.objects.length:Int)
  ·skip
   obtain ⟨kp,⟨kpa,kpb⟩,hkp⟩ :=k30 hb (p + 1 + 1 + 1) (by omega) 6
   simp only [rdC] at hkp
   by_cases kpz:0 < kp
   ·skip
    obtain ⟨ko,⟨koa,kob⟩,hko⟩ :=k30 hb (p + 1 + 1 + 1 + 1) (by omega) (b.objects.length:Int)
    simp only [rdC] at hko
    have koc:ko < (b.objects.length:Int) :=by omega
    have kon:ko.toNat < b.objects.length :=by omega
    obtain ⟨o,ho⟩:∃ o,b.objects[ko.toNat]? = some o :=⟨_,List.getElem?_eq_getElem kon⟩
    have hro :=getElem?_map_some (f :=VO.c .shr) ho
    simp only [VO.c] at hro
    obtain ⟨hoM,hoh,hov,hov2⟩ :=hM o (List.mem_of_getElem? ho)
    simp only [VO.w] at hoM
    obtain ⟨ks,⟨ksa,ksb⟩,hks⟩ :=k30 hb (p + 1 + 1 + 1 + 1 + 1) (by omega) 5
    simp only [rdC] at hks
    rcases (show ks = 0∨ks = 1∨(¬ ks = 0∧¬ ks = 1) by omega) with ksz | ksz | ⟨ksz,ksy⟩
    ·skip
     refine ⟨⟨3,o.kind,o.name,0,⟨#[]⟩,⟨#[]⟩⟩,p + 1 + 1 + 1 + 1 + 1 + 1,by simp only [VW.w,z0]; omega,⟨⟨by simp only; omega,by simp only; omega⟩,by simp only; omega,by simp only; omega⟩,by omega,by omega,eVi Try.func76 rfl ?_⟩
     simp only [rA,seval,e76,e30,Try.f76,rdC,VBook.c,VW.c,VO.c,List.length_map,h1,h2,h3,hr2,hr3,k20,k22,k23,k3a,k32,k33,hop,w1,hl0,hkp,kpz,hko,koa,koc,kon,hro,hks,ksz]
    ·skip
     obtain ⟨kv,⟨kva,kvb⟩,hkv⟩ :=k30 hb (p + 1 + 1 + 1 + 1 + 1 + 1) (by omega) 20
     simp only [rdC] at hkv
     have wkv :=wrap64 (n :=1 + kv) (by omega) (by omega)
     refine ⟨⟨3,o.kind,o.name,1 + kv,⟨#[]⟩,⟨#[]⟩⟩,p + 1 + 1 + 1 + 1 + 1 + 1 + 1,by simp only [VW.w,z0]; omega,⟨⟨by simp only; omega,by simp only; omega⟩,by simp only; omega,by simp only; omega⟩,by omega,by omega,eVi Try.func76 rfl ?_⟩
     simp only [rA,seval,e76,e30,Try.f76,rdC,VBook.c,VW.c,VO.c,List.length_map,h1,h2,h3,hr2,hr3,k20,k22,k23,k3a,k32,k33,hop,w1,hl0,hkp,kpz,hko,koa,koc,kon,hro,hks,hkv,ksz,wkv]
    ·skip
     refine ⟨⟨3,o.kind,o.name,o.version,⟨#[]⟩,⟨#[]⟩⟩,p + 1 + 1 + 1 + 1 + 1 + 1,by simp only [VW.w,z0]; omega,⟨⟨by simp only; omega,by simp only; omega⟩,by simp only; omega,by simp only; omega⟩,by omega,by omega,eVi Try.func76 rfl ?_⟩
     simp only [rA,seval,e76,e30,Try.f76,rdC,VBook.c,VW.c,VO.c,List.length_map,h1,h2,h3,hr2,hr3,k20,k22,k23,k3a,k32,k33,hop,w1,hl0,hkp,kpz,hko,koa,koc,kon,hro,hks,ksz,ksy]
   ·skip
    refine ⟨⟨3,kd,nm,0,⟨#[]⟩,⟨#[]⟩⟩,p + 1 + 1 + 1 + 1,by simp only [VW.w,z0]; omega,⟨⟨by simp only; omega,by simp only; omega⟩,by simp only; omega,by simp only; omega⟩,by omega,by omega,eVi Try.func76 rfl ?_⟩
    simp only [rA,seval,e76,e30,Try.f76,rdC,VBook.c,VW.c,VO.c,List.length_map,h1,h2,h3,hr2,hr3,k20,k22,k23,k3a,k32,k33,hop,w1,hl0,hkp,kpz]
  ·skip
   refine ⟨⟨3,kd,nm,0,⟨#[]⟩,⟨#[]⟩⟩,p + 1 + 1 + 1,by simp only [VW.w,z0]; omega,⟨⟨by simp only; omega,by simp only; omega⟩,by simp only; omega,by simp only; omega⟩,by omega,by omega,eVi Try.func76 rfl ?_⟩
   simp only [rA,seval,e76,e30,Try.f76,rdC,VBook.c,VW.c,VO.c,List.length_map,h1,h2,h3,hr2,hr3,k20,k22,k23,k3a,k32,k33,hop,w1,hl0]
 ·skip
  by_cases hl0:0 < (b.objects.length:Int)
  ·skip
   obtain ⟨kp,⟨kpa,kpb⟩,hkp⟩ :=k30 hb (p + 1 + 1 + 1) (by omega) 6
   simp only [rdC] at hkp
   by_cases kpz:0 < kp
   ·skip
    obtain ⟨ko,⟨koa,kob⟩,hko⟩ :=k30 hb (p + 1 + 1 + 1 + 1) (by omega) (b.objects.length:Int)
    simp only [rdC] at hko
    have koc:ko < (b.objects.length:Int) :=by omega
    have kon:ko.toNat < b.objects.length :=by omega
    obtain ⟨o,ho⟩:∃ o,b.objects[ko.toNat]? = some o :=⟨_,List.getElem?_eq_getElem kon⟩
    have hro :=getElem?_map_some (f :=VO.c .shr) ho
    simp only [VO.c] at hro
    obtain ⟨hoM,hoh,hov,hov2⟩ :=hM o (List.mem_of_getElem? ho)
    simp only [VO.w] at hoM
    obtain ⟨ks,⟨ksa,ksb⟩,hks⟩ :=k30 hb (p + 1 + 1 + 1 + 1 + 1) (by omega) 5
    simp only [rdC] at hks
    rcases (show ks = 0∨ks = 1∨(¬ ks = 0∧¬ ks = 1) by omega) with ksz | ksz | ⟨ksz,ksy⟩
    ·skip
     obtain ⟨kh,⟨kha,khb⟩,hkh⟩ :=k30 hb (p + 1 + 1 + 1 + 1 + 1 + 1) (by omega) 6
     simp only [rdC] at hkh
     have khc:kh < 6 :=by omega
     have khn:kh.toNat < 6 :=by omega
     obtain ⟨hd,hhd,hrh⟩ :=pickL HL kha (by simpa [HL] using khc)
     have shd :=HL_sz hd hhd
     simp only [HL,List.map_cons,List.map_nil,strC] at hrh
     refine ⟨⟨4,o.kind,o.name,0,⟨#[]⟩,hd⟩,p + 1 + 1 + 1 + 1 + 1 + 1 + 1,by simp only [VW.w,z0]; omega,⟨⟨by simp only; omega,by simp only; omega⟩,by simp only; omega,by simp only; omega⟩,by omega,by omega,eVi Try.func76 rfl ?_⟩
     simp only [rA,seval,e76,e30,Try.f76,rdC,VBook.c,VW.c,VO.c,List.length_map,h1,h2,h3,hr2,hr3,k20,k22,k23,k3a,k32,k33,hop,w1,hl0,hkp,kpz,hko,koa,koc,kon,hro,hks,ksz,hkh,kha,khc,khn,hrh]
    ·skip
     obtain ⟨kv,⟨kva,kvb⟩,hkv⟩ :=k30 hb (p + 1 + 1 + 1 + 1 + 1 + 1) (by omega) 20
     simp only [rdC] at hkv
     have wkv :=wrap64 (n :=1 + kv) (by omega) (by omega)
     obtain ⟨kh,⟨kha,khb⟩,hkh⟩ :=k30 hb (p + 1 + 1 + 1 + 1 + 1 + 1 + 1) (by omega) 6
     simp only [rdC] at hkh
     have khc:kh < 6 :=by omega
     have khn:kh.toNat < 6 :=by omega
     obtain ⟨hd,hhd,hrh⟩ :=pickL HL kha (by simpa [HL] using khc)
     have shd :=HL_sz hd hhd
     simp only [HL,List.map_cons,List.map_nil,strC] at hrh
     refine ⟨⟨4,o.kind,o.name,1 + kv,⟨#[]⟩,hd⟩,p + 1 + 1 + 1 + 1 + 1 + 1 + 1 + 1,by simp only [VW.w,z0]; omega,⟨⟨by simp only; omega,by simp only; omega⟩,by simp only; omega,by simp only; omega⟩,by omega,by omega,eVi Try.func76 rfl ?_⟩
     simp only [rA,seval,e76,e30,Try.f76,rdC,VBook.c,VW.c,VO.c,List.length_map,h1,h2,h3,hr2,hr3,k20,k22,k23,k3a,k32,k33,hop,w1,hl0,hkp,kpz,hko,koa,koc,kon,hro,hks,hkv,ksz,wkv,hkh,kha,khc,khn,hrh]
    ·skip
     obtain ⟨kh,⟨kha,khb⟩,hkh⟩ :=k30 hb (p + 1 + 1 + 1 + 1 + 1 + 1) (by omega) 6
     simp only [rdC] at hkh
     have khc:kh < 6 :=by omega
     have khn:kh.toNat < 6 :=by omega
     obtain ⟨hd,hhd,hrh⟩ :=pickL HL kha (by simpa [HL] using khc)
     have shd :=HL_sz hd hhd
     simp only [HL,List.map_cons,List.map_nil,strC] at hrh
     refine ⟨⟨4,o.kind,o.name,o.version,⟨#[]⟩,hd⟩,p + 1 + 1 + 1 + 1 + 1 + 1 + 1,by simp only [VW.w,z0]; omega,⟨⟨by simp only; omega,by simp only; omega⟩,by simp only; omega,by simp only; omega⟩,by omega,by omega,eVi Try.func76 rfl ?_⟩
     simp only [rA,seval,e76,e30,Try.f76,rdC,VBook.c,VW.c,VO.c,List.length_map,h1,h2,h3,hr2,hr3,k20,k22,k23,k3a,k32,k33,hop,w1,hl0,hkp,kpz,hko,koa,koc,kon,hro,hks,ksz,ksy,hkh,kha,khc,khn,hrh]
   ·skip
    obtain ⟨kh,⟨kha,khb⟩,hkh⟩ :=k30 hb (p + 1 + 1 + 1 + 1) (by omega) 6
    simp only [rdC] at hkh
    have khc:kh < 6 :=by omega
    have khn:kh.toNat < 6 :=by omega
    obtain ⟨hd,hhd,hrh⟩ :=pickL HL kha (by simpa [HL] using khc)
    have shd :=HL_sz hd hhd
    simp only [HL,List.map_cons,List.map_nil,strC] at hrh
    refine ⟨⟨4,kd,nm,0,⟨#[]⟩,hd⟩,p + 1 + 1 + 1 + 1 + 1,by simp only [VW.w,z0]; omega,⟨⟨by simp only; omega,by simp only; omega⟩,by simp only; omega,by simp only; omega⟩,by omega,by omega,eVi Try.func76 rfl ?_⟩
    simp only [rA,seval,e76,e30,Try.f76,rdC,VBook.c,VW.c,VO.c,List.length_map,h1,h2,h3,hr2,hr3,k20,k22,k23,k3a,k32,k33,hop,w1,hl0,hkp,kpz,hkh,kha,khc,khn,hrh]
  ·skip
   obtain ⟨kh,⟨kha,khb⟩,hkh⟩ :=k30 hb (p + 1 + 1 + 1) (by omega) 6
   simp only [rdC] at hkh
   have khc:kh < 6 :=by omega
   have khn:kh.toNat < 6 :=by omega
   obtain ⟨hd,hhd,hrh⟩ :=pickL HL kha (by simpa [HL] using khc)
   have shd :=HL_sz hd hhd
   simp only [HL,List.map_cons,List.map_nil,strC] at hrh
   refine ⟨⟨4,kd,nm,0,⟨#[]⟩,hd⟩,p + 1 + 1 + 1 + 1,by simp only [VW.w,z0]; omega,⟨⟨by simp only; omega,by simp only; omega⟩,by simp only; omega,by simp only; omega⟩,by omega,by omega,eVi Try.func76 rfl ?_⟩
   simp only [rA,seval,e76,e30,Try.f76,rdC,VBook.c,VW.c,VO.c,List.length_map,h1,h2,h3,hr2,hr3,k20,k22,k23,k3a,k32,k33,hop,w1,hl0,hkh,kha,khc,khn,hrh]
 ·skip
  by_cases hl0:0 < (b.objects.length:Int)
  ·skip
   obtain ⟨kp,⟨kpa,kpb⟩,hkp⟩ :=k30 hb (p + 1 + 1 + 1) (by omega) 6
   simp only [rdC] at hkp
   by_cases kpz:0 < kp
   ·skip
    obtain ⟨ko,⟨koa,kob⟩,hko⟩ :=k30 hb (p + 1 + 1 + 1 + 1) (by omega) (b.objects.length:Int)
    simp only [rdC] at hko
    have koc:ko < (b.objects.length:Int) :=by omega
    have kon:ko.toNat < b.objects.length :=by omega
    obtain ⟨o,ho⟩:∃ o,b.objects[ko.toNat]? = some o :=⟨_,List.getElem?_eq_getElem kon⟩
    have hro :=getElem?_map_some (f :=VO.c .shr) ho
    simp only [VO.c] at hro
    obtain ⟨hoM,hoh,hov,hov2⟩ :=hM o (List.mem_of_getElem? ho)
    simp only [VO.w] at hoM
    obtain ⟨ks,⟨ksa,ksb⟩,hks⟩ :=k30 hb (p + 1 + 1 + 1 + 1 + 1) (by omega) 5
    simp only [rdC] at hks
    rcases (show ks = 0∨ks = 1∨(¬ ks = 0∧¬ ks = 1) by omega) with ksz | ksz | ⟨ksz,ksy⟩
    ·skip
     by_cases hhz:0 < (o.holds.length:Int)
     ·skip
      obtain ⟨kq,⟨kqa,kqb⟩,hkq⟩ :=k30 hb (p + 1 + 1 + 1 + 1 + 1 + 1) (by omega) 4
      simp only [rdC] at hkq
      by_cases kqz:0 < kq
      ·skip
       obtain ⟨kr,⟨kra,krb⟩,hkr⟩ :=k30 hb (p + 1 + 1 + 1 + 1 + 1 + 1 + 1) (by omega) (o.holds.length:Int)
       simp only [rdC] at hkr
       have krc:kr < (o.holds.length:Int) :=by omega
       have krn:kr.toNat < o.holds.length :=by omega
       obtain ⟨hh,hhm,hrr⟩ :=pickL o.holds kra krc
       have shh :=hold_sz hhm
       simp only [strC] at hrr
       by_cases hez:hh = ⟨#[]⟩
       ·skip
        obtain ⟨kh,⟨kha,khb⟩,hkh⟩ :=k30 hb (p + 1 + 1 + 1 + 1 + 1 + 1 + 1 + 1) (by omega) 6
        simp only [rdC] at hkh
        have khc:kh < 6 :=by omega
        have khn:kh.toNat < 6 :=by omega
        obtain ⟨hd,hhd,hrh⟩ :=pickL HL kha (by simpa [HL] using khc)
        have shd :=HL_sz hd hhd
        simp only [HL,List.map_cons,List.map_nil,strC] at hrh
        refine ⟨⟨5,o.kind,o.name,0,⟨#[]⟩,hd⟩,p + 1 + 1 + 1 + 1 + 1 + 1 + 1 + 1 + 1,by simp only [VW.w,z0]; omega,⟨⟨by simp only; omega,by simp only; omega⟩,by simp only; omega,by simp only; omega⟩,by omega,by omega,eVi Try.func76 rfl ?_⟩
        simp only [rA,seval,e76,e30,Try.f76,rdC,VBook.c,VW.c,VO.c,List.length_map,h1,h2,h3,hr2,hr3,k20,k22,k23,k3a,k32,k33,hop,w1,hl0,hkp,kpz,hko,koa,koc,kon,hro,hks,ksz,hhz,hkq,kqz,hkr,kra,krc,krn,hrr,strC,hez,hkh,kha,khc,khn,hrh]
       ·skip
        refine ⟨⟨5,o.kind,o.name,0,⟨#[]⟩,hh⟩,p + 1 + 1 + 1 + 1 + 1 + 1 + 1 + 1,by simp only [VW.w,z0]; omega,⟨⟨by simp only; omega,by simp only; omega⟩,by simp only; omega,by simp only; omega⟩,by omega,by omega,eVi Try.func76 rfl ?_⟩
        simp only [rA,seval,e76,e30,Try.f76,rdC,VBook.c,VW.c,VO.c,List.length_map,h1,h2,h3,hr2,hr3,k20,k22,k23,k3a,k32,k33,hop,w1,hl0,hkp,kpz,hko,koa,koc,kon,hro,hks,ksz,hhz,hkq,kqz,hkr,kra,krc,krn,hrr,strC,hez]
      ·skip
       obtain ⟨kh,⟨kha,khb⟩,hkh⟩ :=k30 hb (p + 1 + 1 + 1 + 1 + 1 + 1 + 1) (by omega) 6
       simp only [rdC] at hkh
       have khc:kh < 6 :=by omega
       have khn:kh.toNat < 6 :=by omega
       obtain ⟨hd,hhd,hrh⟩ :=pickL HL kha (by simpa [HL] using khc)
       have shd :=HL_sz hd hhd
       simp only [HL,List.map_cons,List.map_nil,strC] at hrh
       refine ⟨⟨5,o.kind,o.name,0,⟨#[]⟩,hd⟩,p + 1 + 1 + 1 + 1 + 1 + 1 + 1 + 1,by simp only [VW.w,z0]; omega,⟨⟨by simp only; omega,by simp only; omega⟩,by simp only; omega,by simp only; omega⟩,by omega,by omega,eVi Try.func76 rfl ?_⟩
       simp only [rA,seval,e76,e30,Try.f76,rdC,VBook.c,VW.c,VO.c,List.length_map,h1,h2,h3,hr2,hr3,k20,k22,k23,k3a,k32,k33,hop,w1,hl0,hkp,kpz,hko,koa,koc,kon,hro,hks,ksz,hhz,hkq,kqz,hkh,kha,khc,khn,hrh]
     ·skip
      obtain ⟨kh,⟨kha,khb⟩,hkh⟩ :=k30 hb (p + 1 + 1 + 1 + 1 + 1 + 1) (by omega) 6
      simp only [rdC] at hkh
      have khc:kh < 6 :=by omega
      have khn:kh.toNat < 6 :=by omega
      obtain ⟨hd,hhd,hrh⟩ :=pickL HL kha (by simpa [HL] using khc)
      have shd :=HL_sz hd hhd
      simp only [HL,List.map_cons,List.map_nil,strC] at hrh
      refine ⟨⟨5,o.kind,o.name,0,⟨#[]⟩,hd⟩,p + 1 + 1 + 1 + 1 + 1 + 1 + 1,by simp only [VW.w,z0]; omega,⟨⟨by simp only; omega,by simp only; omega⟩,by simp only; omega,by simp only; omega⟩,by omega,by omega,eVi Try.func76 rfl ?_⟩
      simp only [rA,seval,e76,e30,Try.f76,rdC,VBook.c,VW.c,VO.c,List.length_map,h1,h2,h3,hr2,hr3,k20,k22,k23,k3a,k32,k33,hop,w1,hl0,hkp,kpz,hko,koa,koc,kon,hro,hks,ksz,hhz,hkh,kha,khc,khn,hrh]
    ·skip
     obtain ⟨kv,⟨kva,kvb⟩,hkv⟩ :=k30 hb (p + 1 + 1 + 1 + 1 + 1 + 1) (by omega) 20
     simp only [rdC] at hkv
     have wkv :=wrap64 (n :=1 + kv) (by omega) (by omega)
     by_cases hhz:0 < (o.holds.length:Int)
     ·skip
      obtain ⟨kq,⟨kqa,kqb⟩,hkq⟩ :=k30 hb (p + 1 + 1 + 1 + 1 + 1 + 1 + 1) (by omega) 4
      simp only [rdC] at hkq
      by_cases kqz:0 < kq
      ·skip
       obtain ⟨kr,⟨kra,krb⟩,hkr⟩ :=k30 hb (p + 1 + 1 + 1 + 1 + 1 + 1 + 1 + 1) (by omega) (o.holds.length:Int)
       simp only [rdC] at hkr
       have krc:kr < (o.holds.length:Int) :=by omega
       have krn:kr.toNat < o.holds.length :=by omega
       obtain ⟨hh,hhm,hrr⟩ :=pickL o.holds kra krc
       have shh :=hold_sz hhm
       simp only [strC] at hrr
       by_cases hez:hh = ⟨#[]⟩
       ·skip
        obtain ⟨kh,⟨kha,khb⟩,hkh⟩ :=k30 hb (p + 1 + 1 + 1 + 1 + 1 + 1 + 1 + 1 + 1) (by omega) 6
        simp only [rdC] at hkh
        have khc:kh < 6 :=by omega
        have khn:kh.toNat < 6 :=by omega
        obtain ⟨hd,hhd,hrh⟩ :=pickL HL kha (by simpa [HL] using khc)
        have shd :=HL_sz hd hhd
        simp only [HL,List.map_cons,List.map_nil,strC] at hrh
        refine ⟨⟨5,o.kind,o.name,1 + kv,⟨#[]⟩,hd⟩,p + 1 + 1 + 1 + 1 + 1 + 1 + 1 + 1 + 1 + 1,by simp only [VW.w,z0]; omega,⟨⟨by simp only; omega,by simp only; omega⟩,by simp only; omega,by simp only; omega⟩,by omega,by omega,eVi Try.func76 rfl ?_⟩
        simp only [rA,seval,e76,e30,Try.f76,rdC,VBook.c,VW.c,VO.c,List.length_map,h1,h2,h3,hr2,hr3,k20,k22,k23,k3a,k32,k33,hop,w1,hl0,hkp,kpz,hko,koa,koc,kon,hro,hks,hkv,ksz,wkv,hhz,hkq,kqz,hkr,kra,krc,krn,hrr,strC,hez,hkh,kha,khc,khn,hrh]
       ·skip
        refine ⟨⟨5,o.kind,o.name,1 + kv,⟨#[]⟩,hh⟩,p + 1 + 1 + 1 + 1 + 1 + 1 + 1 + 1 + 1,by simp only [VW.w,z0]; omega,⟨⟨by simp only; omega,by simp only; omega⟩,by simp only; omega,by simp only; omega⟩,by omega,by omega,eVi Try.func76 rfl ?_⟩
        simp only [rA,seval,e76,e30,Try.f76,rdC,VBook.c,VW.c,VO.c,List.length_map,h1,h2,h3,hr2,hr3,k20,k22,k23,k3a,k32,k33,hop,w1,hl0,hkp,kpz,hko,koa,koc,kon,hro,hks,hkv,ksz,wkv,hhz,hkq,kqz,hkr,kra,krc,krn,hrr,strC,hez]
      ·skip
       obtain ⟨kh,⟨kha,khb⟩,hkh⟩ :=k30 hb (p + 1 + 1 + 1 + 1 + 1 + 1 + 1 + 1) (by omega) 6
       simp only [rdC] at hkh
       have khc:kh < 6 :=by omega
       have khn:kh.toNat < 6 :=by omega
       obtain ⟨hd,hhd,hrh⟩ :=pickL HL kha (by simpa [HL] using khc)
       have shd :=HL_sz hd hhd
       simp only [HL,List.map_cons,List.map_nil,strC] at hrh
       refine ⟨⟨5,o.kind,o.name,1 + kv,⟨#[]⟩,hd⟩,p + 1 + 1 + 1 + 1 + 1 + 1 + 1 + 1 + 1,by simp only [VW.w,z0]; omega,⟨⟨by simp only; omega,by simp only; omega⟩,by simp only; omega,by simp only; omega⟩,by omega,by omega,eVi Try.func76 rfl ?_⟩
       simp only [rA,seval,e76,e30,Try.f76,rdC,VBook.c,VW.c,VO.c,List.length_map,h1,h2,h3,hr2,hr3,k20,k22,k23,k3a,k32,k33,hop,w1,hl0,hkp,kpz,hko,koa,koc,kon,hro,hks,hkv,ksz,wkv,hhz,hkq,kqz,hkh,kha,khc,khn,hrh]
     ·skip
      obtain ⟨kh,⟨kha,khb⟩,hkh⟩ :=k30 hb (p + 1 + 1 + 1 + 1 + 1 + 1 + 1) (by omega) 6
      simp only [rdC] at hkh
      have khc:kh < 6 :=by omega
      have khn:kh.toNat < 6 :=by omega
      obtain ⟨hd,hhd,hrh⟩ :=pickL HL kha (by simpa [HL] using khc)
      have shd :=HL_sz hd hhd
      simp only [HL,List.map_cons,List.map_nil,strC] at hrh
      refine ⟨⟨5,o.kind,o.name,1 + kv,⟨#[]⟩,hd⟩,p + 1 + 1 + 1 + 1 + 1 + 1 + 1 + 1,by simp only [VW.w,z0]; omega,⟨⟨by simp only; omega,by simp only; omega⟩,by simp only; omega,by simp only; omega⟩,by omega,by omega,eVi Try.func76 rfl ?_⟩
      simp only [rA,seval,e76,e30,Try.f76,rdC,VBook.c,VW.c,VO.c,List.length_map,h1,h2,h3,hr2,hr3,k20,k22,k23,k3a,k32,k33,hop,w1,hl0,hkp,kpz,hko,koa,koc,kon,hro,hks,hkv,ksz,wkv,hhz,hkh,kha,khc,khn,hrh]
    ·skip
     by_cases hhz:0 < (o.holds.length:Int)
     ·skip
      obtain ⟨kq,⟨kqa,kqb⟩,hkq⟩ :=k30 hb (p + 1 + 1 + 1 + 1 + 1 + 1) (by omega) 4
      simp only [rdC] at hkq
      by_cases kqz:0 < kq
      ·skip
       obtain ⟨kr,⟨kra,krb⟩,hkr⟩ :=k30 hb (p + 1 + 1 + 1 + 1 + 1 + 1 + 1) (by omega) (o.holds.length:Int)
       simp only [rdC] at hkr
       have krc:kr < (o.holds.length:Int) :=by omega
       have krn:kr.toNat < o.holds.length :=by omega
       obtain ⟨hh,hhm,hrr⟩ :=pickL o.holds kra krc
       have shh :=hold_sz hhm
       simp only [strC] at hrr
       by_cases hez:hh = ⟨#[]⟩
       ·skip
        obtain ⟨kh,⟨kha,khb⟩,hkh⟩ :=k30 hb (p + 1 + 1 + 1 + 1 + 1 + 1 + 1 + 1) (by omega) 6
        simp only [rdC] at hkh
        have khc:kh < 6 :=by omega
        have khn:kh.toNat < 6 :=by omega
        obtain ⟨hd,hhd,hrh⟩ :=pickL HL kha (by simpa [HL] using khc)
        have shd :=HL_sz hd hhd
        simp only [HL,List.map_cons,List.map_nil,strC] at hrh
        refine ⟨⟨5,o.kind,o.name,o.version,⟨#[]⟩,hd⟩,p + 1 + 1 + 1 + 1 + 1 + 1 + 1 + 1 + 1,by simp only [VW.w,z0]; omega,⟨⟨by simp only; omega,by simp only; omega⟩,by simp only; omega,by simp only; omega⟩,by omega,by omega,eVi Try.func76 rfl ?_⟩
        simp only [rA,seval,e76,e30,Try.f76,rdC,VBook.c,VW.c,VO.c,List.length_map,h1,h2,h3,hr2,hr3,k20,k22,k23,k3a,k32,k33,hop,w1,hl0,hkp,kpz,hko,koa,koc,kon,hro,hks,ksz,ksy,hhz,hkq,kqz,hkr,kra,krc,krn,hrr,strC,hez,hkh,kha,khc,khn,hrh]
       ·skip
        refine ⟨⟨5,o.kind,o.name,o.version,⟨#[]⟩,hh⟩,p + 1 + 1 + 1 + 1 + 1 + 1 + 1 + 1,by simp only [VW.w,z0]; omega,⟨⟨by simp only; omega,by simp only; omega⟩,by simp only; omega,by simp only; omega⟩,by omega,by omega,eVi Try.func76 rfl ?_⟩
        simp only [rA,seval,e76,e30,Try.f76,rdC,VBook.c,VW.c,VO.c,List.length_map,h1,h2,h3,hr2,hr3,k20,k22,k23,k3a,k32,k33,hop,w1,hl0,hkp,kpz,hko,koa,koc,kon,hro,hks,ksz,ksy,hhz,hkq,kqz,hkr,kra,krc,krn,hrr,strC,hez]
      ·skip
       obtain ⟨kh,⟨kha,khb⟩,hkh⟩ :=k30 hb (p + 1 + 1 + 1 + 1 + 1 + 1 + 1) (by omega) 6
       simp only [rdC] at hkh
       have khc:kh < 6 :=by omega
       have khn:kh.toNat < 6 :=by omega
       obtain ⟨hd,hhd,hrh⟩ :=pickL HL kha (by simpa [HL] using khc)
       have shd :=HL_sz hd hhd
       simp only [HL,List.map_cons,List.map_nil,strC] at hrh
       refine ⟨⟨5,o.kind,o.name,o.version,⟨#[]⟩,hd⟩,p + 1 + 1 + 1 + 1 + 1 + 1 + 1 + 1,by simp only [VW.w,z0]; omega,⟨⟨by simp only; omega,by simp only; omega⟩,by simp only; omega,by simp only; omega⟩,by omega,by omega,eVi Try.func76 rfl ?_⟩
       simp only [rA,seval,e76,e30,Try.f76,rdC,VBook.c,VW.c,VO.c,List.length_map,h1,h2,h3,hr2,hr3,k20,k22,k23,k3a,k32,k33,hop,w1,hl0,hkp,kpz,hko,koa,koc,kon,hro,hks,ksz,ksy,hhz,hkq,kqz,hkh,kha,khc,khn,hrh]
     ·skip
      obtain ⟨kh,⟨kha,khb⟩,hkh⟩ :=k30 hb (p + 1 + 1 + 1 + 1 + 1 + 1) (by omega) 6
      simp only [rdC] at hkh
      have khc:kh < 6 :=by omega
      have khn:kh.toNat < 6 :=by omega
      obtain ⟨hd,hhd,hrh⟩ :=pickL HL kha (by simpa [HL] using khc)
      have shd :=HL_sz hd hhd
      simp only [HL,List.map_cons,List.map_nil,strC] at hrh
      refine ⟨⟨5,o.kind,o.name,o.version,⟨#[]⟩,hd⟩,p + 1 + 1 + 1 + 1 + 1 + 1 + 1,by simp only [VW.w,z0]; omega,⟨⟨by simp only; omega,by simp only; omega⟩,by simp only; omega,by simp only; omega⟩,by omega,by omega,eVi Try.func76 rfl ?_⟩
      simp only [rA,seval,e76,e30,Try.f76,rdC,VBook.c,VW.c,VO.c,List.length_map,h1,h2,h3,hr2,hr3,k20,k22,k23,k3a,k32,k33,hop,w1,hl0,hkp,kpz,hko,koa,koc,kon,hro,hks,ksz,ksy,hhz,hkh,kha,khc,khn,hrh]
   ·skip
    obtain ⟨kh,⟨kha,khb⟩,hkh⟩ :=k30 hb (p + 1 + 1 + 1 + 1) (by omega) 6
    simp only [rdC] at hkh
    have khc:kh < 6 :=by omega
    have khn:kh.toNat < 6 :=by omega
    obtain ⟨hd,hhd,hrh⟩ :=pickL HL kha (by simpa [HL] using khc)
    have shd :=HL_sz hd hhd
    simp only [HL,List.map_cons,List.map_nil,strC] at hrh
    refine ⟨⟨5,kd,nm,0,⟨#[]⟩,hd⟩,p + 1 + 1 + 1 + 1 + 1,by simp only [VW.w,z0]; omega,⟨⟨by simp only; omega,by simp only; omega⟩,by simp only; omega,by simp only; omega⟩,by omega,by omega,eVi Try.func76 rfl ?_⟩
    simp only [rA,seval,e76,e30,Try.f76,rdC,VBook.c,VW.c,VO.c,List.length_map,h1,h2,h3,hr2,hr3,k20,k22,k23,k3a,k32,k33,hop,w1,hl0,hkp,kpz,hkh,kha,khc,khn,hrh]
  ·skip
   obtain ⟨kh,⟨kha,khb⟩,hkh⟩ :=k30 hb (p + 1 + 1 + 1) (by omega) 6
   simp only [rdC] at hkh
   have khc:kh < 6 :=by omega
   have khn:kh.toNat < 6 :=by omega
   obtain ⟨hd,hhd,hrh⟩ :=pickL HL kha (by simpa [HL] using khc)
   have shd :=HL_sz hd hhd
   simp only [HL,List.map_cons,List.map_nil,strC] at hrh
   refine ⟨⟨5,kd,nm,0,⟨#[]⟩,hd⟩,p + 1 + 1 + 1 + 1,by simp only [VW.w,z0]; omega,⟨⟨by simp only; omega,by simp only; omega⟩,by simp only; omega,by simp only; omega⟩,by omega,by omega,eVi Try.func76 rfl ?_⟩
   simp only [rA,seval,e76,e30,Try.f76,rdC,VBook.c,VW.c,VO.c,List.length_map,h1,h2,h3,hr2,hr3,k20,k22,k23,k3a,k32,k33,hop,w1,hl0,hkh,kha,khc,khn,hrh]
abbrev objC (x:VO):List C :=VO.c .shr x
abbrev keyC (k n:ByteArray):List C :=[.p (.string k),.p (.string n)]
def isKey (k n:ByteArray) (o:VO):Bool :=decide (o.kind = k) && decide (o.name = n)
def nilObj:VO :=⟨⟨#[]⟩,⟨#[]⟩,0,0,⟨#[]⟩,false,[]⟩

theorem k53 (x:VO) (hl:x.holds.length≤4194304):EV Try.prog E 53 [.val 0 true (VO.c .shr x)] = some ⟨[(true,x.c .own)],[]⟩ :=by
 refine eVi Try.func53 rfl ?_
 have h1:0 + x.holds.length < 4294967296 :=by omega
 have h2:x.holds.length < 4294967296 :=by omega
 simp only [rA,seval,e53,Try.f53,VO.c,LIM,h1,h2,rwS]
theorem k32 (x:VO) (hl:x.holds.length≤4194304):EV Try.prog E 32 [.val 0 true (VO.c .shr x)] = some ⟨[(true,x.c .own)],[]⟩ :=by
 refine eVi Try.func32 rfl ?_
 have h1:0 + x.holds.length < 4294967296 :=by omega
 have h2:x.holds.length < 4294967296 :=by omega
 simp only [rA,seval,e32,Try.f32,VO.c,LIM,h1,h2,rwS]
theorem k44 (x:VO):EV Try.prog E 44 [.val 0 true (VO.c .shr x)] = some ⟨[(true,keyC x.kind x.name)],[]⟩ :=by
 refine eVi Try.func44 rfl ?_
 simp only [rA,seval,e44,Try.f44,VO.c]
def idxF (p:VO→Bool):List VO→Nat→Int
 | [],_ =>-1
 | x :: r,i =>if p x = true then (i:Int) else idxF p r (i + 1)
theorem idxF_find (p:VO→Bool):∀ (l:List VO) (k:Nat),(l.find? p = none∧idxF p l k = -1)∨∃ i o,l.find? p = some o∧l[i]? = some o∧p o = true∧idxF p l k = ((k + i:Nat):Int)
 | [],k =>.inl ⟨rfl,rfl⟩
 | x :: r,k =>by
  by_cases h:p x = true
  ·exact .inr ⟨0,x,by simp [h],rfl,h,by simp [idxF,h]⟩
  ·rcases idxF_find p r (k + 1) with ⟨h1,h2⟩ | ⟨i,o,h1,h2,h3,h4⟩
   ·exact .inl ⟨by simp [h,h1],by simp [idxF,h,h2]⟩
   ·exact .inr ⟨i + 1,o,by simp [h,h1],by simpa using h2,h3,by simp only [idxF,h]; rw [if_neg (by simp),h4]; omega⟩
theorem idxF_lt (p:VO→Bool) {l:List VO}:idxF p l 0 < l.length∧-1≤idxF p l 0 :=by
 rcases idxF_find p l 0 with ⟨h1,h2⟩ | ⟨i,o,h1,h2,h3,h4⟩
 ·rw [h2]; omega
 ·have :=(List.getElem?_eq_some_iff.1 h2).1
  rw [h4]; omega

theorem k79 {f:FuncId} {cp:List C} {p:VO→Bool} (l:List VO) (hl:l.length≤4194304) (hm:(E.ann f).modes = [])
  (hp:∀ x,EV Try.prog E f [.val 0 true (VO.c .shr x),.rp cp] = some ⟨[(false,[.p (.bool (p x))])],[]⟩) :
  EV Try.prog E 79 [.val 0 false [.sl .shr 7 (l.map (VO.c .shr))],.fn f [cp]] = some ⟨[(false,[.p (.int .i64 (idxF p l 0))])],[]⟩ :=by
 refine eVi Try.func79 rfl ?_
 simp only [rA,seval,e79,Try.f79]
 rw [for_block l (fun i (_:Unit) =>⟨4,[(0,.val 0 false [.sl .shr 7 (l.map (VO.c .shr))]),(1,.fn f [cp]),(7,.val 2 false [.p (.int .i64 l.length)]),(8,.val 3 false [.p (.int .i64 i)])]⟩) (fun i _ =>True)
   (fun r i a =>if idxF p r i < 0 then .norm ⟨0,[]⟩ else .ret ⟨[(false,[.p (.int .i64 (idxF p r i))])],[]⟩) ?_ ?_ (a :=()) trivial (by simp only [rA,seval,e79] <;> rfl)]
 ·by_cases h:idxF p l 0 < 0
  ·have e:idxF p l 0 = -1 :=by have :=(idxF_lt p (l :=l)).2; omega
   simp only [rA,seval,e79,h,e]
  ·simp only [rA,seval,e79,h]
 ·intro i x r a hd hi _
  have hlen :=(List.getElem?_eq_some_iff.1 hi).1
  have hlt:((i:Int) < (l.length:Int)) :=by omega
  have hr :=getElem?_map_some (f :=VO.c .shr) hi
  have hwi :=wrap64 (n :=(i:Int) + 1) (by omega) (by omega)
  have hi0:(0:Int)≤(i:Int) :=by omega
  have hk :=hp x
  simp only [VO.c] at hr hk
  cases d:p x
  ·left
   refine ⟨(),?_,trivial,by simp [idxF,d]⟩
   simp only [rA,seval,e79,hlt,hr,hwi,hi0,hk,hm,d,i64c]
  ·right
   have hn:¬ ((i:Int) < 0) :=by omega
   simp only [rA,seval,e79,hlt,hr,hwi,hi0,hk,hm,d,idxF,hn]
 ·intro a _
  have hn:¬ ((l.length:Int) < (l.length:Int)) :=by omega
  simp only [rA,seval,e79,hn,idxF]
def bfind (l:List VO) (k n:ByteArray):VO × Bool :=match l.find? (isKey k n) with
 | some o =>(o,true)
 | none =>(nilObj,false)
theorem sum_obj_le {l:List VO} {x:VO} (h:x ∈ l):x.w≤sumWBookObject l :=wSBookObject_mem h
theorem bfind_w (b:VBook) (k n:ByteArray):(bfind b.objects k n).1.w≤b.w :=by
 unfold bfind
 cases h:b.objects.find? (isKey k n) with
 | none =>
  have e:(⟨#[]⟩:ByteArray).size = 0 :=rfl
  simp only [nilObj,VO.w,wSString,sumWString,List.length_nil,e]
  omega
 | some o =>
  have :=sum_obj_le (List.mem_of_find?_eq_some h)
  simp only
  unfold VBook.w wSBookObject
  omega
theorem holds_le {x:VO} {n:Nat} (h:x.w≤n):x.holds.length≤n :=by
 unfold VO.w wSString at h
 omega

theorem k70 (b:VBook) (k n:ByteArray) (hw:b.w≤4194304):EV Try.prog E 70 [.val 0 true (b.c .shr),.val 0 false [.p (.string k)],.val 0 false [.p (.string n)]] =
  some ⟨[(true,(bfind b.objects k n).1.c .own),(false,[.p (.bool (bfind b.objects k n).2)])],[]⟩ :=by
 refine eVi Try.func70 rfl ?_
 have hll:b.objects.length≤4194304 :=by unfold VBook.w wSBookObject at hw; omega
 simp only [rA,seval,e70,Try.f70,VBook.c]
 rw [for_block b.objects (fun i (_:Unit) =>⟨5,[(1,.val 0 false [.p (.string k)]),(2,.val 1 false [.p (.string n)]),(3,.box 2 2 (b.c .shr)),(6,.box 3 3 (nilObj.c .own)),(8,.val 4 false [.p (.int .i64 i)])]⟩) (fun i _ =>True)
   (fun r i a =>match r.find? (isKey k n) with
    | some o =>.ret ⟨[(true,o.c .own),(false,[.p (.bool true)])],[]⟩
    | none =>.norm ⟨1,[(6,.box 0 0 (nilObj.c .own))]⟩) ?_ ?_ (a :=()) trivial (by simp only [rA,seval,e70,VBook.c,VO.c,nilObj] <;> rfl)]
 ·unfold bfind
  cases h:b.objects.find? (isKey k n) with
  | none =>simp only [rA,seval,e70,VO.c,nilObj,List.map_nil]
  | some o =>simp only [rA,seval,e70]
 ·intro i x r a hd hi _
  have hlen :=(List.getElem?_eq_some_iff.1 hi).1
  have hlt:((i:Int) < (b.objects.length:Int)) :=by omega
  have hr :=getElem?_map_some (f :=VO.c .shr) hi
  have hwi :=wrap64 (n :=(i:Int) + 1) (by omega) (by omega)
  have hi0:(0:Int)≤(i:Int) :=by omega
  have hxw:x.w≤4194304 :=by have :=sum_obj_le (List.mem_of_getElem? hi); unfold VBook.w wSBookObject at hw; omega
  have h56 :=k53 x (holds_le hxw)
  simp only [VO.c] at hr h56
  by_cases d1:x.kind = k
  ·by_cases d2:x.name = n
   ·right
    have hf:(x :: r).find? (isKey k n) = some x :=by simp [isKey,d1,d2]
    rw [hf]
    subst d1 d2
    simp only [rA,seval,e70,e53,VBook.c,VO.c,nilObj,hlt,hr,hi0,h56,rwS,List.map_nil]
   ·left
    have hf:(x :: r).find? (isKey k n) = r.find? (isKey k n) :=by simp [isKey,d2]
    refine ⟨(),?_,trivial,by rw [hf]⟩
    simp only [rA,seval,e70,VBook.c,VO.c,nilObj,hlt,hr,hi0,hwi,d1,d2,i64c]
  ·left
   have hf:(x :: r).find? (isKey k n) = r.find? (isKey k n) :=by simp [isKey,d1]
   refine ⟨(),?_,trivial,by rw [hf]⟩
   simp only [rA,seval,e70,VBook.c,VO.c,nilObj,hlt,hr,hi0,hwi,d1,i64c]
 ·intro a _
  have hn:¬ ((b.objects.length:Int) < (b.objects.length:Int)) :=by omega
  simp only [rA,seval,e70,VBook.c,VO.c,nilObj,hn,List.find?_nil]
def byteB (c:UInt8):Bool :=decide (97≤(c.toNat:Int)) && decide ((c.toNat:Int)≤122) || decide (48≤(c.toNat:Int)) && decide ((c.toNat:Int)≤57) || decide ((c.toNat:Int) = 45) || decide ((c.toNat:Int) = 46)
def nameB (s:ByteArray):Bool :=decide (1≤s.size) && decide (s.size≤20) && s.data.toList.all byteB
theorem sz_data (s:ByteArray):s.data.toList.length = s.size :=Array.length_toList
def inR (n a b:Int):Bool :=decide (a≤n) && decide (n≤b)
theorem k39 (n a b:Int):EV Try.prog E 39 [.val 0 false [.p (.int .i64 n)],.val 0 false [.p (.int .i64 a)],.val 0 false [.p (.int .i64 b)]] = some ⟨[(false,[.p (.bool (inR n a b))])],[]⟩ :=by
 refine eVi Try.func39 rfl ?_
 cases h:decide (a≤n)
 ·simp only [rA,seval,e39,Try.f39,h,inR]
 ·simp only [rA,seval,e39,Try.f39,h,inR]
theorem k47 (s:ByteArray):EV Try.prog E 47 [.val 0 false [.p (.string s)]] = some ⟨[(false,[.p (.bool (nameB s))])],[]⟩ :=by
 refine eVi Try.func47 rfl ?_
 unfold nameB
 by_cases h1:1≤s.size
 ·by_cases h2:s.size≤20
  ·have h1':¬ ((s.size:Int) < 1) :=by omega
   have h2':¬ ((20:Int) < (s.size:Int)) :=by omega
   simp only [rA,seval,e47,Try.f47,h1',h2',h1,h2]
   rw [for_block s.data.toList (fun i (_:Unit) =>⟨3,[(0,.val 0 false [.p (.string s)]),(14,.val 1 false [.p (.int .i64 s.size)]),(15,.val 2 false [.p (.int .i64 i)])]⟩) (fun i _ =>True)
    (fun r i a =>if r.all byteB = true then .norm ⟨0,[]⟩ else .ret ⟨[(false,[.p (.bool false)])],[]⟩) ?_ ?_ (a :=()) trivial (by simp only [rA,seval,e47] <;> rfl)]
   ·cases h:s.data.toList.all byteB
    ·simp only [rA,seval,e47,h]
    ·simp only [rA,seval,e47,h]
   ·intro i x r a hd hi _
    have hlen :=(List.getElem?_eq_some_iff.1 hi).1
    rw [sz_data] at hlen
    have hlt:((i:Int) < (s.size:Int)) :=by omega
    have hwi :=wrap64 (n :=(i:Int) + 1) (by omega) (by omega)
    have hi0:(0:Int)≤(i:Int) :=by omega
    unfold byteB
    by_cases d1:97≤(x.toNat:Int) <;> by_cases d2:(x.toNat:Int)≤122 <;> by_cases d3:48≤(x.toNat:Int) <;> by_cases d4:(x.toNat:Int)≤57 <;> by_cases d5:(x.toNat:Int) = 45 <;> by_cases d6:(x.toNat:Int) = 46 <;> first
    | (exfalso; omega)
    | (left; refine ⟨(),?_,trivial,by simp [byteB,d1,d2,d3,d4,d5,d6]⟩; simp only [rA,seval,e47,hlt,hwi,hi0,hi,i64c,d1,d2,d3,d4,d5,d6]; done)
    | (right; simp only [rA,seval,e47,hlt,hwi,hi0,hi,i64c,d1,d2,d3,d4,d5,d6,List.all_cons]; done)
   ·intro a _
    simp only [rA,seval,e47,sz_data,List.all_nil]
  ·have h1':¬ ((s.size:Int) < 1) :=by omega
   have h2':((20:Int) < (s.size:Int)) :=by omega
   simp only [rA,seval,e47,Try.f47,h1',h2',h1,h2]
 ·have h1':((s.size:Int) < 1) :=by omega
  simp only [rA,seval,e47,Try.f47,h1',h1]
theorem k71 (s:ByteArray):EV Try.prog E 71 [.val 0 false [.p (.string s)]] = some ⟨[(false,[.p (.bool (nameB s))])],[]⟩ :=by
 refine eVi Try.func71 rfl ?_
 have h75 :=k39 s.size 1 20
 unfold nameB
 by_cases h1:1≤s.size
 ·by_cases h2:s.size≤20
  ·have hr:inR s.size 1 20 = true :=by unfold inR; simp; omega
   rw [hr] at h75
   simp only [rA,seval,e71,e39,Try.f71,h75,h1,h2]
   rw [for_block s.data.toList (fun i (_:Unit) =>⟨2,[(0,.val 0 false [.p (.string s)]),(3,.val 1 false [.p (.int .i64 i)])]⟩) (fun i _ =>True)
    (fun r i a =>if r.all byteB = true then .norm ⟨0,[]⟩ else .ret ⟨[(false,[.p (.bool false)])],[]⟩) ?_ ?_ (a :=()) trivial (by simp only [rA,seval,e71] <;> rfl)]
   ·cases h:s.data.toList.all byteB
    ·simp only [rA,seval,e71,h]
    ·simp only [rA,seval,e71,h]
   ·intro i x r a hd hi _
    have hlen :=(List.getElem?_eq_some_iff.1 hi).1
    rw [sz_data] at hlen
    have hlt:((i:Int) < (s.size:Int)) :=by omega
    have hwi :=wrap64 (n :=(i:Int) + 1) (by omega) (by omega)
    have hi0:(0:Int)≤(i:Int) :=by omega
    by_cases d1:97≤(x.toNat:Int) <;> by_cases d2:(x.toNat:Int)≤122 <;> by_cases d3:48≤(x.toNat:Int) <;> by_cases d4:(x.toNat:Int)≤57 <;> by_cases d5:(x.toNat:Int) = 45 <;> by_cases d6:(x.toNat:Int) = 46 <;> first
    | (exfalso; omega)
    | (left; refine ⟨(),?_,trivial,by simp [byteB,d1,d2,d3,d4,d5,d6]⟩; simp only [rA,seval,e71,hlt,hwi,hi0,hi,i64c,d1,d2,d3,d4,d5,d6]; done)
    | (right; simp only [rA,seval,e71,hlt,hwi,hi0,hi,i64c,d1,d2,d3,d4,d5,d6,List.all_cons,byteB]; done)
   ·intro a _
    simp only [rA,seval,e71,sz_data,List.all_nil]
  ·have hr:inR s.size 1 20 = false :=by unfold inR; simp; omega
   rw [hr] at h75
   simp only [rA,seval,e71,e39,Try.f71,h75,h1,h2]
 ·have hr:inR s.size 1 20 = false :=by unfold inR; simp; omega
  rw [hr] at h75
  simp only [rA,seval,e71,e39,Try.f71,h75,h1]

def ascF:Option ByteArray→List ByteArray→Bool
 | _,[] =>true
 | none,x :: r =>nameB x && ascF (some x) r
 | some p,x :: r =>nameB x && (Op.bytesLess p.toList x.toList && ascF (some x) r)
def prevO {α:Type} (l:List α):Nat→Option α
 | 0 =>none
 | i + 1 =>l[i]?
theorem prevO_cases {α:Type} (l:List α) {i:Nat} (hi:i≤l.length) (hl:l.length≤4194304):(¬ ((0:Int) < (i:Int))∧prevO l i = none)∨∃ p,((0:Int) < (i:Int))∧(0:Int)≤((i - 1:Nat):Int)∧IntKind.i64.wrap ((i:Int) - 1) = ((i - 1:Nat):Int)∧l[i - 1]? = some p∧prevO l i = some p :=by
 cases i with
 | zero =>exact .inl ⟨by simp,rfl⟩
 | succ j =>
  have hj:l[j]? = some l[j] :=List.getElem?_eq_getElem (by omega)
  refine .inr ⟨l[j],by omega,by omega,?_,?_,?_⟩
  ·rw [wrap64 (by omega) (by omega)]; omega
  ·simp
  ·simp [prevO]
theorem k72 (l:List ByteArray) (hl:l.length≤4194304):EV Try.prog E 72 [.val 0 false [.sl .shr 1 (l.map strC)]] = some ⟨[(false,[.p (.bool (ascF none l))])],[]⟩ :=by
 refine eVi Try.func72 rfl ?_
 simp only [rA,seval,e72,Try.f72]
 rw [for_block l (fun i (_:Unit) =>⟨4,[(0,.val 0 false [.sl .shr 1 (l.map strC)]),(5,.val 1 false [.sl .shr 1 (l.map strC)]),(6,.val 2 false [.p (.int .i64 l.length)]),(7,.val 3 false [.p (.int .i64 i)])]⟩) (fun i _ =>True)
  (fun r i a =>if ascF (prevO l i) r = true then .norm ⟨0,[]⟩ else .ret ⟨[(false,[.p (.bool false)])],[]⟩) ?_ ?_ (a :=()) trivial (by simp only [rA,seval,e72] <;> rfl)]
 ·cases h:ascF none l
  ·simp only [rA,seval,e72,h,prevO]
  ·simp only [rA,seval,e72,h,prevO]
 ·intro i x r a hd hi _
  have hlen :=(List.getElem?_eq_some_iff.1 hi).1
  have hlt:((i:Int) < (l.length:Int)) :=by omega
  have hr :=getElem?_map_some (f :=strC) hi
  have hi0:(0:Int)≤(i:Int) :=by omega
  have hk :=k47 x
  have hwi :=wrap64 (n :=(i:Int) + 1) (by omega) (by omega)
  have hp:prevO l (i + 1) = some x :=hi
  cases d1:nameB x
  ·right
   have hf:ascF (prevO l i) (x :: r) = false :=by cases hq:prevO l i <;> simp [ascF,d1]
   simp only [rA,seval,e72,e47,hlt,hr,hi0,hk,d1,strC,hf]
  ·rcases prevO_cases l (Nat.le_of_lt hlen) hl with ⟨h0,h1⟩ | ⟨p,h0,hj0,hw2,hj,h1⟩
   ·left
    refine ⟨(),?_,trivial,by rw [hp,h1]; simp [ascF,d1]⟩
    simp only [rA,seval,e72,e47,hlt,hr,hi0,hk,d1,strC,hwi,h0,i64c]
   ·have hrj :=getElem?_map_some (f :=strC) hj
    cases d2:Op.bytesLess p.toList x.toList
    ·right
     have hf:ascF (prevO l i) (x :: r) = false :=by simp [h1,ascF,d2]
     simp only [rA,seval,e72,e47,hlt,hr,hi0,hk,d1,d2,strC,hwi,h0,hj0,hw2,hrj,hf]
    ·left
     refine ⟨(),?_,trivial,by rw [hp,h1]; simp [ascF,d1,d2]⟩
     simp only [rA,seval,e72,e47,hlt,hr,hi0,hk,d1,d2,strC,hwi,h0,hj0,hw2,hrj,i64c]
 ·intro a _
  simp only [rA,seval,e72,ascF]
theorem k85 (l:List ByteArray) (hl:l.length≤4194304):EV Try.prog E 85 [.val 0 false [.sl .shr 1 (l.map strC)]] = some ⟨[(false,[.p (.bool (ascF none l))])],[]⟩ :=by
 refine eVi Try.func85 rfl ?_
 simp only [rA,seval,e85,Try.f85]
 rw [for_block l (fun i (_:Unit) =>⟨2,[(0,.val 0 false [.sl .shr 1 (l.map strC)]),(3,.val 1 false [.p (.int .i64 i)])]⟩) (fun i _ =>True)
  (fun r i a =>if ascF (prevO l i) r = true then .norm ⟨0,[]⟩ else .ret ⟨[(false,[.p (.bool false)])],[]⟩) ?_ ?_ (a :=()) trivial (by simp only [rA,seval,e85] <;> rfl)]
 ·cases h:ascF none l
  ·simp only [rA,seval,e85,h,prevO]
  ·simp only [rA,seval,e85,h,prevO]
 ·intro i x r a hd hi _
  have hlen :=(List.getElem?_eq_some_iff.1 hi).1
  have hlt:((i:Int) < (l.length:Int)) :=by omega
  have hr :=getElem?_map_some (f :=strC) hi
  have hi0:(0:Int)≤(i:Int) :=by omega
  have hk :=k71 x
  have hwi :=wrap64 (n :=(i:Int) + 1) (by omega) (by omega)
  have hp:prevO l (i + 1) = some x :=hi
  cases d1:nameB x
  ·right
   have hf:ascF (prevO l i) (x :: r) = false :=by cases hq:prevO l i <;> simp [ascF,d1]
   simp only [rA,seval,e85,e71,hlt,hr,hi0,hk,d1,strC,hf]
  ·rcases prevO_cases l (Nat.le_of_lt hlen) hl with ⟨h0,h1⟩ | ⟨p,h0,hj0,hw2,hj,h1⟩
   ·left
    refine ⟨(),?_,trivial,by rw [hp,h1]; simp [ascF,d1]⟩
    simp only [rA,seval,e85,e71,hlt,hr,hi0,hk,d1,strC,hwi,h0,i64c]
   ·have hrj :=getElem?_map_some (f :=strC) hj
    cases d2:Op.bytesLess p.toList x.toList
    ·right
     have hf:ascF (prevO l i) (x :: r) = false :=by simp [h1,ascF,d2]
     simp only [rA,seval,e85,e71,hlt,hr,hi0,hk,d1,d2,strC,hwi,h0,hj0,hw2,hrj,hf]
    ·left
     refine ⟨(),?_,trivial,by rw [hp,h1]; simp [ascF,d1,d2]⟩
     simp only [rA,seval,e85,e71,hlt,hr,hi0,hk,d1,d2,strC,hwi,h0,hj0,hw2,hrj,i64c]
 ·intro a _
  simp only [rA,seval,e85,ascF]
theorem k86 (a b:ByteArray):EV Try.prog E 86 [.val 0 false [.p (.string a)],.val 0 false [.p (.string b)]] = some ⟨[(false,[.p (.int .i64 (cmpS a b))])],[]⟩ :=by
 refine eVi Try.func86 rfl ?_
 simp only [rA,seval,e86,e92,Try.f86]
theorem k73 (a b:ByteArray):EV Try.prog E 73 [.val 0 false [.p (.string a)],.val 0 false [.p (.string b)]] = some ⟨[(false,[.p (.int .i64 (cmpS a b))])],[]⟩ :=by
 refine eVi Try.func73 rfl ?_
 have h :=k86 a b
 simp only [rA,seval,e73,e86,Try.f73,h]
def keyI (ak an bk bn:ByteArray):Int :=if cmpS ak bk = 0 then cmpS an bn else cmpS ak bk
theorem k45 (ak an bk bn:ByteArray):EV Try.prog E 45 [.val 0 true (keyC ak an),.val 0 true (keyC bk bn)] = some ⟨[(false,[.p (.int .i64 (keyI ak an bk bn))])],[]⟩ :=by
 refine eVi Try.func45 rfl ?_
 have h1 :=k73 ak bk
 have h2 :=k73 an bn
 unfold keyI
 by_cases h:cmpS ak bk = 0
 ·rw [h] at h1
  simp only [rA,seval,e45,e73,Try.f45,h1,h2,h]
 ·simp only [rA,seval,e45,e73,Try.f45,h1,h2,h]
def keyO (x y:VO):Int :=keyI x.kind x.name y.kind y.name
theorem k66 (x y:VO):EV Try.prog E 66 [.val 0 true (VO.c .shr x),.val 0 true (VO.c .shr y)] = some ⟨[(false,[.p (.int .i64 (keyO x y))])],[]⟩ :=by
 refine eVi Try.func66 rfl ?_
 unfold keyO keyI cmpS
 cases h1:Op.bytesLess x.kind.toList y.kind.toList
 ·cases h2:Op.bytesLess y.kind.toList x.kind.toList
  ·cases h3:Op.bytesLess x.name.toList y.name.toList
   ·cases h4:Op.bytesLess y.name.toList x.name.toList
    ·simp only [rA,seval,e66,Try.f66,VO.c,h1,h2,h3,h4]
    ·simp only [rA,seval,e66,Try.f66,VO.c,h1,h2,h3,h4]
   ·simp only [rA,seval,e66,Try.f66,VO.c,h1,h2,h3]
  ·simp only [rA,seval,e66,Try.f66,VO.c,h1,h2]
 ·simp only [rA,seval,e66,Try.f66,VO.c,h1]

def partsB (x:VO) (now:Int):Bool :=nameB x.kind && (nameB x.name && (inR x.version 1 now && (inR x.born 1 x.version && (decide ((x.text.size:Int)≤300) && (decide ((x.holds.length:Int)≤5) && ascF none x.holds)))))
theorem k65 (x:VO) (now:Int) (hl:x.holds.length≤4194304):EV Try.prog E 65 [.val 0 true (VO.c .shr x),.val 0 false [.p (.int .i64 now)]] = some ⟨[(false,[.p (.bool (partsB x now))])],[]⟩ :=by
 refine eVi Try.func65 rfl ?_
 have h1 :=k71 x.kind
 have h2 :=k71 x.name
 have h3 :=k39 x.version 1 now
 have h4 :=k39 x.born 1 x.version
 have h5 :=k85 x.holds hl
 unfold partsB
 cases c1:nameB x.kind
 ·simp only [rA,seval,e65,e71,e39,e85,Try.f65,VO.c,h1,c1]
 cases c2:nameB x.name
 ·simp only [rA,seval,e65,e71,e39,e85,Try.f65,VO.c,h1,c1,h2,c2]
 cases c3:inR x.version 1 now
 ·simp only [rA,seval,e65,e71,e39,e85,Try.f65,VO.c,h1,c1,h2,c2,h3,c3]
 cases c4:inR x.born 1 x.version
 ·simp only [rA,seval,e65,e71,e39,e85,Try.f65,VO.c,h1,c1,h2,c2,h3,c3,h4,c4]
 by_cases c5:(x.text.size:Int)≤300
 ·by_cases c6:(x.holds.length:Int)≤5
  ·simp only [rA,seval,e65,e71,e39,e85,Try.f65,VO.c,h1,c1,h2,c2,h3,c3,h4,c4,c5,c6,h5]
  ·simp only [rA,seval,e65,e71,e39,e85,Try.f65,VO.c,h1,c1,h2,c2,h3,c3,h4,c4,c5,c6]
 ·simp only [rA,seval,e65,e71,e39,e85,Try.f65,VO.c,h1,c1,h2,c2,h3,c3,h4,c4,c5]
def endB (x:VO) (gone:Bool):Bool :=if gone = true then x.ending && (decide ((x.holds.length:Int) = 0) && decide (x.born < x.version)) else !x.ending || decide ((0:Int) < (x.holds.length:Int))
theorem k43 (x:VO) (now:Int) (gone:Bool) (hl:x.holds.length≤4194304):EV Try.prog E 43 [.val 0 true (VO.c .shr x),.val 0 false [.p (.int .i64 now)],.val 0 false [.p (.bool gone)]] = some ⟨[(false,[.p (.bool (partsB x now && endB x gone))])],[]⟩ :=by
 refine eVi Try.func43 rfl ?_
 have h1 :=k47 x.kind
 have h2 :=k47 x.name
 have h5 :=k72 x.holds hl
 unfold partsB inR
 cases c1:nameB x.kind
 ·simp only [rA,seval,e43,e47,e72,Try.f43,VO.c,h1,c1]
 cases c2:nameB x.name
 ·simp only [rA,seval,e43,e47,e72,Try.f43,VO.c,h1,c1,h2,c2]
 by_cases c3:1≤x.version
 case neg =>
  have d3:x.version < 1 :=by omega
  simp only [rA,seval,e43,e47,e72,Try.f43,VO.c,h1,c1,h2,c2,d3,c3]
 have d3:¬ x.version < 1 :=by omega
 by_cases c4:x.version≤now
 case neg =>
  have d4:now < x.version :=by omega
  simp only [rA,seval,e43,e47,e72,Try.f43,VO.c,h1,c1,h2,c2,d3,c3,d4,c4]
 have d4:¬ now < x.version :=by omega
 by_cases c5:1≤x.born
 case neg =>
  have d5:x.born < 1 :=by omega
  simp only [rA,seval,e43,e47,e72,Try.f43,VO.c,h1,c1,h2,c2,d3,c3,d4,c4,d5,c5]
 have d5:¬ x.born < 1 :=by omega
 by_cases c6:x.born≤x.version
 case neg =>
  have d6:x.version < x.born :=by omega
  simp only [rA,seval,e43,e47,e72,Try.f43,VO.c,h1,c1,h2,c2,d3,c3,d4,c4,d5,c5,d6,c6]
 have d6:¬ x.version < x.born :=by omega
 by_cases c7:(x.text.size:Int)≤300
 case neg =>
  have d7:300 < (x.text.size:Int) :=by omega
  simp only [rA,seval,e43,e47,e72,Try.f43,VO.c,h1,c1,h2,c2,d3,c3,d4,c4,d5,c5,d6,c6,d7,c7]
 have d7:¬ 300 < (x.text.size:Int) :=by omega
 by_cases c8:(x.holds.length:Int)≤5
 case neg =>
  have d8:5 < (x.holds.length:Int) :=by omega
  simp only [rA,seval,e43,e47,e72,Try.f43,VO.c,h1,c1,h2,c2,d3,c3,d4,c4,d5,c5,d6,c6,d7,c7,d8,c8]
 have d8:¬ 5 < (x.holds.length:Int) :=by omega
 cases c9:ascF none x.holds
 ·simp only [rA,seval,e43,e47,e72,Try.f43,VO.c,h1,c1,h2,c2,d3,c3,d4,c4,d5,c5,d6,c6,d7,c7,d8,c8,h5,c9]
 unfold endB
 cases gone
 ·cases e:x.ending
  ·simp only [rA,seval,e43,e47,e72,Try.f43,VO.c,h1,c1,h2,c2,d3,c3,d4,c4,d5,c5,d6,c6,d7,c7,d8,c8,h5,c9,e]
  ·simp only [rA,seval,e43,e47,e72,Try.f43,VO.c,h1,c1,h2,c2,d3,c3,d4,c4,d5,c5,d6,c6,d7,c7,d8,c8,h5,c9,e]
 ·cases e:x.ending
  ·simp only [rA,seval,e43,e47,e72,Try.f43,VO.c,h1,c1,h2,c2,d3,c3,d4,c4,d5,c5,d6,c6,d7,c7,d8,c8,h5,c9,e]
  ·by_cases f:(x.holds.length:Int) = 0
   ·simp only [rA,seval,e43,e47,e72,Try.f43,VO.c,h1,c1,h2,c2,d3,c3,d4,c4,d5,c5,d6,c6,d7,c7,d8,c8,h5,c9,e,f]
   ·simp only [rA,seval,e43,e47,e72,Try.f43,VO.c,h1,c1,h2,c2,d3,c3,d4,c4,d5,c5,d6,c6,d7,c7,d8,c8,h5,c9,e,f]
theorem k74 (l m:List ByteArray) (hl:l.length≤4194304) (hm:m.length≤4194304):EV Try.prog E 74 [.val 0 false [.sl .shr 1 (l.map strC)],.val 0 false [.sl .shr 1 (m.map strC)]] = some ⟨[(false,[.p (.bool (decide (l = m)))])],[]⟩ :=by
 refine eVi Try.func74 rfl ?_
 by_cases hn:(l.length:Int) = (m.length:Int)
 ·simp only [rA,seval,e74,Try.f74,hn]
  rw [for_block l (fun i (_:Unit) =>⟨4,[(0,.val 0 false [.sl .shr 1 (l.map strC)]),(1,.val 1 false [.sl .shr 1 (m.map strC)]),(12,.val 2 false [.p (.int .i64 m.length)]),(13,.val 3 false [.p (.int .i64 i)])]⟩) (fun i _ =>True)
   (fun r i a =>if r = m.drop i then .norm ⟨0,[]⟩ else .ret ⟨[(false,[.p (.bool false)])],[]⟩) ?_ ?_ (a :=()) trivial (by simp only [rA,seval,e74,hn] <;> rfl)]
  ·by_cases h:l = m
   ·simp only [rA,seval,e74,h]
   ·simp only [rA,seval,e74,h]
  ·intro i x r a hd hi _
   have hlen :=(List.getElem?_eq_some_iff.1 hi).1
   have hlt:((i:Int) < (m.length:Int)) :=by omega
   have hr :=getElem?_map_some (f :=strC) hi
   have hi0:(0:Int)≤(i:Int) :=by omega
   have hy:m[i]? = some (m[i]'(by omega)) :=List.getElem?_eq_getElem (by omega)
   have hd2:m.drop i = m[i]'(by omega) :: m.drop (i + 1) :=List.drop_eq_getElem_cons (by omega)
   generalize m[i]'(by omega) = y at hy hd2
   have hry :=getElem?_map_some (f :=strC) hy
   have hwi :=wrap64 (n :=(i:Int) + 1) (by omega) (by omega)
   by_cases d1:x = y
   ·left
    refine ⟨(),?_,trivial,by rw [hd2,d1]; simp⟩
    simp only [rA,seval,e74,hlt,hr,hi0,hry,d1,strC,hwi,i64c]
   ·right
    have hf:¬ (x :: r = m.drop i) :=by rw [hd2]; intro e; exact d1 (List.cons.inj e).1
    simp only [rA,seval,e74,hlt,hr,hi0,hry,d1,strC,hwi,i64c,hf]
  ·intro a _
   have e1:(l.length:Int) = m.length :=hn
   have e2:m.drop l.length = [] :=List.drop_eq_nil_of_le (by omega)
   simp only [rA,seval,e74,e1,e2]
 ·have h:¬ l = m :=fun e =>hn (by rw [e])
  simp only [rA,seval,e74,Try.f74,hn,h]
def sameB (x y:VO):Bool :=decide (x.kind = y.kind) && (decide (x.name = y.name) && (decide (x.version = y.version) && (decide (x.born = y.born) && (decide (x.text = y.text) && ((x.ending == y.ending) && decide (x.holds = y.holds))))))
theorem k46 (x y:VO) (hl:x.holds.length≤4194304) (hm:y.holds.length≤4194304):EV Try.prog E 46 [.val 0 true (VO.c .shr x),.val 0 true (VO.c .shr y)] = some ⟨[(false,[.p (.bool (sameB x y))])],[]⟩ :=by
 refine eVi Try.func46 rfl ?_
 have h :=k74 x.holds y.holds hl hm
 unfold sameB
 by_cases c1:x.kind = y.kind
 case neg =>simp only [rA,seval,e46,e74,Try.f46,VO.c,c1]
 by_cases c2:x.name = y.name
 case neg =>simp only [rA,seval,e46,e74,Try.f46,VO.c,c1,c2]
 by_cases c3:x.version = y.version
 case neg =>simp only [rA,seval,e46,e74,Try.f46,VO.c,c1,c2,c3]
 by_cases c4:x.born = y.born
 case neg =>simp only [rA,seval,e46,e74,Try.f46,VO.c,c1,c2,c3,c4]
 by_cases c5:x.text = y.text
 case neg =>simp only [rA,seval,e46,e74,Try.f46,VO.c,c1,c2,c3,c4,c5]
 cases c6:x.ending == y.ending
 ·simp only [rA,seval,e46,e74,Try.f46,VO.c,c1,c2,c3,c4,c5,c6]
 ·simp only [rA,seval,e46,e74,Try.f46,VO.c,c1,c2,c3,c4,c5,c6,h]
theorem k69 (x y:VO) (hl:x.holds.length≤4194304) (hm:y.holds.length≤4194304):EV Try.prog E 69 [.val 0 true (VO.c .shr x),.val 0 true (VO.c .shr y)] = some ⟨[(false,[.p (.bool (sameB x y))])],[]⟩ :=by
 refine eVi Try.func69 rfl ?_
 unfold sameB
 by_cases c1:x.kind = y.kind
 case neg =>simp only [rA,seval,e69,Try.f69,VO.c,c1]
 by_cases c2:x.name = y.name
 case neg =>simp only [rA,seval,e69,Try.f69,VO.c,c1,c2]
 by_cases c3:x.version = y.version
 case neg =>simp only [rA,seval,e69,Try.f69,VO.c,c1,c2,c3]
 by_cases c4:x.born = y.born
 case neg =>simp only [rA,seval,e69,Try.f69,VO.c,c1,c2,c3,c4]
 by_cases c5:x.text = y.text
 case neg =>simp only [rA,seval,e69,Try.f69,VO.c,c1,c2,c3,c4,c5]
 cases c6:x.ending == y.ending
 ·simp only [rA,seval,e69,Try.f69,VO.c,c1,c2,c3,c4,c5,c6]
 by_cases hn:(x.holds.length:Int) = (y.holds.length:Int)
 case neg =>
  have h:¬ x.holds = y.holds :=fun e =>hn (by rw [e])
  simp only [rA,seval,e69,Try.f69,VO.c,c1,c2,c3,c4,c5,c6,hn,h]
 simp only [rA,seval,e69,Try.f69,VO.c,c1,c2,c3,c4,c5,c6,hn]
 rw [for_block x.holds (fun i (_:Unit) =>⟨3,[(2,.box 0 0 (x.c .shr)),(3,.box 1 1 (y.c .shr)),(5,.val 2 false [.p (.int .i64 i)])]⟩) (fun i _ =>True)
   (fun r i a =>if r = y.holds.drop i then .norm ⟨0,[]⟩ else .ret ⟨[(false,[.p (.bool false)])],[]⟩) ?_ ?_ (a :=()) trivial (by simp only [rA,seval,e69,VO.c,c1,c2,c3,c4,c5] <;> rfl)]
 ·by_cases h:x.holds = y.holds
  ·simp only [rA,seval,e69,h]
  ·simp only [rA,seval,e69,h]
 ·intro i e r a hd hi _
  have hlen :=(List.getElem?_eq_some_iff.1 hi).1
  have hlt:((i:Int) < (x.holds.length:Int)) :=by omega
  have hr :=getElem?_map_some (f :=strC) hi
  have hi0:(0:Int)≤(i:Int) :=by omega
  have hy:y.holds[i]? = some (y.holds[i]'(by omega)) :=List.getElem?_eq_getElem (by omega)
  have hd2:y.holds.drop i = y.holds[i]'(by omega) :: y.holds.drop (i + 1) :=List.drop_eq_getElem_cons (by omega)
  generalize y.holds[i]'(by omega) = u at hy hd2
  have hry :=getElem?_map_some (f :=strC) hy
  have hwi :=wrap64 (n :=(i:Int) + 1) (by omega) (by omega)
  by_cases d1:e = u
  ·left
   refine ⟨(),?_,trivial,by rw [hd2,d1]; simp⟩
   simp only [rA,seval,e69,VO.c,hlt,hr,hi0,hry,d1,strC,hwi,i64c]
  ·right
   have hf:¬ (e :: r = y.holds.drop i) :=by rw [hd2]; intro e; exact d1 (List.cons.inj e).1
   simp only [rA,seval,e69,VO.c,hlt,hr,hi0,hry,d1,strC,hwi,i64c,hf]
 ·intro a _
  have e2:y.holds.drop x.holds.length = [] :=List.drop_eq_nil_of_le (by omega)
  simp only [rA,seval,e69,VO.c,e2]
def creaB (x:VC):Bool :=!x.gone && decide (x.object.born = x.version)
theorem k68 (x:VC):EV Try.prog E 68 [.val 0 true (VC.c .shr x)] = some ⟨[(false,[.p (.bool (creaB x))])],[]⟩ :=by
 refine eVi Try.func68 rfl ?_
 unfold creaB
 cases h:x.gone
 ·simp only [rA,seval,e68,Try.f68,VC.c,h]
 ·simp only [rA,seval,e68,Try.f68,VC.c,h]
def lastF (h:List VC) (o:VO):Nat→Int
 | 0 =>-1
 | n + 1 =>match h[n]? with
  | some c =>if keyO c.object o = 0 then n else lastF h o n
  | none =>-1
theorem k67 (h:List VC) (o:VO) (n:Nat) (hn:n≤h.length) (hl:h.length≤4194304):EV Try.prog E 67 [.val 0 false [.sl .shr 9 (h.map (VC.c .shr))],.val 0 true (VO.c .shr o),.val 0 false [.p (.int .i64 n)]] = some ⟨[(false,[.p (.int .i64 (lastF h o n))])],[]⟩ :=by
 refine eVi Try.func67 rfl ?_
 have hw0 :=wrap64 (n :=(n:Int) - 1) (by omega) (by omega)
 simp only [rA,seval,e67,Try.f67,VO.c,hw0]
 rw [while_block (fun i:Nat =>⟨3,[(0,.val 0 false [.sl .shr 9 (h.map (VC.c .shr))]),(4,.box 1 1 (o.c .shr)),(7,.val 2 false [.p (.int .i64 ((i:Int) - 1))])]⟩) (fun i =>i≤n)
  (fun i =>if lastF h o i < 0 then .norm ⟨0,[]⟩ else .ret ⟨[(false,[.p (.int .i64 (lastF h o i))])],[]⟩) (fun i =>i) ?_ (i :=n) (Nat.le_refl n) (by simp only [rA,seval,e67,VO.c])]
 ·by_cases hh:lastF h o n < 0
  ·have e:lastF h o n = -1 :=by
    have:∀ n,lastF h o n < 0→lastF h o n = -1 :=by
     intro n
     induction n with
     | zero =>intro _; rfl
     | succ n ih =>
      intro e
      unfold lastF at e ⊢
      split at e
      ·split at e
       ·omega
       ·rename_i hc hk
        rw [if_neg hk]
        exact ih e
      ·rfl
    exact this n hh
   simp only [rA,seval,e67,hh,e]
  ·simp only [rA,seval,e67,hh]
 ·intro i hi
  cases i with
  | zero =>
   right
   have e0:lastF h o 0 = -1 :=rfl
   have e1:((0:Nat):Int) - 1 = -1 :=rfl
   simp only [rA,seval,e67,VO.c,e0,e1]
  | succ j =>
   have hj:h[j]? = some (h[j]'(by omega)) :=List.getElem?_eq_getElem (by omega)
   generalize h[j]'(by omega) = c at hj
   have hr :=getElem?_map_some (f :=VC.c .shr) hj
   have hs:(j:Int) + 1 - 1 = j :=by omega
   have hj0:(0:Int)≤(j:Int) :=by omega
   have hwj :=wrap64 (n :=(j:Int) - 1) (by omega) (by omega)
   have hk :=k66 c.object o
   simp only [VO.c,VC.c] at hk hr
   have hl1:lastF h o (j + 1) = if keyO c.object o = 0 then (j:Int) else lastF h o j :=by simp [lastF,hj]
   by_cases d:keyO c.object o = 0
   ·right
    have hn0:¬ ((j:Int) < 0) :=by omega
    rw [hl1,if_pos d]
    simp only [rA,seval,e67,e66,VO.c,VC.c,i64c,hs,hj0,hr,hk,d,hn0]
   ·left
    refine ⟨j,?_,by omega,by omega,by rw [hl1,if_neg d]⟩
    simp only [rA,seval,e67,e66,VO.c,VC.c,i64c,hs,hj0,hr,hk,d,hwj]
def objAt (b:VBook) (i:Nat) (x:VO):Bool :=partsB x b.now && (!(x.ending && decide ((x.holds.length:Int) = 0)) && ((match prevO b.objects i with | none =>true | some p =>decide (keyO p x < 0)) && (b.objects.take i).all fun y =>!decide (y.version = x.version)))
def objsF (b:VBook):Nat→List VO→Bool
 | _,[] =>true
 | i,x :: r =>objAt b i x && objsF b (i + 1) r
theorem k40 (b:VBook) (hw:b.w≤4194304):EV Try.prog E 40 [.val 0 true (b.c .shr)] = some ⟨[(false,[.p (.bool (decide ((b.objects.length:Int)≤100) && objsF b 0 b.objects))])],[]⟩ :=by
 refine eVi Try.func40 rfl ?_
 have hll:b.objects.length≤4194304 :=by unfold VBook.w wSBookObject at hw; omega
 by_cases c0:(100:Int) < (b.objects.length:Int)
 ·have c0':¬ (b.objects.length:Int)≤100 :=by omega
  simp only [rA,seval,e40,Try.f40,VBook.c,c0,c0']
 have c0':(b.objects.length:Int)≤100 :=by omega
 simp only [rA,seval,e40,Try.f40,VBook.c,c0,c0']
 rw [for_block b.objects (fun i (_:Unit) =>⟨2,[(1,.box 0 0 (b.c .shr)),(3,.val 1 false [.p (.int .i64 i)])]⟩) (fun i _ =>True)
  (fun r i a =>if objsF b i r = true then .norm ⟨0,[]⟩ else .ret ⟨[(false,[.p (.bool false)])],[]⟩) ?_ ?_ (a :=()) trivial (by simp only [rA,seval,e40,VBook.c] <;> rfl)]
 ·cases h:objsF b 0 b.objects
  ·simp only [rA,seval,e40,h]
  ·simp only [rA,seval,e40,h]
 ·intro i x r a hd hi _
  have hlen :=(List.getElem?_eq_some_iff.1 hi).1
  have hlt:((i:Int) < (b.objects.length:Int)) :=by omega
  have hr :=getElem?_map_some (f :=VO.c .shr) hi
  have hi0:(0:Int)≤(i:Int) :=by omega
  have hwi :=wrap64 (n :=(i:Int) + 1) (by omega) (by omega)
  have hxw :=sum_obj_le (List.mem_of_getElem? hi)
  have hxl:x.holds.length≤4194304 :=holds_le (n :=4194304) (by unfold VBook.w wSBookObject at hw; omega)
  have h1 :=k65 x b.now hxl
  simp only [VO.c] at h1 hr
  by_cases hA:partsB x b.now = true∧¬ (x.ending = true∧(x.holds.length:Int) = 0)∧(match prevO b.objects i with | none =>true | some p =>decide (keyO p x < 0)) = true
  case neg =>
   right
   have hf:objAt b i x = false :=by
    unfold objAt
    cases e1:partsB x b.now
    ·rfl
    cases e2:x.ending <;> by_cases e3:(x.holds.length:Int) = 0 <;> simp_all
   have hf':objsF b i (x :: r) = false :=by simp [objsF,hf]
   cases c1:partsB x b.now
   ·rw [c1] at h1
    simp only [rA,seval,e40,e65,VBook.c,VO.c,hlt,hr,hi0,h1,hf']
   rw [c1] at h1
   by_cases c2:x.ending = true∧(x.holds.length:Int) = 0
   ·obtain ⟨c2,c3⟩ :=c2
    simp only [c2] at h1 hr
    simp only [rA,seval,e40,e65,VBook.c,VO.c,hlt,hr,hi0,h1,hf',c2,c3]
   ·rcases prevO_cases b.objects (Nat.le_of_lt hlen) hll with ⟨h0,hp⟩ | ⟨p,h0,hj0,hw2,hj,hp⟩
    ·rw [hp] at hA
     exact absurd ⟨c1,c2,rfl⟩ hA
    ·have hk:¬ keyO p x < 0 :=fun e =>hA ⟨c1,c2,by rw [hp]; simpa using e⟩
     have hk':0≤keyO p x :=by omega
     have hrj :=getElem?_map_some (f :=VO.c .shr) hj
     have h2 :=k66 p x
     simp only [VO.c] at h2 hrj
     cases c3:x.ending
     ·simp only [c3] at h1 hr h2
      simp only [rA,seval,e40,e65,e66,VBook.c,VO.c,hlt,hr,hi0,h1,hf',c3,h0,hj0,hw2,hrj,h2,hk']
     ·have c4:¬ (x.holds.length:Int) = 0 :=fun e =>c2 ⟨c3,e⟩
      simp only [c3] at h1 hr h2
      simp only [rA,seval,e40,e65,e66,VBook.c,VO.c,hlt,hr,hi0,h1,hf',c3,c4,h0,hj0,hw2,hrj,h2,hk']
  case pos =>
   obtain ⟨c1,c2,c3⟩ :=hA
   rw [c1] at h1
   have hin:∀ (s:St),mask [1,3,4,5] s = ⟨4,[(1,.box 0 0 (b.c .shr)),(3,.val 1 false [.p (.int .i64 i)]),(4,.box 2 2 (x.c .shr)),(5,.val 3 false [.p (.int .i64 0)])]⟩ →
     True :=fun _ _ =>trivial
   have hf0:objAt b i x = (b.objects.take i).all fun y =>!decide (y.version = x.version) :=by
    unfold objAt
    rw [c1,c3]
    cases e2:x.ending <;> by_cases e3:(x.holds.length:Int) = 0 <;> simp_all
   have htl:(b.objects.take i).length = i :=by rw [List.length_take]; omega
   have e4:¬ (x.ending = true∧(x.holds.length:Int) = 0) :=c2
   have hout:objsF b i (x :: r) = ((b.objects.take i).all (fun y =>!decide (y.version = x.version)) && objsF b (i + 1) r) :=by rw [objsF,hf0]
   have IL:∀ (F:Fr) (g:St→Option O),(∀ k y,k < i→(b.objects)[k]? = some y→nxtB F 2 [1,3,4,5] (g ⟨4,[(1,.box 0 0 (b.c .shr)),(3,.val 1 false [.p (.int .i64 i)]),(4,.box 2 2 (x.c .shr)),(5,.val 3 false [.p (.int .i64 k)])]⟩) =
      some (if y.version = x.version then .inr (.ret ⟨[(false,[.p (.bool false)])],[]⟩) else .inl ⟨4,[(1,.box 0 0 (b.c .shr)),(3,.val 1 false [.p (.int .i64 i)]),(4,.box 2 2 (x.c .shr)),(5,.val 3 false [.p (.int .i64 ((k:Int) + 1))])]⟩)) →
     nxtB F 2 [1,3,4,5] (g ⟨4,[(1,.box 0 0 (b.c .shr)),(3,.val 1 false [.p (.int .i64 i)]),(4,.box 2 2 (x.c .shr)),(5,.val 3 false [.p (.int .i64 i)])]⟩) = some (.inr (.norm ⟨2,[(1,.box 0 0 (b.c .shr)),(3,.val 1 false [.p (.int .i64 i)])]⟩)) →
     ∀ s,mask [1,3,4,5] s = ⟨4,[(1,.box 0 0 (b.c .shr)),(3,.val 1 false [.p (.int .i64 i)]),(4,.box 2 2 (x.c .shr)),(5,.val 3 false [.p (.int .i64 0)])]⟩ →
     blockO F 2 (itω [1,3,4,5] g s) = some (if (b.objects.take i).all (fun y =>!decide (y.version = x.version)) = true then .norm ⟨2,[(1,.box 0 0 (b.c .shr)),(3,.val 1 false [.p (.int .i64 i)])]⟩ else .ret ⟨[(false,[.p (.bool false)])],[]⟩) :=by
    intro F g hst hen s hs
    refine for_block (b.objects.take i) (fun k (_:Unit) =>⟨4,[(1,.box 0 0 (b.c .shr)),(3,.val 1 false [.p (.int .i64 i)]),(4,.box 2 2 (x.c .shr)),(5,.val 3 false [.p (.int .i64 k)])]⟩) (fun _ _ =>True)
     (fun r k a =>if r.all (fun y =>!decide (y.version = x.version)) = true then .norm ⟨2,[(1,.box 0 0 (b.c .shr)),(3,.val 1 false [.p (.int .i64 i)])]⟩ else .ret ⟨[(false,[.p (.bool false)])],[]⟩) ?_ ?_ (a :=()) trivial hs
    ·intro k y q a hd hk _
     have hkl :=(List.getElem?_eq_some_iff.1 hk).1
     rw [htl] at hkl
     rw [List.getElem?_take_of_lt hkl] at hk
     have h :=hst k y hkl hk
     by_cases d:y.version = x.version
     ·right
      rw [h,if_pos d]
      simp [d]
     ·left
      refine ⟨(),?_,trivial,by simp [d]⟩
      rw [h,if_neg d]
      simp
    ·intro a _
     rw [htl]
     simpa using hen
   simp only [VBook.c,VO.c] at IL
   have hstep:∀ (e:Bool) (k:Nat) (y:VO),k < i→b.objects[k]? = some y→(k:Int) < i∧(0:Int)≤k∧IntKind.i64.wrap ((k:Int) + 1) = (k:Int) + 1∧(b.objects.map (VO.c .shr))[k]? = some (y.c .shr) :=
    fun e k y hk hy =>⟨by omega,by omega,wrap64 (by omega) (by omega),getElem?_map_some hy⟩
   have cc:∃ e,x.ending = e∧(e = false∧True∨e = true∧¬ (x.holds.length:Int) = 0) :=by
    cases c4:x.ending
    ·exact ⟨false,rfl,.inl ⟨rfl,trivial⟩⟩
    ·exact ⟨true,rfl,.inr ⟨rfl,fun e =>c2 ⟨c4,e⟩⟩⟩
   obtain ⟨e,c4,⟨rfl,c5⟩ | ⟨rfl,c5⟩⟩ :=cc
   all_goals (simp only [c4] at h1 hr IL)
   all_goals (rcases prevO_cases b.objects (Nat.le_of_lt hlen) hll with ⟨h0,hp⟩ | ⟨p,h0,hj0,hw2,hj,hp⟩)
   all_goals (first
    | (have hrj :=getElem?_map_some (f :=VO.c .shr) hj; have h2 :=k66 p x; have hk:¬ 0≤keyO p x :=(by rw [hp] at c3; have :=of_decide_eq_true c3; omega); simp only [VO.c,c4] at h2 hrj; simp only [rA,seval,e40,e65,e66,VBook.c,VO.c,hlt,hr,hi0,h1,c4,c5,h0,hj0,hw2,hrj,h2,hk])
    | simp only [rA,seval,e40,e65,VBook.c,VO.c,hlt,hr,hi0,h1,c4,c5,h0])
   all_goals (rw [IL _ _ (by
     intro k y hk hy
     obtain ⟨q1,q2,q3,q4⟩ :=hstep true k y hk hy
     simp only [VO.c] at q4
     by_cases d:y.version = x.version
     ·simp only [rA,seval,e40,VBook.c,VO.c,q1,q2,q3,q4,d]
     ·simp only [rA,seval,e40,VBook.c,VO.c,q1,q2,q3,q4,d]) (by simp only [rA,seval,e40,VBook.c,VO.c]) _ (by simp only [rA,seval,e40,VBook.c,VO.c])])
   all_goals (cases d:(b.objects.take i).all fun y =>!decide (y.version = x.version))
   all_goals first
    | (right; simp only [rA,seval,e40,VBook.c,hout,d,hwi]; done)
    | (left; refine ⟨(),?_,trivial,by rw [hout,d,Bool.true_and]⟩; simp only [rA,seval,e40,VBook.c,hout,d,hwi,i64c]; done)
 ·intro a _
  simp only [rA,seval,e40,VBook.c,objsF]
def ahead (p:Option VT) (x:VT):Bool :=match p with
 | none =>true
 | some p =>Op.bytesLess p.client.toList x.client.toList
def tick1 (now:Int) (p:Option VT) (x:VT):Bool :=nameB x.client && (ahead p x && (inR x.number 1 1000000 && (decide ((x.print.size:Int) = 8) && (inR x.code 0 9 && inR x.version 0 now))))
def tickF (now:Int):Option VT→List VT→Bool
 | _,[] =>true
 | p,x :: r =>tick1 now p x && tickF now (some x) r
theorem k42 (b:VBook) (hw:b.w≤4194304):EV Try.prog E 42 [.val 0 true (b.c .shr)] = some ⟨[(false,[.p (.bool (decide ((b.tickets.length:Int)≤50) && tickF b.now none b.tickets))])],[]⟩ :=by
 refine eVi Try.func42 rfl ?_
 have hll:b.tickets.length≤4194304 :=by unfold VBook.w wSBookTicket at hw; omega
 by_cases c0:(50:Int) < (b.tickets.length:Int)
 ·have c0':¬ (b.tickets.length:Int)≤50 :=by omega
  simp only [rA,seval,e42,Try.f42,VBook.c,c0,c0']
 have c0':(b.tickets.length:Int)≤50 :=by omega
 simp only [rA,seval,e42,Try.f42,VBook.c,c0,c0']
 rw [for_block b.tickets (fun i (_:Unit) =>⟨2,[(1,.box 0 0 (b.c .shr)),(3,.val 1 false [.p (.int .i64 i)])]⟩) (fun i _ =>True)
  (fun r i a =>if tickF b.now (prevO b.tickets i) r = true then .norm ⟨0,[]⟩ else .ret ⟨[(false,[.p (.bool false)])],[]⟩) ?_ ?_ (a :=()) trivial (by simp only [rA,seval,e42,VBook.c] <;> rfl)]
 ·cases h:tickF b.now none b.tickets
  ·simp only [rA,seval,e42,h,prevO]
  ·simp only [rA,seval,e42,h,prevO]
 ·intro i x r a hd hi _
  have hlen :=(List.getElem?_eq_some_iff.1 hi).1
  have hlt:((i:Int) < (b.tickets.length:Int)) :=by omega
  have hr :=getElem?_map_some (f :=VT.c) hi
  have hi0:(0:Int)≤(i:Int) :=by omega
  have hwi :=wrap64 (n :=(i:Int) + 1) (by omega) (by omega)
  have hp':prevO b.tickets (i + 1) = some x :=hi
  have h1 :=k71 x.client
  have h2 :=k39 x.number 1 1000000
  have h3 :=k39 x.code 0 9
  have h4 :=k39 x.version 0 b.now
  simp only [VT.c] at hr
  have hF:tickF b.now (prevO b.tickets i) (x :: r) = (tick1 b.now (prevO b.tickets i) x && tickF b.now (some x) r) :=rfl
  cases c1:nameB x.client
  ·right
   have hf:tick1 b.now (prevO b.tickets i) x = false :=by simp [tick1,c1]
   rw [hf,Bool.false_and] at hF
   simp only [rA,seval,e42,e71,e39,VBook.c,VT.c,hlt,hr,hi0,h1,c1,hF]
  rcases prevO_cases b.tickets (Nat.le_of_lt hlen) hll with ⟨h0,hp⟩ | ⟨p,h0,hj0,hw2,hj,hp⟩
  ·cases c2:inR x.number 1 1000000
   ·right
    have hf:tick1 b.now (prevO b.tickets i) x = false :=by simp [tick1,c1,hp,ahead,c2]
    rw [hf,Bool.false_and] at hF
    simp only [rA,seval,e42,e71,e39,VBook.c,VT.c,hlt,hr,hi0,h1,c1,h0,h2,c2,hF]
   by_cases c3:(x.print.size:Int) = 8
   case neg =>
    right
    have hf:tick1 b.now (prevO b.tickets i) x = false :=by simp [tick1,c1,hp,ahead,c2,c3]
    rw [hf,Bool.false_and] at hF
    simp only [rA,seval,e42,e71,e39,VBook.c,VT.c,hlt,hr,hi0,h1,c1,h0,h2,c2,c3,hF]
   cases c4:inR x.code 0 9
   ·right
    have hf:tick1 b.now (prevO b.tickets i) x = false :=by simp [tick1,c1,hp,ahead,c2,c3,c4]
    rw [hf,Bool.false_and] at hF
    simp only [rA,seval,e42,e71,e39,VBook.c,VT.c,hlt,hr,hi0,h1,c1,h0,h2,c2,c3,h3,c4,hF]
   cases c5:inR x.version 0 b.now
   ·right
    have hf:tick1 b.now (prevO b.tickets i) x = false :=by simp [tick1,c1,hp,ahead,c2,c3,c4,c5]
    rw [hf,Bool.false_and] at hF
    simp only [rA,seval,e42,e71,e39,VBook.c,VT.c,hlt,hr,hi0,h1,c1,h0,h2,c2,c3,h3,c4,h4,c5,hF]
   ·left
    have hf:tick1 b.now (prevO b.tickets i) x = true :=by simp [tick1,c1,hp,ahead,c2,c3,c4,c5]
    rw [hf,Bool.true_and] at hF
    refine ⟨(),?_,trivial,by rw [hF,hp']⟩
    simp only [rA,seval,e42,e71,e39,VBook.c,VT.c,hlt,hr,hi0,h1,c1,h0,h2,c2,c3,h3,c4,h4,c5,hwi,i64c]
  ·have hrj :=getElem?_map_some (f :=VT.c) hj
   simp only [VT.c] at hrj
   cases c6:Op.bytesLess p.client.toList x.client.toList
   ·right
    have hf:tick1 b.now (prevO b.tickets i) x = false :=by simp [tick1,c1,hp,ahead,c6]
    rw [hf,Bool.false_and] at hF
    simp only [rA,seval,e42,e71,e39,VBook.c,VT.c,hlt,hr,hi0,h1,c1,h0,hj0,hw2,hrj,c6,hF]
   cases c2:inR x.number 1 1000000
   ·right
    have hf:tick1 b.now (prevO b.tickets i) x = false :=by simp [tick1,c1,hp,ahead,c6,c2]
    rw [hf,Bool.false_and] at hF
    simp only [rA,seval,e42,e71,e39,VBook.c,VT.c,hlt,hr,hi0,h1,c1,h0,hj0,hw2,hrj,c6,h2,c2,hF]
   by_cases c3:(x.print.size:Int) = 8
   case neg =>
    right
    have hf:tick1 b.now (prevO b.tickets i) x = false :=by simp [tick1,c1,hp,ahead,c6,c2,c3]
    rw [hf,Bool.false_and] at hF
    simp only [rA,seval,e42,e71,e39,VBook.c,VT.c,hlt,hr,hi0,h1,c1,h0,hj0,hw2,hrj,c6,h2,c2,c3,hF]
   cases c4:inR x.code 0 9
   ·right
    have hf:tick1 b.now (prevO b.tickets i) x = false :=by simp [tick1,c1,hp,ahead,c6,c2,c3,c4]
    rw [hf,Bool.false_and] at hF
    simp only [rA,seval,e42,e71,e39,VBook.c,VT.c,hlt,hr,hi0,h1,c1,h0,hj0,hw2,hrj,c6,h2,c2,c3,h3,c4,hF]
   cases c5:inR x.version 0 b.now
   ·right
    have hf:tick1 b.now (prevO b.tickets i) x = false :=by simp [tick1,c1,hp,ahead,c6,c2,c3,c4,c5]
    rw [hf,Bool.false_and] at hF
    simp only [rA,seval,e42,e71,e39,VBook.c,VT.c,hlt,hr,hi0,h1,c1,h0,hj0,hw2,hrj,c6,h2,c2,c3,h3,c4,h4,c5,hF]
   ·left
    have hf:tick1 b.now (prevO b.tickets i) x = true :=by simp [tick1,c1,hp,ahead,c6,c2,c3,c4,c5]
    rw [hf,Bool.true_and] at hF
    refine ⟨(),?_,trivial,by rw [hF,hp']⟩
    simp only [rA,seval,e42,e71,e39,VBook.c,VT.c,hlt,hr,hi0,h1,c1,h0,hj0,hw2,hrj,c6,h2,c2,c3,h3,c4,h4,c5,hwi,i64c]
 ·intro a _
  simp only [rA,seval,e42,VBook.c,tickF]
theorem szNil:((⟨#[]⟩:ByteArray).size:Int) = 0 :=rfl
def nilT:ByteArray :=⟨#[]⟩
def wrB (w:VW):Bool :=inR w.op 1 5 && (nameB w.kind && (nameB w.name && (decide (0≤w.seen) && (decide ((w.text.size:Int)≤300) && ((decide (w.hold = ⟨#[]⟩) || nameB w.hold) &&
 ((decide (w.op≤2) || decide (w.text = ⟨#[]⟩)) && ((!decide (w.op = 1) || decide (w.seen = 0)) && (decide (w.op = 1) || if w.op≤3 then decide (w.hold = ⟨#[]⟩) else !decide (w.hold = ⟨#[]⟩)))))))))

theorem k87 (w:VW):EV Try.prog E 87 [.val 0 true (VW.c w)] = some ⟨[(false,[.p (.bool (wrB w))])],[]⟩ :=by
 refine eVi Try.func87 rfl ?_
 obtain ⟨op,kind,name,seen,text,hold⟩ :=w
 have h1 :=k71 kind
 have h2 :=k71 name
 have h3 :=k71 hold
 have h0 :=k39 op 1 5
 unfold wrB
 unfold inR at h0
 unfold inR
 by_cases c1:1≤op
 case neg =>
  have d1:op < 1 :=by omega
  simp only [rA,seval,e87,e71,e39,Try.f87,VW.c,h1,h2,h0,c1,d1]
 have d1:¬ (op < 1) :=by omega
 by_cases c2:op≤5
 case neg =>
  have d2:5 < op :=by omega
  simp only [rA,seval,e87,e71,e39,Try.f87,VW.c,h1,h2,h0,c1,d1,c2,d2]
 have d2:¬ (5 < op) :=by omega
 cases c3:nameB kind
 ·simp only [rA,seval,e87,e71,e39,Try.f87,VW.c,h1,h2,h0,c1,d1,c2,d2,c3]
 cases c4:nameB name
 ·simp only [rA,seval,e87,e71,e39,Try.f87,VW.c,h1,h2,h0,c1,d1,c2,d2,c3,c4]
 by_cases c5:0≤seen
 case neg =>
  have d5:seen < 0 :=by omega
  simp only [rA,seval,e87,e71,e39,Try.f87,VW.c,h1,h2,h0,c1,d1,c2,d2,c3,c4,c5,d5]
 have d5:¬ (seen < 0) :=by omega
 by_cases c6:(text.size:Int)≤300
 case neg =>
  have d6:300 < (text.size:Int) :=by omega
  simp only [rA,seval,e87,e71,e39,Try.f87,VW.c,h1,h2,h0,c1,d1,c2,d2,c3,c4,c5,d5,c6,d6]
 have d6:¬ (300 < (text.size:Int)) :=by omega
 by_cases c7:hold = ⟨#[]⟩
 ·by_cases c9:text = ⟨#[]⟩ <;> by_cases c10:seen = 0 <;> rcases (show op = 1∨op = 2∨op = 3∨op = 4∨op = 5 by omega) with rfl | rfl | rfl | rfl | rfl <;>
   simp only [rA,seval,e87,e71,e39,Try.f87,VW.c,h1,h2,h0,c3,c4,c5,d5,c6,d6,c7,c9,c10,szNil]
 ·cases c8:nameB hold
  ·simp only [rA,seval,e87,e71,e39,Try.f87,VW.c,h1,h2,h0,c1,d1,c2,d2,c3,c4,c5,d5,c6,d6,c7,h3,c8]
  by_cases c9:text = ⟨#[]⟩ <;> by_cases c10:seen = 0 <;> rcases (show op = 1∨op = 2∨op = 3∨op = 4∨op = 5 by omega) with rfl | rfl | rfl | rfl | rfl <;>
   simp only [rA,seval,e87,e71,e39,Try.f87,VW.c,h1,h2,h0,c3,c4,c5,d5,c6,d6,c7,h3,c8,c9,c10,szNil]

def idxT (h:ByteArray):List ByteArray→Nat→Int
 | [],_ =>-1
 | x :: r,i =>if h = x then (i:Int) else idxT h r (i + 1)
def hasF (h:ByteArray):List ByteArray→Bool
 | [] =>false
 | x :: r =>decide (x = h) || hasF h r
theorem k93 (l:List ByteArray) (h:ByteArray) (hl:l.length≤4194304):EV Try.prog E 93 [.val 0 false [.sl .shr 1 (l.map strC)],.val 0 false [.p (.string h)]] = some ⟨[(false,[.p (.bool (hasF h l))])],[]⟩ :=by
 refine eVi Try.func93 rfl ?_
 simp only [rA,seval,e93,Try.f93]
 rw [for_block l (fun i (_:Unit) =>⟨3,[(0,.val 0 false [.sl .shr 1 (l.map strC)]),(1,.val 1 false [.p (.string h)]),(5,.val 2 false [.p (.int .i64 i)])]⟩) (fun i _ =>True)
   (fun r i a =>if hasF h r = true then .ret ⟨[(false,[.p (.bool true)])],[]⟩ else .norm ⟨0,[]⟩) ?_ ?_ (a :=()) trivial (by simp only [rA,seval,e93] <;> rfl)]
 ·cases q:hasF h l
  ·simp only [rA,seval,e93,q]
  ·simp only [rA,seval,e93,q]
 ·intro i x r a hd hi _
  have hlen :=(List.getElem?_eq_some_iff.1 hi).1
  have hlt:((i:Int) < (l.length:Int)) :=by omega
  have hr :=getElem?_map_some (f :=strC) hi
  have hwi :=wrap64 (n :=(i:Int) + 1) (by omega) (by omega)
  have hi0:(0:Int)≤(i:Int) :=by omega
  simp only [strC] at hr
  by_cases d:x = h
  ·right
   simp only [rA,seval,e93,hlt,hr,hwi,hi0,d,hasF]
  ·left
   refine ⟨(),?_,trivial,by simp [hasF,d]⟩
   simp only [rA,seval,e93,hlt,hr,hwi,hi0,d,i64c]
 ·intro a _
  have hn:¬ ((l.length:Int) < (l.length:Int)) :=by omega
  simp only [rA,seval,e93,hn,hasF]
def insI (l:List ByteArray) (h:ByteArray):List ByteArray :=sortT (l ++ [h])
def delI (l:List ByteArray) (h:ByteArray):List ByteArray :=l.take (idxT h l 0).toNat ++ l.drop ((idxT h l 0).toNat + 1)
def cntT (h:ByteArray):List ByteArray→Nat
 | [] =>0
 | x :: r =>if Op.bytesLess x.toList h.toList = true then cntT h r + 1 else 0
def insS (l:List ByteArray) (h:ByteArray):List ByteArray :=l.take (cntT h l) ++ [h] ++ l.drop (cntT h l)
def delS (l:List ByteArray) (h:ByteArray):List ByteArray :=l.filter fun x =>!decide (x = h)

theorem toList_data (x:ByteArray):x.toList = x.data.toList :=ByteArray.toList_eq x
theorem toList_inj {x y:ByteArray} (h:x.toList = y.toList):x = y :=by
 rw [toList_data,toList_data] at h
 exact ByteArray.ext (Array.toList_inj.1 h)
def ltT (x y:ByteArray):Prop :=x.toList < y.toList
abbrev Asc (l:List ByteArray):Prop :=List.Pairwise ltT l

theorem insS_perm (l:List ByteArray) (h:ByteArray):(insS l h).Perm (l ++ [h]) :=by
 unfold insS
 have e:l.take (cntT h l) ++ [h] ++ l.drop (cntT h l) = l.take (cntT h l) ++ ([h] ++ l.drop (cntT h l)) :=List.append_assoc _ _ _
 rw [e]
 refine (List.Perm.append_left _ (List.perm_append_comm)).trans ?_
 rw [← List.append_assoc,List.take_append_drop]
theorem take_snoc {α:Type} {l:List α} {i:Nat} {x:α} (h:l[i]? = some x):l.take (i + 1) = l.take i ++ [x] :=by
 rw [List.take_add_one,h]; rfl
theorem lt_irrefl (a:List UInt8):Op.bytesLess a a = false :=by
 rw [bytesLess_eq]
 exact decide_eq_false (List.lt_irrefl a)
theorem lt_tri {a b:ByteArray} (h1:Op.bytesLess a.toList b.toList = false) (h2:Op.bytesLess b.toList a.toList = false):a = b :=by
 rw [bytesLess_eq] at h1 h2
 have e:a.toList = b.toList :=List.le_antisymm (List.not_lt.1 (of_decide_eq_false h2)) (List.not_lt.1 (of_decide_eq_false h1))
 rw [Lib.toList_data,Lib.toList_data] at e
 cases a; cases b
 simp only [ByteArray.mk.injEq]
 exact Array.toList_inj.1 e
theorem cmp_zero (a b:ByteArray):cmpS a b = 0↔a = b :=by
 unfold cmpS
 constructor
 ·intro h
  split at h
  ·cases h
  ·split at h
   ·cases h
   ·rename_i h1 h2
    exact lt_tri (by simpa using h1) (by simpa using h2)
 ·rintro rfl
  rw [lt_irrefl]; rfl
theorem key_zero (x y:VO):keyO x y = 0↔x.kind = y.kind∧x.name = y.name :=by
 unfold keyO keyI
 by_cases h:cmpS x.kind y.kind = 0
 ·rw [if_pos h,cmp_zero]
  exact ⟨fun e =>⟨(cmp_zero _ _).1 h,e⟩,fun e =>e.2⟩
 ·rw [if_neg h]
  exact ⟨fun e =>absurd e h,fun e =>absurd ((cmp_zero _ _).2 e.1) h⟩
theorem map_snoc {α β:Type} (f:α→β) {l:List α} {i:Nat} {x:α} (h:l[i]? = some x):(l.take (i + 1)).map f = (l.take i).map f ++ [f x] :=by
 rw [take_snoc h,List.map_append]; rfl
theorem take_le {α:Type} (l:List α) (i:Nat):(l.take i).length≤l.length :=by rw [List.length_take]; omega
theorem k63 (l:List VO) (hw:wSBookObject l≤4194304):EV Try.prog E 63 [.val 0 false [.sl .shr 7 (l.map (VO.c .shr))]] = some ⟨[(false,[.sl .own 7 (l.map (VO.c .own))])],[]⟩ :=by
 refine eVi Try.func63 rfl ?_
 unfold wSBookObject at hw
 simp only [rA,seval,e63,Try.f63]
 rw [for_block l (fun i (_:Unit) =>⟨3,[(0,.val 0 false [.sl .shr 7 (l.map (VO.c .shr))]),(3,.val 1 false [.sl .own 7 ((l.take i).map (VO.c .own))]),(4,.val 2 false [.p (.int .i64 i)])]⟩) (fun i _ =>True)
  (fun r i a =>.norm ⟨1,[(3,.val 0 false [.sl .own 7 (l.map (VO.c .own))])]⟩) ?_ ?_ (a :=()) trivial (by simp only [rA,seval,e63,List.take_zero,List.map_nil] <;> rfl)]
 ·simp only [rA,seval,e63,rwO]
 ·intro i x r a hd hi _
  have hlen :=(List.getElem?_eq_some_iff.1 hi).1
  have hlt:((i:Int) < (l.length:Int)) :=by omega
  have hr :=getElem?_map_some (f :=VO.c .shr) hi
  have hi0:(0:Int)≤(i:Int) :=by omega
  have hwi :=wrap64 (n :=(i:Int) + 1) (by omega) (by omega)
  have hxw :=sum_obj_le (List.mem_of_getElem? hi)
  have hxl:x.holds.length≤4194304 :=holds_le (n :=4194304) (by omega)
  have h2 :=k53 x hxl
  have hll :=take_le l i
  have hs :=map_snoc (VO.c .own) hi
  simp only [VO.c] at h2 hr hs
  left
  refine ⟨(),?_,trivial,rfl⟩
  have hL1:(l.take i).length + 1 < 4294967296 :=by omega
  simp only [rA,seval,e63,e53,VO.c,hlt,hr,hi0,hwi,h2,hs,i64c,LIM,hL1,rwO,rwS]
 ·intro a _
  simp only [rA,seval,e63,List.take_length]
theorem k62 (l:List VO) (hw:wSBookObject l≤4194304):EV Try.prog E 62 [.val 0 false [.sl .shr 7 (l.map (VO.c .shr))]] = some ⟨[(false,[.sl .own 7 (l.map (VO.c .own))])],[]⟩ :=by
 refine eVi Try.func62 rfl ?_
 unfold wSBookObject at hw
 simp only [rA,seval,e62,Try.f62]
 rw [for_block l (fun i (_:Unit) =>⟨5,[(0,.val 0 false [.sl .shr 7 (l.map (VO.c .shr))]),(3,.val 1 false [.sl .own 7 ((l.take i).map (VO.c .own))]),(6,.val 2 false [.sl .shr 7 (l.map (VO.c .shr))]),(7,.val 3 false [.p (.int .i64 l.length)]),(8,.val 4 false [.p (.int .i64 i)])]⟩) (fun i _ =>True)
  (fun r i a =>.norm ⟨1,[(3,.val 0 false [.sl .own 7 (l.map (VO.c .own))])]⟩) ?_ ?_ (a :=()) trivial (by simp only [rA,seval,e62,List.take_zero,List.map_nil] <;> rfl)]
 ·simp only [rA,seval,e62,rwO]
 ·intro i x r a hd hi _
  have hlen :=(List.getElem?_eq_some_iff.1 hi).1
  have hlt:((i:Int) < (l.length:Int)) :=by omega
  have hr :=getElem?_map_some (f :=VO.c .shr) hi
  have hi0:(0:Int)≤(i:Int) :=by omega
  have hwi :=wrap64 (n :=(i:Int) + 1) (by omega) (by omega)
  have hxw :=sum_obj_le (List.mem_of_getElem? hi)
  have hxl:x.holds.length≤4194304 :=holds_le (n :=4194304) (by omega)
  have h2 :=k32 x hxl
  have hll :=take_le l i
  have hs :=map_snoc (VO.c .own) hi
  simp only [VO.c] at h2 hr hs
  left
  refine ⟨(),?_,trivial,rfl⟩
  have hL1:(l.take i).length + 1 < 4294967296 :=by omega
  simp only [rA,seval,e62,e32,VO.c,hlt,hr,hi0,hwi,h2,hs,i64c,LIM,hL1,rwO,rwS]
 ·intro a _
  simp only [rA,seval,e62,List.take_length]
theorem k64 (l:List VC) (hw:wSBookChange l≤4194304):EV Try.prog E 64 [.val 0 false [.sl .shr 9 (l.map (VC.c .shr))]] = some ⟨[(false,[.sl .own 9 (l.map (VC.c .own))])],[]⟩ :=by
 refine eVi Try.func64 rfl ?_
 unfold wSBookChange at hw
 simp only [rA,seval,e64,Try.f64]
 rw [for_block l (fun i (_:Unit) =>⟨3,[(0,.val 0 false [.sl .shr 9 (l.map (VC.c .shr))]),(3,.val 1 false [.sl .own 9 ((l.take i).map (VC.c .own))]),(4,.val 2 false [.p (.int .i64 i)])]⟩) (fun i _ =>True)
  (fun r i a =>.norm ⟨1,[(3,.val 0 false [.sl .own 9 (l.map (VC.c .own))])]⟩) ?_ ?_ (a :=()) trivial (by simp only [rA,seval,e64,List.take_zero,List.map_nil] <;> rfl)]
 ·simp only [rA,seval,e64,rwC]
 ·intro i x r a hd hi _
  have hlen :=(List.getElem?_eq_some_iff.1 hi).1
  have hlt:((i:Int) < (l.length:Int)) :=by omega
  have hr :=getElem?_map_some (f :=VC.c .shr) hi
  have hi0:(0:Int)≤(i:Int) :=by omega
  have hwi :=wrap64 (n :=(i:Int) + 1) (by omega) (by omega)
  have hxw :=wSBookChange_mem (List.mem_of_getElem? hi)
  have hxl:x.object.holds.length≤4194304 :=holds_le (n :=4194304) (by unfold VC.w at hxw; omega)
  have h2 :=k53 x.object hxl
  have hll :=take_le l i
  have hs :=map_snoc (VC.c .own) hi
  simp only [VO.c,VC.c] at h2 hr hs
  left
  refine ⟨(),?_,trivial,rfl⟩
  have hL1:(l.take i).length + 1 < 4294967296 :=by omega
  simp only [rA,seval,e64,e53,VO.c,VC.c,hlt,hr,hi0,hwi,h2,hs,i64c,LIM,hL1,rwC,rwO,rwS]
 ·intro a _
  simp only [rA,seval,e64,List.take_length]
theorem k37 (l:List VC) (hw:wSBookChange l≤4194304):EV Try.prog E 37 [.val 0 false [.sl .shr 9 (l.map (VC.c .shr))]] = some ⟨[(false,[.sl .own 9 (l.map (VC.c .own))])],[]⟩ :=by
 refine eVi Try.func37 rfl ?_
 unfold wSBookChange at hw
 simp only [rA,seval,e37,Try.f37]
 rw [for_block l (fun i (_:Unit) =>⟨5,[(0,.val 0 false [.sl .shr 9 (l.map (VC.c .shr))]),(3,.val 1 false [.sl .own 9 ((l.take i).map (VC.c .own))]),(6,.val 2 false [.sl .shr 9 (l.map (VC.c .shr))]),(7,.val 3 false [.p (.int .i64 l.length)]),(8,.val 4 false [.p (.int .i64 i)])]⟩) (fun i _ =>True)
  (fun r i a =>.norm ⟨1,[(3,.val 0 false [.sl .own 9 (l.map (VC.c .own))])]⟩) ?_ ?_ (a :=()) trivial (by simp only [rA,seval,e37,List.take_zero,List.map_nil] <;> rfl)]
 ·simp only [rA,seval,e37,rwC]
 ·intro i x r a hd hi _
  have hlen :=(List.getElem?_eq_some_iff.1 hi).1
  have hlt:((i:Int) < (l.length:Int)) :=by omega
  have hr :=getElem?_map_some (f :=VC.c .shr) hi
  have hi0:(0:Int)≤(i:Int) :=by omega
  have hwi :=wrap64 (n :=(i:Int) + 1) (by omega) (by omega)
  have hxw :=wSBookChange_mem (List.mem_of_getElem? hi)
  have hxl:x.object.holds.length≤4194304 :=holds_le (n :=4194304) (by unfold VC.w at hxw; omega)
  have h2 :=k32 x.object hxl
  have hll :=take_le l i
  have hs :=map_snoc (VC.c .own) hi
  simp only [VO.c,VC.c] at h2 hr hs
  left
  refine ⟨(),?_,trivial,rfl⟩
  have hL1:(l.take i).length + 1 < 4294967296 :=by omega
  simp only [rA,seval,e37,e32,VO.c,VC.c,hlt,hr,hi0,hwi,h2,hs,i64c,LIM,hL1,rwC,rwO,rwS]
 ·intro a _
  simp only [rA,seval,e37,List.take_length]
theorem k38 (b:VBook) (hw:b.w≤4194304):EV Try.prog E 38 [.val 0 true (b.c .shr)] = some ⟨[(true,b.c .own)],[]⟩ :=by
 refine eVi Try.func38 rfl ?_
 have h1 :=k63 b.objects (by unfold VBook.w at hw; omega)
 have h2 :=k64 b.history (by unfold VBook.w at hw; omega)
 have h3:0 + b.tickets.length < 4294967296 :=by unfold VBook.w wSBookTicket at hw; omega
 have h4:b.tickets.length < 4294967296 :=by unfold VBook.w wSBookTicket at hw; omega
 simp only [rA,seval,e38,e63,e64,Try.f38,VBook.c,h1,h2,h3,h4,LIM,rwO,rwC,rwT]
theorem k36 (b:VBook) (hw:b.w≤4194304):EV Try.prog E 36 [.val 0 true (b.c .shr)] = some ⟨[(true,b.c .own)],[]⟩ :=by
 refine eVi Try.func36 rfl ?_
 have h1 :=k62 b.objects (by unfold VBook.w at hw; omega)
 have h2 :=k37 b.history (by unfold VBook.w at hw; omega)
 have h3:0 + b.tickets.length < 4294967296 :=by unfold VBook.w wSBookTicket at hw; omega
 have h4:b.tickets.length < 4294967296 :=by unfold VBook.w wSBookTicket at hw; omega
 simp only [rA,seval,e36,e62,e37,Try.f36,VBook.c,h1,h2,h3,h4,LIM,rwO,rwC,rwT]
def neK (o x:VO):Bool :=!decide (keyO x o = 0)
def geK (o x:VO):Bool :=decide (0≤keyO x o)
def putR (o:VO):Bool→List VO→List VO
 | done,[] =>if done = true then [] else [o]
 | done,x :: r =>(if (!done && geK o x) = true then [o] else []) ++ ((if neK o x = true then [x] else []) ++ putR o (done || geK o x) r)
theorem putR_done (o:VO):∀ l,putR o true l = l.filter (neK o)
 | [] =>rfl
 | x :: r =>by
  rw [putR,Bool.true_or,putR_done o r,List.filter_cons]
  simp only [Bool.not_true,Bool.false_and,Bool.false_eq_true,if_false,List.nil_append]
  split <;> simp
def putI (o:VO) (i:Int):Nat→List VO→List VO
 | _,[] =>[]
 | j,x :: r =>(if (j:Int) = i then [o] else []) ++ ((if neK o x = true then [x] else []) ++ putI o i (j + 1) r)
def endI (o:VO) (i:Int) (n:Nat):List VO :=if i = (n:Int) then [o] else []
theorem putI_late (o:VO) {i:Int}:∀ (l:List VO) (j:Nat),i < j→putI o i j l = putR o true l
 | [],_,_ =>rfl
 | x :: r,j,h =>by
  rw [putI,putR,if_neg (by omega),putI_late o r (j + 1) (by omega)]
  simp
def plc (o:VO) (l:List VO):Int :=if idxF (geK o) l 0 < 0 then (l.length:Int) else idxF (geK o) l 0
theorem idxF_shift (p:VO→Bool):∀ (l:List VO) (k:Nat),idxF p l k = if idxF p l 0 < 0 then -1 else idxF p l 0 + k
 | [],k =>by simp [idxF]
 | x :: r,k =>by
  have h1 :=idxF_shift p r (k + 1)
  have h2 :=idxF_shift p r (0 + 1)
  simp only [idxF]
  by_cases hp:p x = true
  ·simp [hp]
  ·simp only [hp,Bool.false_eq_true,if_false]
   rw [h1,h2]
   have :=(idxF_lt p (l :=r)).2
   by_cases hn:idxF p r 0 < 0
   ·simp [hn]
   ·simp only [hn,if_false]
    rw [if_neg (by omega)]
    omega
theorem ite_len (b:Bool) (x:VO):(if b = true then [x] else []).length≤1 :=by cases b <;> simp
theorem ite_sum (b:Bool) (x:VO):sumWBookObject (if b = true then [x] else [])≤x.w :=by cases b <;> simp [sumWBookObject]
theorem put_eq (o:VO):∀ (l:List VO) (j:Nat),putI o (plc o l + j) j l ++ endI o (plc o l + j) (j + l.length) = putR o false l
 | [],j =>by
  have:plc o [] = 0 :=by unfold plc idxF; simp
  rw [this]
  simp [putI,putR,endI]
 | x :: r,j =>by
  have ih :=put_eq o r (j + 1)
  have hsh :=idxF_shift (geK o) r 1
  have hlt :=idxF_lt (geK o) (l :=r)
  cases hg:geK o x
  ·have hp:plc o (x :: r) = plc o r + 1 :=by
    unfold plc
    rw [show idxF (geK o) (x :: r) 0 = idxF (geK o) r 1 by simp only [idxF,hg]; simp]
    rw [hsh]
    by_cases hn:idxF (geK o) r 0 < 0
    ·simp [hn]
    ·simp only [hn,if_false]
     rw [if_neg (by omega)]
     omega
   have h0:0≤plc o r :=by unfold plc; split <;> omega
   rw [hp,putI,putR,hg,if_neg (by omega)]
   simp only [Bool.and_false,Bool.false_eq_true,if_false,List.nil_append,Bool.or_false,List.append_assoc]
   rw [← ih]
   have e1:plc o r + 1 + (j:Int) = plc o r + ((j + 1:Nat):Int) :=by omega
   have e2:j + (x :: r).length = j + 1 + r.length :=by simp; omega
   rw [e1,e2]
  ·have hp:plc o (x :: r) = 0 :=by
    unfold plc
    rw [show idxF (geK o) (x :: r) 0 = 0 by simp only [idxF,hg]; simp]
    simp
   rw [hp,putI,putR,hg,if_pos (by omega),putI_late o r (j + 1) (by omega)]
   have:endI o (0 + (j:Int)) (j + (x :: r).length) = [] :=by unfold endI; rw [if_neg]; simp; omega
   rw [this]
   simp
theorem putR_eq (o:VO) (l:List VO):putI o (plc o l) 0 l ++ endI o (plc o l) l.length = putR o false l :=by
 have :=put_eq o l 0
 simpa using this
theorem putR_len (o:VO):∀ (d:Bool) (l:List VO),(putR o d l).length≤l.length + 1
 | d,[] =>by cases d <;> simp [putR]
 | true,x :: r =>by rw [putR_done]; have :=List.length_filter_le (neK o) (x :: r); omega
 | false,x :: r =>by
  rw [putR,List.length_append,List.length_append]
  have h1 :=ite_len (neK o x) x
  cases hg:geK o x
  ·have :=putR_len o false r
   simp only [Bool.and_false,Bool.or_false,Bool.false_eq_true,if_false,List.length_nil,List.length_cons]
   omega
  ·rw [Bool.or_true,putR_done]
   have :=List.length_filter_le (neK o) r
   simp only [Bool.and_true,Bool.not_false,if_true,List.length_cons,List.length_nil]
   omega
theorem sumObj_filter (p:VO→Bool):∀ l:List VO,sumWBookObject (l.filter p)≤sumWBookObject l
 | [] =>by simp
 | x :: r =>by
  have :=sumObj_filter p r
  rw [List.filter_cons]
  split <;> simp only [sumWBookObject] <;> omega
theorem sumObj_append:∀ a b:List VO,sumWBookObject (a ++ b) = sumWBookObject a + sumWBookObject b
 | [],b =>by simp [sumWBookObject]
 | x :: a,b =>by simp only [List.cons_append,sumWBookObject,sumObj_append a b]; omega
theorem putR_sum (o:VO):∀ (d:Bool) (l:List VO),sumWBookObject (putR o d l)≤sumWBookObject l + o.w
 | d,[] =>by cases d <;> simp [putR,sumWBookObject]
 | true,x :: r =>by rw [putR_done]; have :=sumObj_filter (neK o) (x :: r); omega
 | false,x :: r =>by
  rw [putR,sumObj_append,sumObj_append]
  have h1 :=ite_sum (neK o x) x
  have e:sumWBookObject (x :: r) = x.w + sumWBookObject r :=rfl
  rw [e]
  cases hg:geK o x
  ·have :=putR_sum o false r
   have e0:sumWBookObject (if (!false && false) = true then [o] else []) = 0 :=rfl
   rw [e0]
   simp only [Bool.or_false]
   omega
  ·rw [Bool.or_true,putR_done]
   have :=sumObj_filter (neK o) r
   have e0:sumWBookObject (if (!false && true) = true then [o] else []) = o.w :=by simp [sumWBookObject]
   rw [e0]
   omega
theorem putR_w (o:VO) (d:Bool) (l:List VO):wSBookObject (putR o d l)≤wSBookObject l + (o.w + 1) :=by
 unfold wSBookObject
 have h1 :=putR_len o d l
 have h2 :=putR_sum o d l
 omega
def jr (q:VO × C):List C :=[.p (.string q.1.kind),.p (.string q.1.name),.p (.int .i64 q.1.version),.p (.int .i64 q.1.born),.p (.string q.1.text),.p (.bool q.1.ending),q.2]
theorem own_jr (x:VO):x.c .own = jr (x,.sl .own 1 (x.holds.map strC)) :=rfl
def InvD (p:VO→Bool) (l:List VO) (j:Nat) (a:List (List C) × Nat):Prop :=∃ kept junk,a.1 = kept.map (VO.c .own) ++ (junk.map jr ++ (l.drop j).map (VO.c .own))∧a.2 = kept.length∧kept.length + junk.length = j∧junk ≠ [] ∧
 (∀ q ∈ junk,q.2.loose = true)∧kept = (l.take j).filter (fun x =>!p x)
def stepD (p:VO→Bool) (j:Nat) (a:List (List C) × Nat) (x:VO):List (List C) × Nat :=if p x = true then (a.1.set j (jr (x,.hole)),a.2) else ((a.1.set j (jr (x,.hole))).set a.2 (x.c .own),a.2 + 1)
def runD (p:VO→Bool):Nat→List (List C) × Nat→List VO→List (List C) × Nat
 | _,a,[] =>a
 | j,a,x :: r =>runD p (j + 1) (stepD p j a x) r
theorem invD_facts {p:VO→Bool} {l:List VO} {j:Nat} {a:List (List C) × Nat} {x:VO} (h:InvD p l j a) (hx:l[j]? = some x) :
  a.1.length = l.length∧a.1[j]? = some (x.c .own)∧a.2 < j∧(∃ q,(a.1.set j (jr (x,.hole)))[a.2]? = some (jr q)∧q.2.loose = true)∧InvD p l (j + 1) (stepD p j a x) :=by
 obtain ⟨kept,junk,h1,h2,h3,h4,h5,h6⟩ :=h
 have hlt :=(List.getElem?_eq_some_iff.1 hx).1
 have hd:l.drop j = x :: l.drop (j + 1) :=by
  rw [List.drop_eq_getElem_cons hlt]
  congr 1
  exact (List.getElem?_eq_some_iff.1 hx).2
 have hjl:0 < junk.length :=List.length_pos_iff.2 h4
 have hset:a.1.set j (jr (x,.hole)) = kept.map (VO.c .own) ++ (junk.map jr ++ jr (x,.hole) :: (l.drop (j + 1)).map (VO.c .own)) :=by
  rw [h1,hd,List.map_cons]
  rw [List.set_append_right _ _ (by simp; omega),List.set_append_right _ _ (by simp; omega)]
  simp only [List.length_map]
  rw [show j - kept.length - junk.length = 0 by omega]
  rfl
 obtain ⟨q,junk',hj⟩:∃ q junk',junk = q :: junk' :=by
  cases junk with
  | nil =>exact absurd rfl h4
  | cons q r =>exact ⟨q,r,rfl⟩
 have htk:(l.take (j + 1)).filter (fun x =>!p x) = if p x = true then kept else kept ++ [x] :=by
  rw [take_snoc hx,List.filter_append,← h6]
  cases hp:p x <;> simp [hp]
 refine ⟨?_,?_,by omega,⟨q,?_,h5 q (by rw [hj]; simp)⟩,?_⟩
 ·rw [h1]
  simp
  omega
 ·rw [h1,hd,List.getElem?_append_right (by simp; omega),List.getElem?_append_right (by simp; omega)]
  simp only [List.length_map]
  rw [show j - kept.length - junk.length = 0 by omega]
  rfl
 ·rw [hset,h2,hj,List.getElem?_append_right (by simp)]
  simp
 ·unfold stepD
  by_cases hp:p x = true
  ·rw [if_pos hp]
   refine ⟨kept,junk ++ [(x,.hole)],?_,h2,by simp; omega,by simp,?_,by rw [htk,if_pos hp]⟩
   ·show a.1.set j (jr (x,.hole)) = _
    rw [hset]
    simp
   ·intro q' hq'
    rcases List.mem_append.1 hq' with hq' | hq'
    ·exact h5 q' hq'
    ·simp at hq'
     rw [hq']
     rfl
  ·rw [if_neg hp]
   refine ⟨kept ++ [x],junk' ++ [(x,.hole)],?_,by simp [h2],by rw [hj] at h3; simp at h3 ⊢; omega,by simp,?_,by rw [htk,if_neg hp]⟩
   ·show (a.1.set j (jr (x,.hole))).set a.2 (x.c .own) = _
    rw [hset,h2,hj,List.set_append_right _ _ (by simp)]
    simp
   ·intro q' hq'
    rcases List.mem_append.1 hq' with hq' | hq'
    ·exact h5 q' (by rw [hj]; exact List.mem_cons_of_mem _ hq')
    ·simp at hq'
     rw [hq']
     rfl
theorem runD_inv {p:VO→Bool} {l:List VO}:∀ (r:List VO) (j:Nat) {a:List (List C) × Nat},l.drop j = r→InvD p l j a→InvD p l (j + r.length) (runD p j a r)
 | [],j,a,_,h =>h
 | x :: r,j,a,hd,h =>by
  have hx:l[j]? = some x :=by
   have :=congrArg (fun t =>t[0]?) hd
   simpa using this
  have h2 :=(invD_facts h hx).2.2.2.2
  have hd':l.drop (j + 1) = r :=by
   rw [← List.drop_drop,hd]
   rfl
  have :=runD_inv r (j + 1) hd' h2
  rw [List.length_cons,show j + (r.length + 1) = j + 1 + r.length by omega]
  exact this
theorem filter_all {p:VO→Bool}:∀ {l:List VO},l.find? p = none→l.filter (fun x =>!p x) = l
 | [],_ =>rfl
 | x :: r,h =>by
  rw [List.find?_cons] at h
  cases hp:p x
  ·rw [hp] at h
   rw [List.filter_cons,hp]
   simp only [Bool.not_false,if_true]
   rw [filter_all (l :=r) h]
  ·rw [hp] at h; cases h
theorem idxF_none {p:VO→Bool} {l:List VO} (h:idxF p l 0 = -1):l.find? p = none :=by
 rcases idxF_find p l 0 with ⟨h1,_⟩ | ⟨i,o,_,_,_,h4⟩
 ·exact h1
 ·rw [h] at h4; omega
theorem take_none {p:VO→Bool}:∀ {l:List VO} {i k:Nat},idxF p l k = ((k + i:Nat):Int)→∃ x,l[i]? = some x∧p x = true∧(l.take i).filter (fun x =>!p x) = l.take i
 | [],i,k,h =>by simp [idxF] at h; omega
 | x :: r,i,k,h =>by
  simp only [idxF] at h
  cases hp:p x
  ·rw [hp] at h
   simp only [Bool.false_eq_true,if_false] at h
   cases i with
   | zero =>
    have :=idxF_ge p r (k + 1)
    omega
   | succ i =>
    obtain ⟨y,h1,h2,h3⟩ :=take_none (l :=r) (i :=i) (k :=k + 1) (by rw [h]; omega)
    exact ⟨y,by simpa using h1,h2,by rw [List.take_succ_cons,List.filter_cons,hp]; simp only [Bool.not_false,if_true]; rw [h3]⟩
  ·rw [hp] at h
   simp only [if_true] at h
   have:i = 0 :=by omega
   subst this
   exact ⟨x,rfl,hp,rfl⟩
where idxF_ge (p:VO→Bool):∀ (l:List VO) (k:Nat),idxF p l k = -1∨(k:Int)≤idxF p l k
 | [],k =>.inl rfl
 | x :: r,k =>by
  simp only [idxF]
  cases p x
  ·simp only [Bool.false_eq_true,if_false]
   rcases idxF_ge p r (k + 1) with h | h
   ·exact .inl h
   ·exact .inr (by omega)
  ·simp
theorem k77 {f:FuncId} {cp:List C} {p:VO→Bool} (l:List VO) (hl:l.length≤4194304) (hm:(E.ann f).modes = [])
  (hp:∀ x,EV Try.prog E f [.val 0 true (VO.c .shr x),.rp cp] = some ⟨[(false,[.p (.bool (p x))])],[]⟩) :
  EV Try.prog E 77 [.val 0 false [.sl .own 7 (l.map (VO.c .own))],.fn f [cp]] = some ⟨[(false,[.sl .own 7 ((l.filter fun x =>!p x).map (VO.c .own))])],[]⟩ :=by
 refine eVi Try.func77 rfl ?_
 have h1 :=k79 l hl hm hp
 by_cases d:idxF p l 0 = -1
 ·rw [d] at h1
  rw [filter_all (idxF_none d)]
  simp only [rA,seval,e77,e79,Try.f77,h1,rwO]
 obtain ⟨i0,hi0⟩:∃ i0:Nat,idxF p l 0 = (i0:Int) :=by
  have :=(idxF_lt p (l :=l)).2
  exact ⟨(idxF p l 0).toNat,by omega⟩
 obtain ⟨y,hy,hpy,htk⟩ :=take_none (l :=l) (i :=i0) (k :=0) (by rw [hi0]; omega)
 have hyl :=(List.getElem?_eq_some_iff.1 hy).1
 rw [hi0] at h1
 have hne:¬ ((i0:Int) = -1) :=by omega
 have hw1 :=wrap64 (n :=(i0:Int) + 1) (by omega) (by omega)
 have hw1':IntKind.i64.wrap ((i0:Int) + 1) = ((i0 + 1 + 0:Nat):Int) :=by rw [hw1]; omega
 have hI0:InvD p l (i0 + 1) (l.map (VO.c .own),i0) :=by
  refine ⟨l.take i0,[(y,.sl .own 1 (y.holds.map strC))],?_,by simp; omega,by simp; omega,by simp,?_,?_⟩
  ·have hd:l.drop i0 = y :: l.drop (i0 + 1) :=by
    rw [List.drop_eq_getElem_cons hyl]
    congr 1
    exact (List.getElem?_eq_some_iff.1 hy).2
   show l.map (VO.c .own) = _
   rw [List.map_cons,← own_jr,List.map_nil,List.singleton_append,← List.map_cons,← hd,← List.map_append,List.take_append_drop]
  ·intro q hq
   simp at hq
   rw [hq]
   rfl
  ·rw [take_snoc hy,List.filter_append,htk]
   simp [hpy]
 simp only [rA,seval,e77,e79,Try.f77,h1,hne,hw1',rwO]
 rw [for_block (l.drop (i0 + 1)) (fun k (a:List (List C) × Nat) =>⟨4,[(0,.val 0 false [.sl .own 7 a.1]),(1,.fn f [cp]),(5,.val 2 false [.p (.int .i64 a.2)]),(6,.val 3 false [.p (.int .i64 ((i0 + 1 + k:Nat):Int))])]⟩) (fun k a =>InvD p l (i0 + 1 + k) a)
  (fun r k a =>.norm ⟨2,[(0,.val 0 false [.sl .own 7 (runD p (i0 + 1 + k) a r).1]),(5,.val 1 false [.p (.int .i64 (runD p (i0 + 1 + k) a r).2)])]⟩) ?_ ?_ (a :=(l.map (VO.c .own),i0)) hI0 (by simp only [rA,seval,e77])]
 ·have hI :=runD_inv (p :=p) (l :=l) (l.drop (i0 + 1)) (i0 + 1) rfl hI0
  rw [Nat.add_zero]
  generalize runD p (i0 + 1) (l.map (VO.c .own),i0) (l.drop (i0 + 1)) = a at hI
  obtain ⟨R,n⟩ :=a
  obtain ⟨kept,junk,e1,e2,e3,e4,e5,e6⟩ :=hI
  have hjl:i0 + 1 + (l.drop (i0 + 1)).length = l.length :=by rw [List.length_drop]; omega
  rw [hjl] at e1 e3 e6
  rw [List.take_length] at e6
  simp only at e1 e2
  rw [List.drop_length,List.map_nil,List.append_nil] at e1
  subst e6
  generalize l.filter (fun x =>!p x) = kept at e1 e2 e3
  subst e2
  have g1:R.length = l.length :=by rw [e1]; simp; omega
  have g2:kept.length≤R.length :=by omega
  have g3:(0:Int)≤(kept.length:Int) :=by omega
  have g4:List.take kept.length R = kept.map (VO.c .own) :=by rw [e1,List.take_left' (by simp)]
  have g5:kept.length + (R.length - kept.length)≤R.length :=by omega
  have g6:List.drop (kept.length + (R.length - kept.length)) R = [] :=List.drop_eq_nil_of_le (by omega)
  have g8:0≤kept.length :=Nat.zero_le _
  have g9:R.length≤R.length :=Nat.le_refl _
  have hz:∀ m:Nat,wholeRows (List.replicate m [C.p (.string ⟨#[]⟩),C.p (.string ⟨#[]⟩),C.p (.int .i64 0),C.p (.int .i64 0),C.p (.string ⟨#[]⟩),C.p (.bool false),C.sl .own 1 []]) = true :=by
   intro m
   induction m with
   | zero =>rfl
   | succ m ih =>rw [List.replicate_succ]; simp only [wholeRows,ih]; rfl
  have hwa:∀ a b:List (List C),wholeRows a = true→wholeRows b = true→wholeRows (a ++ b) = true :=by
   intro a b ha hb
   induction a with
   | nil =>exact hb
   | cons r a ih =>
    simp only [wholeRows,Bool.and_eq_true,List.cons_append] at ha ⊢
    exact ⟨ha.1,ih ha.2⟩
  have g7 :=hwa _ _ (rwO kept).2.2.1 (hz (R.length - kept.length))
  have g10:List.take kept.length (kept.map (VO.c .own) ++ List.replicate (R.length - kept.length) [C.p (.string ⟨#[]⟩),C.p (.string ⟨#[]⟩),C.p (.int .i64 0),C.p (.int .i64 0),C.p (.string ⟨#[]⟩),C.p (.bool false),C.sl .own 1 []]) = kept.map (VO.c .own) :=List.take_left' (by simp)
  have g11:kept.length≤(kept.map (VO.c .own) ++ List.replicate (R.length - kept.length) [C.p (.string ⟨#[]⟩),C.p (.string ⟨#[]⟩),C.p (.int .i64 0),C.p (.int .i64 0),C.p (.string ⟨#[]⟩),C.p (.bool false),C.sl .own 1 []]).length :=by simp
  simp only [rA,seval,e77,rwO,g2,g3,g4,g5,g6,g7,g8,g9,g10,g11,List.append_nil,Nat.sub_zero,Nat.zero_add,List.drop_zero]
 ·intro k x r a hd hk hI
  rw [List.getElem?_drop] at hk
  obtain ⟨R,n⟩ :=a
  obtain ⟨g1,g2,g3,⟨q,g4,g5⟩,g6⟩ :=invD_facts hI hk
  obtain ⟨qo,qs⟩ :=q
  simp only at g1 g2 g3 g4 g5
  have hkl :=(List.getElem?_eq_some_iff.1 hk).1
  have hlt:((i0 + 1 + k:Nat):Int) < ((R.length:Nat):Int) :=by omega
  have hltn:i0 + 1 + k < R.length :=by omega
  have hltm:n < R.length :=by omega
  have hk0:(0:Int)≤((i0 + 1 + k:Nat):Int) :=by omega
  have hn0:(0:Int)≤(n:Int) :=by omega
  have hw2:IntKind.i64.wrap (((i0 + 1 + k:Nat):Int) + 1) = ((i0 + 1 + (k + 1):Nat):Int) :=by rw [wrap64 (by omega) (by omega)]; omega
  have hw3:IntKind.i64.wrap ((n:Int) + 1) = ((n + 1:Nat):Int) :=by rw [wrap64 (by omega) (by omega)]; omega
  have hpx :=hp x
  left
  refine ⟨stepD p (i0 + 1 + k) (R,n) x,?_,g6,rfl⟩
  unfold stepD
  simp only [VO.c,jr] at g2 g4 hpx ⊢
  cases dp:p x
  ·rw [dp] at hpx
   simp only [rA,seval,e77,hlt,hltn,hltm,hk0,hn0,hw2,hw3,g2,g4,g5,hpx,hm,rwS,List.length_set]
  ·rw [dp] at hpx
   simp only [rA,seval,e77,hlt,hltn,hltm,hk0,hn0,hw2,hw3,g2,g4,g5,hpx,hm,rwS,List.length_set]
 ·intro a hI
  obtain ⟨R,n⟩ :=a
  obtain ⟨kept,junk,e1,e2,e3,e4,e5,e6⟩ :=hI
  have hll:i0 + 1 + (l.drop (i0 + 1)).length = l.length :=by rw [List.length_drop]; omega
  have hRl:R.length = l.length :=by
   simp only at e1
   rw [e1]
   simp
   omega
  have hn:¬ (((i0 + 1 + (l.drop (i0 + 1)).length:Nat):Int) < ((R.length:Nat):Int)) :=by omega
  simp only [rA,seval,e77,hn,runD]
theorem key_is (o x:VO):isKey o.kind o.name x = decide (keyO x o = 0) :=by
 have :=key_zero x o
 unfold isKey
 by_cases h1:x.kind = o.kind
 ·by_cases h2:x.name = o.name
  ·rw [decide_eq_true (this.2 ⟨h1,h2⟩)]; simp [h1,h2]
  ·rw [decide_eq_false (fun h =>h2 (this.1 h).2)]; simp [h2]
 ·rw [decide_eq_false (fun h =>h1 (this.1 h).1)]; simp [h1]
theorem k78 (x:VO) (k n:ByteArray):EV Try.prog E 78 [.val 0 true (VO.c .shr x),.rp (keyC k n)] = some ⟨[(false,[.p (.bool (isKey k n x))])],[]⟩ :=by
 refine eVi Try.func78 rfl ?_
 have h :=k44 x
 simp only [VO.c] at h
 unfold isKey
 simp only [rA,seval,e78,e44,Try.f78,VO.c,h]
theorem k50 (l:List VO) (o:VO) (hl:l.length≤4194304):EV Try.prog E 50 [.val 0 false [.sl .own 7 (l.map (VO.c .own))],.val 0 true (keyC o.kind o.name)] = some ⟨[(false,[.sl .own 7 ((putR o true l).map (VO.c .own))])],[]⟩ :=by
 refine eVi Try.func50 rfl ?_
 have h :=k77 (cp :=keyC o.kind o.name) (p :=isKey o.kind o.name) l hl (show (E.ann 78).modes = [] from rfl) (fun x =>k78 x o.kind o.name)
 have e:(fun x =>!isKey o.kind o.name x) = neK o :=by
  funext x
  rw [key_is]
  rfl
 rw [e] at h
 rw [putR_done]
 simp only [rA,seval,e50,e77,Try.f50,h,rwO]
theorem k80 (x o:VO):EV Try.prog E 80 [.val 0 true (VO.c .shr x),.rp (keyC o.kind o.name)] = some ⟨[(false,[.p (.bool (geK o x))])],[]⟩ :=by
 refine eVi Try.func80 rfl ?_
 have h :=k44 x
 have h2 :=k45 x.kind x.name o.kind o.name
 simp only [VO.c] at h
 unfold geK keyO
 simp only [rA,seval,e80,e44,e45,Try.f80,VO.c,h,h2]
def rowsJ (l:List VO) (j:Nat):List (List C) :=(l.take j).map (fun x =>jr (x,.hole)) ++ (l.drop j).map (VO.c .own)
theorem rowsJ_at {l:List VO} {j:Nat} {x:VO} (h:l[j]? = some x):(rowsJ l j)[j]? = some (x.c .own)∧(rowsJ l j).set j (jr (x,.hole)) = rowsJ l (j + 1)∧(rowsJ l j).length = l.length :=by
 have hlt :=(List.getElem?_eq_some_iff.1 h).1
 have hd:l.drop j = x :: l.drop (j + 1) :=by
  rw [List.drop_eq_getElem_cons hlt]
  congr 1
  exact (List.getElem?_eq_some_iff.1 h).2
 have e:((l.take j).map (fun x =>jr (x,C.hole))).length = j :=by simp; omega
 unfold rowsJ
 refine ⟨?_,?_,by simp; omega⟩
 ·rw [List.getElem?_append_right (by omega),e,hd]
  simp
 ·rw [List.set_append_right _ _ (by omega),e,hd,Nat.sub_self,take_snoc h,List.map_append,List.map_cons,List.set_cons_zero]
  simp
theorem rowsJ_len (l:List VO) (j:Nat):(rowsJ l j).length = l.length :=by
 unfold rowsJ
 simp
 omega
theorem rowsJ_zero (l:List VO):rowsJ l 0 = l.map (VO.c .own) :=by simp [rowsJ]
def ocJ (o:VO) (i:Int) (j:Nat):List C :=if i < (j:Int) then jr (o,.hole) else o.c .own
theorem plc_le (o:VO) (l:List VO):0≤plc o l∧plc o l≤l.length :=by
 have :=idxF_lt (geK o) (l :=l)
 unfold plc
 split <;> omega
theorem k51 (l:List VO) (o:VO) (hl:l.length≤4194304):EV Try.prog E 51 [.val 0 false [.sl .own 7 (l.map (VO.c .own))],.val 0 true (o.c .own)] = some ⟨[(false,[.sl .own 7 ((putR o false l).map (VO.c .own))])],[]⟩ :=by
 refine eVi Try.func51 rfl ?_
 have h1 :=k44 o
 have h2 :=k79 (cp :=keyC o.kind o.name) (p :=geK o) l hl (show (E.ann 80).modes = [] from rfl) (fun x =>k80 x o)
 simp only [VO.c] at h1
 obtain ⟨p0,p1⟩ :=plc_le o l
 have hoc0:ocJ o (plc o l) 0 = o.c .own :=by unfold ocJ; rw [if_neg (by omega)]
 by_cases d:idxF (geK o) l 0 < 0
 all_goals
  have hp:plc o l = (if idxF (geK o) l 0 < 0 then (l.length:Int) else idxF (geK o) l 0) :=rfl
  simp only [d,if_true,if_false] at hp
  simp only [rA,seval,e51,e44,e79,Try.f51,VO.c,h1,h2,d,rwO,rwS,List.map_nil,List.length_map]
  rw [for_block l (fun j (A:List VO) =>⟨8,[(0,.val 0 false [.sl .own 7 (rowsJ l j)]),(3,.box 1 1 (ocJ o (plc o l) j)),(5,.fz 2 (keyC o.kind o.name)),(6,.val 3 false [.p (.int .i64 (plc o l))]),(7,.val 4 false [.sl .own 7 (A.map (VO.c .own))]),(19,.lnk 0 0 0 1 false none none),(20,.val 6 false [.p (.int .i64 l.length)]),(21,.val 7 false [.p (.int .i64 j)])]⟩) (fun j A =>A.length≤2 * j)
   (fun r j A =>.norm ⟨4,[(0,.val 0 false [.sl .own 7 (rowsJ l l.length)]),(3,.box 1 1 (ocJ o (plc o l) l.length)),(6,.val 2 false [.p (.int .i64 (plc o l))]),(7,.val 3 false [.sl .own 7 ((A ++ putI o (plc o l) j r).map (VO.c .own))])]⟩) ?_ ?_ (a :=[]) (Nat.zero_le _) (by rw [rowsJ_zero,hoc0,hp]; simp only [rA,seval,e51,VO.c,List.map_nil]; try rfl)]
  ·have hr :=putR_eq o l
   have hrl :=rowsJ_len l l.length
   have hpl:(putI o (plc o l) 0 l).length≤l.length + 1 :=by
    have :=putR_len o false l
    rw [← hr,List.length_append] at this
    omega
   rw [← hr]
   have hL:(putI o (plc o l) 0 l).length + 1 < 4294967296 :=by omega
   by_cases e:plc o l = (l.length:Int)
   ·have hoc:ocJ o (plc o l) l.length = o.c .own :=by unfold ocJ; rw [if_neg (by omega)]
    have he:endI o (plc o l) l.length = [o] :=by unfold endI; rw [if_pos e]
    rw [he,hoc,List.nil_append]
    generalize putI o (plc o l) 0 l = A at *
    simp only [rA,seval,e51,VO.c,hrl,e,hL,LIM,rwO,rwS,List.map_append,List.map_cons,List.map_nil]
   ·have he:endI o (plc o l) l.length = [] :=by unfold endI; rw [if_neg e]
    rw [he,List.append_nil,List.nil_append]
    generalize putI o (plc o l) 0 l = A at *
    simp only [rA,seval,e51,hrl,e,rwO]
  ·intro j x r A hd' hj hA
   have hlen :=(List.getElem?_eq_some_iff.1 hj).1
   have hlt:((j:Int) < (l.length:Int)) :=by omega
   obtain ⟨g1,g2,g3⟩ :=rowsJ_at hj
   have hj0:(0:Int)≤(j:Int) :=by omega
   have hwi :=wrap64 (n :=(j:Int) + 1) (by omega) (by omega)
   have hx1 :=k44 x
   have hjl:j < (rowsJ l j).length :=by omega
   have hL1:A.length + 1 < 4294967296 :=by omega
   have hL2:A.length + 1 + 1 < 4294967296 :=by omega
   have hne:neK o x = !(decide (x.kind = o.kind) && decide (x.name = o.name)) :=by
    have :=key_is o x
    unfold isKey at this
    unfold neK
    rw [this]
   simp only [VO.c,jr] at g1 g2 hx1
   left
   refine ⟨A ++ ((if (j:Int) = plc o l then [o] else []) ++ (if neK o x = true then [x] else [])),?_,?_,?_⟩
   ·by_cases e:(j:Int) = plc o l
    ·have o1:ocJ o (plc o l) j = o.c .own :=by unfold ocJ; rw [if_neg (by omega)]
     have o2:ocJ o (plc o l) (j + 1) = jr (o,.hole) :=by unfold ocJ; rw [if_pos (by omega)]
     rw [o1,o2,if_pos e,hne]
     have e' :=eq_true e
     clear e
     cases n1:decide (x.kind = o.kind) <;> cases n2:decide (x.name = o.name)
     all_goals simp only [rA,seval,e51,e44,VO.c,jr,hlt,g1,g2,g3,hj0,hwi,hx1,hjl,hlen,hL1,hL2,LIM,e',n1,n2,rwO,rwS,List.map_append,List.map_cons,List.map_nil,List.append_nil,List.nil_append,List.append_assoc,List.cons_append,List.length_append,List.length_cons,List.length_nil,List.length_map,i64c]
    ·have o1:ocJ o (plc o l) (j + 1) = ocJ o (plc o l) j :=by
      unfold ocJ
      by_cases e2:plc o l < (j:Int)
      ·rw [if_pos e2,if_pos (by omega)]
      ·rw [if_neg e2,if_neg (by omega)]
     rw [o1,if_neg e,hne]
     generalize ocJ o (plc o l) j = oc
     cases n1:decide (x.kind = o.kind) <;> cases n2:decide (x.name = o.name)
     all_goals simp only [rA,seval,e51,e44,VO.c,jr,hlt,g1,g2,g3,hj0,hwi,hx1,hjl,hlen,hL1,hL2,LIM,e,n1,n2,rwO,rwS,List.map_append,List.map_cons,List.map_nil,List.append_nil,List.nil_append,List.append_assoc,List.cons_append,List.length_append,List.length_cons,List.length_nil,List.length_map,i64c]
   ·rw [List.length_append,List.length_append]
    have q1 :=ite_len (neK o x) x
    have q2:(if (j:Int) = plc o l then [o] else []).length≤1 :=by split <;> simp
    omega
   ·rw [putI]
    simp only [List.append_assoc]
  ·intro A _
   have hn:¬ ((l.length:Int) < (l.length:Int)) :=by omega
   simp only [rA,seval,e51,hn,putI,List.append_nil]
def putM (o:VO):Bool→List VO→List VO
 | _,[] =>[]
 | done,x :: r =>(if (!done && geK o x) = true then [o] else []) ++ ((if neK o x = true then [x] else []) ++ putM o (done || geK o x) r)
def donM (o:VO) (done:Bool) (l:List VO):Bool :=done || l.any (geK o)
theorem putM_eq (o:VO):∀ (l:List VO) (done:Bool),putM o done l ++ (if donM o done l = true then [] else [o]) = putR o done l
 | [],done =>by simp [putM,donM,putR]
 | x :: r,done =>by
  rw [putM,putR,← putM_eq o r (done || geK o x)]
  have:donM o done (x :: r) = donM o (done || geK o x) r :=by simp [donM,Bool.or_assoc]
  rw [this]
  simp
theorem rowsShr (l:List VO):borRows (l.map (VO.c .shr)) = l.map (VO.c .shr)∧wholeRows (l.map (VO.c .shr)) = true∧allFreeRows (l.map (VO.c .shr)) = true :=by
 refine ⟨?_,(rwO l).2.2.2.1,(rwO l).2.2.2.2⟩
 induction l with
 | nil =>rfl
 | cons x r ih =>rw [List.map_cons,borRows,ih]; rfl
theorem k54 (l:List VO) (c:VC) (hl:l.length≤4194304):EV Try.prog E 54 [.val 0 false [.sl .shr 7 (l.map (VO.c .shr))],.val 0 true (c.c .shr)] = some ⟨[(false,[.sl .own 7 ((putR c.object c.gone l).map (VO.c .shr))])],[]⟩ :=by
 refine eVi Try.func54 rfl ?_
 simp only [rA,seval,e54,Try.f54,VC.c,List.map_nil]
 rw [for_block l (fun j (a:List VO × Bool) =>⟨5,[(0,.val 0 false [.sl .shr 7 (l.map (VO.c .shr))]),(3,.box 1 1 (c.c .shr)),(5,.val 2 false [.sl .own 7 (a.1.map (VO.c .shr))]),(6,.val 3 false [.p (.bool a.2)]),(7,.val 4 false [.p (.int .i64 j)])]⟩) (fun j a =>a.1.length≤2 * j)
  (fun r j a =>.norm ⟨3,[(3,.box 0 0 (c.c .shr)),(5,.val 1 false [.sl .own 7 ((a.1 ++ putM c.object a.2 r).map (VO.c .shr))]),(6,.val 2 false [.p (.bool (donM c.object a.2 r))])]⟩) ?_ ?_ (a :=([],c.gone)) (Nat.zero_le _) (by simp only [rA,seval,e54,VC.c,List.map_nil]; try rfl)]
 ·have hr :=putM_eq c.object l c.gone
  have hpl:(putM c.object c.gone l).length≤l.length + 1 :=by
   have :=putR_len c.object c.gone l
   rw [← hr,List.length_append] at this
   omega
  have hL:(putM c.object c.gone l).length + 1 < 4294967296 :=by omega
  rw [← hr,List.nil_append]
  generalize putM c.object c.gone l = A at *
  cases e:donM c.object c.gone l
  ·simp only [rA,seval,e54,VC.c,e,hL,LIM,rowsShr,VO.c,List.map_append,List.map_cons,List.map_nil,List.length_map]
  ·simp only [rA,seval,e54,e,rowsShr,List.append_nil]
 ·intro j x r a hd' hj hA
  obtain ⟨A,dn⟩ :=a
  simp only at hA
  have hlen :=(List.getElem?_eq_some_iff.1 hj).1
  have hlt:((j:Int) < (l.length:Int)) :=by omega
  have hr :=getElem?_map_some (f :=VO.c .shr) hj
  have hj0:(0:Int)≤(j:Int) :=by omega
  have hwi :=wrap64 (n :=(j:Int) + 1) (by omega) (by omega)
  have hk :=k66 x c.object
  have hL1:A.length + 1 < 4294967296 :=by omega
  have hL2:A.length + 1 + 1 < 4294967296 :=by omega
  have hge:geK c.object x = decide (0≤keyO x c.object) :=rfl
  have hne:neK c.object x = !decide (keyO x c.object = 0) :=rfl
  simp only [VO.c] at hr hk
  left
  refine ⟨(A ++ ((if (!dn && geK c.object x) = true then [c.object] else []) ++ (if neK c.object x = true then [x] else [])),dn || geK c.object x),?_,?_,?_⟩
  ·rw [hge,hne]
   generalize keyO x c.object = kx at *
   cases d0:dn <;> cases d1:decide (0≤kx) <;> cases d2:decide (kx = 0)
   all_goals simp only [rA,seval,e54,e66,VC.c,VO.c,hlt,hr,hj0,hwi,hk,hL1,hL2,LIM,d0,d1,d2,rowsShr,List.map_append,List.map_cons,List.map_nil,List.append_nil,List.nil_append,List.append_assoc,List.cons_append,List.length_append,List.length_cons,List.length_nil,List.length_map,i64c]
  ·show (A ++ _).length≤_
   rw [List.length_append,List.length_append]
   have q1 :=ite_len (neK c.object x) x
   have q2 :=ite_len (!dn && geK c.object x) c.object
   omega
  ·show O.norm _ = O.norm _
   rw [putM]
   have:donM c.object dn (x :: r) = donM c.object (dn || geK c.object x) r :=by simp [donM,Bool.or_assoc]
   simp only [List.append_assoc,this]
 ·intro a _
  obtain ⟨A,dn⟩ :=a
  have hn:¬ ((l.length:Int) < (l.length:Int)) :=by omega
  simp only [rA,seval,e54,hn,putM,donM,List.append_nil,List.any_nil,Bool.or_false]
def chO (f4 f5:List ByteArray→ByteArray→List ByteArray) (w:VW) (v:Int) (o:VO):VO :=
 if w.op = 1 then ⟨w.kind,w.name,v,v,w.text,false,if w.hold = ⟨#[]⟩ then [] else [w.hold]⟩
 else if w.op = 2 then ⟨o.kind,o.name,v,o.born,w.text,o.ending,o.holds⟩
 else if w.op = 3 then ⟨o.kind,o.name,v,o.born,o.text,true,o.holds⟩
 else if w.op = 4 then ⟨o.kind,o.name,v,o.born,o.text,o.ending,f4 o.holds w.hold⟩
 else ⟨o.kind,o.name,v,o.born,o.text,o.ending,f5 o.holds w.hold⟩
def chC (b:VBook) (w:VW) (o:VO) (there:Bool):Int :=
 if there = decide (w.op = 1) then 3
 else if w.seen ≠ 0∧w.seen ≠ o.version then 4
 else if o.ending = true∧w.op ≠ 5 then 5
 else if w.op = 1∧100≤b.objects.length then 7
 else if w.op = 4∧hasF w.hold o.holds = true then 6
 else if w.op = 4∧5≤o.holds.length then 7
 else if w.op = 5∧hasF w.hold o.holds = false then 6
 else if 1000000≤b.now then 8
 else 0
def goneO (o:VO):Bool :=o.ending && decide (o.holds.length = 0)
def bookC (b:VBook) (c:VC):VBook :=
 ⟨c.version,if b.history.length < 200 then b.floor else ((b.history ++ [c]).head?.map (·.version)).getD 0,putR c.object c.gone b.objects,if b.history.length < 200 then b.history ++ [c] else (b.history ++ [c]).drop 1,b.tickets⟩
def chG (f4 f5:List ByteArray→ByteArray→List ByteArray) (w:VW) (v:Int) (o:VO):VC :=⟨v,goneO (chO f4 f5 w v o),chO f4 f5 w v o⟩
def bookI (b:VBook) (w:VW) (o:VO) (t:Bool):VBook :=if chC b w o t = 0 then bookC b (chG insI delI w (b.now + 1) o) else b
def verI (b:VBook) (w:VW) (o:VO) (t:Bool):Int :=if chC b w o t = 4 then o.version else if chC b w o t = 0 then b.now + 1 else 0

theorem z3:Int.toNat 1 = 1 :=rfl
theorem pos3 (n:Nat):1 + n≤n + 1 :=by omega
theorem pos2 (n:Nat):1≤n + 1 :=by omega
theorem z2:Int.toNat 0 = 0 :=rfl
theorem c0n:((0:Nat):Int) = 0 :=rfl
theorem pos1 (n:Nat):0 < n + 1 :=by omega
theorem len1 (l:List (List C)) (x:List C):(((l ++ [x]).length:Nat):Int) = (l.length:Int) + 1 :=by simp
theorem len2 (l:List (List C)) (x:List C):(((l ++ [x]).length + 1:Nat):Int) = (l.length:Int) + 1 + 1 :=by simp
theorem bb:(false == false) = true∧(true == true) = true∧(true == false) = false∧(false == true) = false :=⟨rfl,rfl,rfl,rfl⟩
theorem uf:type_of% (And.intro VBook.c.eq_1 (And.intro VW.c.eq_1 (And.intro VO.c.eq_1 (And.intro VC.c.eq_1 (And.intro nilObj.eq_1 (And.intro bb (And.intro @List.length_map.{0,0} (And.intro @List.map_cons.{0,0} (And.intro @List.map_nil.{0,0} (And.intro @List.length_nil.{0} (And.intro strC.eq_1 (And.intro rwS (And.intro rwO (And.intro rwC rwT)))))))))))))) :=And.intro VBook.c.eq_1 (And.intro VW.c.eq_1 (And.intro VO.c.eq_1 (And.intro VC.c.eq_1 (And.intro nilObj.eq_1 (And.intro bb (And.intro @List.length_map.{0,0} (And.intro @List.map_cons.{0,0} (And.intro @List.map_nil.{0,0} (And.intro @List.length_nil.{0} (And.intro strC.eq_1 (And.intro rwS (And.intro rwO (And.intro rwC rwT)))))))))))))
def bookS (b:VBook) (w:VW) (o:VO) (t:Bool):VBook :=if chC b w o t = 0 then bookC b (chG insS delS w (b.now + 1) o) else b
abbrev fO (b:VBook) (w:VW):VO :=(bfind b.objects w.kind w.name).1
abbrev fT (b:VBook) (w:VW):Bool :=(bfind b.objects w.kind w.name).2
theorem wrB_op {w:VW} (h:wrB w = true):1≤w.op∧w.op≤5 :=by
 simp only [wrB,inR,Bool.and_eq_true,decide_eq_true_eq] at h
 omega
theorem prim_by:∀ l:List Int,allPrim ((l.map byC).flatten) = some (l.map (Value.int .u8))
 | [] =>rfl
 | x :: r =>by
  have :=prim_by r
  simp only [List.map_cons,List.flatten_cons,byC,List.cons_append,List.nil_append,allPrim,this,asP,bnd]
theorem bytes_by:∀ l:List Int,bytesOf (l.map (Value.int .u8)) = some (l.map fun n =>UInt8.ofNat n.toNat)
 | [] =>rfl
 | x :: r =>by
  have :=bytes_by r
  simp only [List.map_cons,bytesOf,this,bnd]
  rfl
theorem wrapU8 {n:Int} (h0:0≤n) (h1:n≤255):IntKind.u8.wrap n = n :=by
 rw [IntKind.wrap_u8]
 omega
theorem sz_dat8 (s:ByteArray):s.data.toList.length = s.size :=Array.length_toList
def dL:ByteArray :=⟨#[48,49,50,51,52,53,54,55,56,57,97,98,99,100,101,102]⟩
theorem dL_at {k:Nat} (h:k < 16):∃ x,dL.data.toList[k]? = some x :=⟨_,List.getElem?_eq_getElem (by simpa [dL] using h)⟩
theorem k96 (s:ByteArray) (hs:s.size≤2000):∃ u:ByteArray,u.size≤3 * s.size + 2∧EV Try.prog E 96 [.val 0 false [.p (.string s)]] = some ⟨[(false,[.p (.string u)])],[]⟩ :=by
 have key:∃ r,EV Try.prog E 96 [.val 0 false [.p (.string s)]] = some r∧∃ u:ByteArray,u.size≤3 * s.size + 2∧r = ⟨[(false,[.p (.string u)])],[]⟩ :=by
  refine EV_introX Try.func96 rfl ?_
  simp only [rA,seval,e96,Try.f96]
  generalize hX:blockO _ _ (itω _ _ _) = X
  have hw:∃ o,X = some o∧∃ l:List Int,l.length≤3 * s.size + 1∧o = .norm ⟨1,[(3,.val 0 false [.sl .own 1 (l.map byC)])]⟩ :=by
   refine while_ex hX (fun (q:Nat × List Int) =>⟨4,[(0,.val 0 false [.p (.string s)]),(3,.val 1 false [.sl .own 1 (q.2.map byC)]),(4,.val 2 false [.p (.string dL)]),(5,.val 3 false [.p (.int .i64 q.1)])]⟩)
    (fun q =>q.1≤s.size∧q.2.length≤3 * q.1 + 1) (fun o =>∃ l:List Int,l.length≤3 * s.size + 1∧o = .norm ⟨1,[(3,.val 0 false [.sl .own 1 (l.map byC)])]⟩) (fun q =>s.size - q.1) ?_ (i :=(0,[34])) ⟨by omega,by simp⟩ (by simp only [rA,seval,e96,byC,dL] <;> rfl)
   rintro ⟨i,l⟩ ⟨h1,h2⟩
   simp only at h1 h2
   by_cases hlt:(i:Int) < (s.size:Int)
   ·left
    have hwi :=wrap64 (n :=(i:Int) + 1) (by omega) (by omega)
    have hi0:(0:Int)≤(i:Int) :=by omega
    obtain ⟨x,hi⟩:∃ x,s.data.toList[i]? = some x :=⟨_,List.getElem?_eq_getElem (by rw [sz_dat8]; omega)⟩
    have hl1:l.length + 1 < 4294967296 :=by omega
    have hl3:l.length + 3 < 4294967296 :=by omega
    by_cases q:(32≤(x.toNat:Int)∧(x.toNat:Int)≤126)∧¬ (x.toNat:Int) = 34∧¬ (x.toNat:Int) = 92
    ·obtain ⟨⟨q1,q2⟩,q3,q4⟩ :=q
     refine ⟨(i + 1,l ++ [(x.toNat:Int)]),?_,⟨by simp only; omega,by simp only [List.length_append,List.length_cons,List.length_nil]; omega⟩,by simp only; omega⟩
     simp only [rA,seval,e96,hlt,hwi,hi0,hi,hl1,q1,q2,q3,q4,i64c,rowsBy,List.length_map,List.map_append,List.map_cons,List.map_nil,byC,LIM]
    ·have hx :=x.toNat_lt
     obtain ⟨y,hy⟩ :=dL_at (k :=x.toNat / 16) (by omega)
     obtain ⟨z,hz⟩ :=dL_at (k :=x.toNat % 16) (by omega)
     have t1:(x.toNat:Int).tdiv 16 = ((x.toNat / 16:Nat):Int) :=rfl
     have t2:(x.toNat:Int).tmod 16 = ((x.toNat % 16:Nat):Int) :=rfl
     have t3:IntKind.u8.wrap ((x.toNat / 16:Nat):Int) = ((x.toNat / 16:Nat):Int) :=wrapU8 (by omega) (by omega)
     have y0:(0:Int)≤((x.toNat / 16:Nat):Int) :=by omega
     have z0:(0:Int)≤((x.toNat % 16:Nat):Int) :=by omega
     have y1:((x.toNat / 16:Nat):Int) < 16 :=by omega
     have z1:((x.toNat % 16:Nat):Int) < 16 :=by omega
     have dsz:dL.size = 16 :=rfl
     refine ⟨(i + 1,l ++ [92,(y.toNat:Int),(z.toNat:Int)]),?_,⟨by simp only; omega,by simp only [List.length_append,List.length_cons,List.length_nil]; omega⟩,by simp only; omega⟩
     rcases (show ¬ 32≤(x.toNat:Int)∨(32≤(x.toNat:Int)∧¬ (x.toNat:Int)≤126)∨(32≤(x.toNat:Int)∧(x.toNat:Int)≤126∧(x.toNat:Int) = 34)∨(32≤(x.toNat:Int)∧(x.toNat:Int)≤126∧¬ (x.toNat:Int) = 34∧(x.toNat:Int) = 92) by omega) with q1 | ⟨q1,q2⟩ | ⟨q1,q2,q3⟩ | ⟨q1,q2,q3,q4⟩
     ·simp only [rA,seval,e96,hlt,hwi,hi0,hi,hl3,q1,t1,t2,t3,y0,y1,z0,z1,hy,hz,dsz,i64c,rowsBy,List.length_map,List.map_append,List.map_cons,List.map_nil,byC,LIM]
     ·simp only [rA,seval,e96,hlt,hwi,hi0,hi,hl3,q1,q2,t1,t2,t3,y0,y1,z0,z1,hy,hz,dsz,i64c,rowsBy,List.length_map,List.map_append,List.map_cons,List.map_nil,byC,LIM]
     ·have q5 :=eq_true q3
      simp only [rA,seval,e96,hlt,hwi,hi0,hi,hl3,q1,q2,q5,t1,t2,t3,y0,y1,z0,z1,hy,hz,dsz,i64c,rowsBy,List.length_map,List.map_append,List.map_cons,List.map_nil,byC,LIM]
     ·have q5 :=eq_true q4
      simp only [rA,seval,e96,hlt,hwi,hi0,hi,hl3,q1,q2,q3,q5,t1,t2,t3,y0,y1,z0,z1,hy,hz,dsz,i64c,rowsBy,List.length_map,List.map_append,List.map_cons,List.map_nil,byC,LIM]
   ·right
    have h0:i = s.size :=by omega
    subst h0
    exact ⟨_,by simp only [rA,seval,e96,hlt],l,by omega,rfl⟩
  obtain ⟨o,ho,l,hl,rfl⟩ :=hw
  rw [ho]
  have hl1:l.length + 1 < 4294967296 :=by omega
  have hf :=prim_by (l ++ [34])
  have hg :=bytes_by (l ++ [34])
  simp only [List.map_append,List.map_cons,List.map_nil,byC] at hf hg
  simp only [rA,seval,e96,hl1,hf,hg,rowsBy,List.length_map,byC,LIM]
  exact ⟨_,rfl,_,by
   simp only [ByteArray.size,List.size_toArray,List.length_append,List.length_map,List.length_cons,List.length_nil]
   have e:s.data.size = s.size :=rfl
   omega,rfl⟩
 obtain ⟨r,h1,u,h2,rfl⟩ :=key
 exact ⟨u,h2,h1⟩
def okN (n:Int):Prop :=0≤n∧n≤1000000000
def okWant (w:VN):Prop :=w.kind.size≤2000∧w.name.size≤2000∧okN w.version
def okWrite (w:VW):Prop :=okN w.op∧w.kind.size≤2000∧w.name.size≤2000∧okN w.seen∧w.text.size≤2000∧w.hold.size≤2000
theorem dec_n {n:Int} (h:okN n):∃ u:ByteArray,u.size≤10∧EV Try.prog E 95 [.val 0 false [.p (.int .i64 n)]] = some ⟨[(false,[.p (.string u)])],[]⟩ :=by
 obtain ⟨h0,h1⟩ :=h
 obtain ⟨u,hu,he⟩ :=k95 9 n.toNat (by omega) (by omega) (by omega)
 rw [show ((n.toNat:Nat):Int) = n by omega] at he
 exact ⟨u,hu,he⟩
theorem cat_lt {a b:ByteArray} {m n:Nat} (h1:a.size≤m) (h2:b.size≤n) (h:m + n < 9223372036854775807):a.size + b.size < 9223372036854775807∧(a ++ b).size≤m + n :=by
 rw [ByteArray.size_append]; omega
theorem k91 (x:VU) (h1:x.wants.length≤100) (h2:x.writes.length≤100) (hW:∀ w ∈ x.wants,okWant w) (hR:∀ w ∈ x.writes,okWrite w) :
  ∃ u:ByteArray,u.size = 8∧EV Try.prog E 91 [.val 0 true (VU.c .shr x)] = some ⟨[(false,[.p (.string u)])],[]⟩ :=by
 have key:∃ r,EV Try.prog E 91 [.val 0 true (VU.c .shr x)] = some r∧∃ u:ByteArray,u.size = 8∧r = ⟨[(false,[.p (.string u)])],[]⟩ :=by
  refine EV_introX Try.func91 rfl ?_
  simp only [rA,seval,e91,Try.f91,VU.c]
  generalize hX:blockO _ _ (itω _ _ _) = X
  have hw:∃ o,X = some o∧∃ s:ByteArray,s.size≤2000000∧o = .norm ⟨2,[(1,.box 0 0 (VU.c .shr x)),(3,.val 1 false [.p (.string s)])]⟩ :=by
   refine while_ex hX (fun (q:Nat × ByteArray) =>⟨3,[(1,.box 0 0 (VU.c .shr x)),(3,.val 1 false [.p (.string q.2)]),(4,.val 2 false [.p (.int .i64 q.1)])]⟩)
    (fun q =>q.1≤x.wants.length∧q.2.size≤20000 * q.1) (fun o =>∃ s:ByteArray,s.size≤2000000∧o = .norm ⟨2,[(1,.box 0 0 (VU.c .shr x)),(3,.val 1 false [.p (.string s)])]⟩) (fun q =>x.wants.length - q.1) ?_ (i :=(0,⟨#[]⟩)) ⟨by omega,by decide⟩ (by simp only [rA,seval,e91,VU.c] <;> rfl)
   rintro ⟨i,s⟩ ⟨g1,g2⟩
   simp only at g1 g2
   by_cases hlt:(i:Int) < (x.wants.length:Int)
   ·left
    have hwi :=wrap64 (n :=(i:Int) + 1) (by omega) (by omega)
    have hi0:(0:Int)≤(i:Int) :=by omega
    obtain ⟨y,hi⟩:∃ y,x.wants[i]? = some y :=⟨_,List.getElem?_eq_getElem (by omega)⟩
    have hr :=getElem?_map_some (f :=VN.c) hi
    simp only [VN.c] at hr
    obtain ⟨y1,y2,y3⟩ :=hW y (List.mem_of_getElem? hi)
    obtain ⟨u,hu,he⟩ :=dec_n y3
    have c0:s.size≤20000 * i :=by omega
    obtain ⟨f1,c1⟩ :=cat_lt (b :=⟨#[119,97,110,116,32]⟩) (n :=5) c0 (by decide) (by omega)
    obtain ⟨f2,c2⟩ :=cat_lt (b :=y.kind) (n :=2000) c1 y1 (by omega)
    obtain ⟨f3,c3⟩ :=cat_lt (b :=⟨#[32]⟩) (n :=1) c2 (by decide) (by omega)
    obtain ⟨f4,c4⟩ :=cat_lt (b :=y.name) (n :=2000) c3 y2 (by omega)
    obtain ⟨f5,c5⟩ :=cat_lt (b :=⟨#[32]⟩) (n :=1) c4 (by decide) (by omega)
    obtain ⟨f6,c6⟩ :=cat_lt (b :=u) (n :=10) c5 hu (by omega)
    obtain ⟨f7,c7⟩ :=cat_lt (b :=⟨#[10]⟩) (n :=1) c6 (by decide) (by omega)
    refine ⟨(i + 1,(((((((s ++ ⟨#[119,97,110,116,32]⟩) ++ y.kind) ++ ⟨#[32]⟩) ++ y.name) ++ ⟨#[32]⟩) ++ u) ++ ⟨#[10]⟩)),?_,⟨by simp only; omega,by simp only; omega⟩,by simp only; omega⟩
    simp only [rA,seval,e91,e95,VU.c,hlt,hwi,hi0,hr,he,f1,f2,f3,f4,f5,f6,f7,i64c,List.length_map]
   ·right
    exact ⟨_,by simp only [rA,seval,e91,VU.c,hlt,List.length_map],s,by omega,rfl⟩
  obtain ⟨o,ho,s0,hs0,rfl⟩ :=hw
  rw [ho]
  simp only [rA,seval,e91,VU.c]
  clear ho hX X
  generalize hX:blockO _ _ (itω _ _ _) = X
  have hw:∃ o,X = some o∧∃ s:ByteArray,s.size≤4000000∧o = .norm ⟨1,[(3,.val 0 false [.p (.string s)])]⟩ :=by
   refine while_ex hX (fun (q:Nat × ByteArray) =>⟨3,[(1,.box 0 0 (VU.c .shr x)),(3,.val 1 false [.p (.string q.2)]),(6,.val 2 false [.p (.int .i64 q.1)])]⟩)
    (fun q =>q.1≤x.writes.length∧q.2.size≤2000000 + 20000 * q.1) (fun o =>∃ s:ByteArray,s.size≤4000000∧o = .norm ⟨1,[(3,.val 0 false [.p (.string s)])]⟩) (fun q =>x.writes.length - q.1) ?_ (i :=(0,s0)) ⟨by omega,by simp only; omega⟩ (by simp only [rA,seval,e91,VU.c] <;> rfl)
   rintro ⟨i,s⟩ ⟨g1,g2⟩
   simp only at g1 g2
   by_cases hlt:(i:Int) < (x.writes.length:Int)
   ·left
    have hwi :=wrap64 (n :=(i:Int) + 1) (by omega) (by omega)
    have hi0:(0:Int)≤(i:Int) :=by omega
    obtain ⟨y,hi⟩:∃ y,x.writes[i]? = some y :=⟨_,List.getElem?_eq_getElem (by omega)⟩
    have hr :=getElem?_map_some (f :=VW.c) hi
    simp only [VW.c] at hr
    obtain ⟨y1,y2,y3,y4,y5,y6⟩ :=hR y (List.mem_of_getElem? hi)
    obtain ⟨u,hu,he⟩ :=dec_n y1
    obtain ⟨v,hv,he2⟩ :=dec_n y4
    obtain ⟨t,ht,he3⟩ :=k96 y.text y5
    have ht2:t.size≤6010 :=by omega
    have c0:s.size≤2000000 + 20000 * i :=by omega
    obtain ⟨f1,c1⟩ :=cat_lt (b :=⟨#[119,114,105,116,101,32]⟩) (n :=6) c0 (by decide) (by omega)
    obtain ⟨f2,c2⟩ :=cat_lt (b :=u) (n :=10) c1 hu (by omega)
    obtain ⟨f3,c3⟩ :=cat_lt (b :=⟨#[32]⟩) (n :=1) c2 (by decide) (by omega)
    obtain ⟨f4,c4⟩ :=cat_lt (b :=y.kind) (n :=2000) c3 y2 (by omega)
    obtain ⟨f5,c5⟩ :=cat_lt (b :=⟨#[32]⟩) (n :=1) c4 (by decide) (by omega)
    obtain ⟨f6,c6⟩ :=cat_lt (b :=y.name) (n :=2000) c5 y3 (by omega)
    obtain ⟨f7,c7⟩ :=cat_lt (b :=⟨#[32]⟩) (n :=1) c6 (by decide) (by omega)
    obtain ⟨f8,c8⟩ :=cat_lt (b :=v) (n :=10) c7 hv (by omega)
    obtain ⟨f9,c9⟩ :=cat_lt (b :=⟨#[32]⟩) (n :=1) c8 (by decide) (by omega)
    obtain ⟨f10,c10⟩ :=cat_lt (b :=t) (n :=6010) c9 ht2 (by omega)
    obtain ⟨f11,c11⟩ :=cat_lt (b :=⟨#[32]⟩) (n :=1) c10 (by decide) (by omega)
    obtain ⟨f12,c12⟩ :=cat_lt (b :=y.hold) (n :=2000) c11 y6 (by omega)
    obtain ⟨f13,c13⟩ :=cat_lt (b :=⟨#[10]⟩) (n :=1) c12 (by decide) (by omega)
    refine ⟨(i + 1,(((((((((((((s ++ ⟨#[119,114,105,116,101,32]⟩) ++ u) ++ ⟨#[32]⟩) ++ y.kind) ++ ⟨#[32]⟩) ++ y.name) ++ ⟨#[32]⟩) ++ v) ++ ⟨#[32]⟩) ++ t) ++ ⟨#[32]⟩) ++ y.hold) ++ ⟨#[10]⟩)),?_,⟨by simp only; omega,by simp only; omega⟩,by simp only; omega⟩
    simp only [rA,seval,e91,e95,e96,VU.c,hlt,hwi,hi0,hr,he,he2,he3,f1,f2,f3,f4,f5,f6,f7,f8,f9,f10,f11,f12,f13,i64c,List.length_map]
   ·right
    exact ⟨_,by simp only [rA,seval,e91,VU.c,hlt,List.length_map],s,by omega,rfl⟩
  obtain ⟨o,ho,s1,hs1,rfl⟩ :=hw
  rw [ho]
  simp only [rA,seval,e91]
  clear ho hX X
  generalize hX:blockO _ _ (itω _ _ _) = X
  have hw:∃ o,X = some o∧∃ v:Int,o = .norm ⟨1,[(8,.val 0 false [.p (.int .u64 v)])]⟩ :=by
   refine while_ex hX (fun (q:Nat × Int) =>⟨3,[(3,.val 0 false [.p (.string s1)]),(8,.val 1 false [.p (.int .u64 q.2)]),(9,.val 2 false [.p (.int .i64 q.1)])]⟩)
    (fun q =>q.1≤s1.size) (fun o =>∃ v:Int,o = .norm ⟨1,[(8,.val 0 false [.p (.int .u64 v)])]⟩) (fun q =>s1.size - q.1) ?_ (i :=(0,14695981039346656037)) (by simp only; omega) (by simp only [rA,seval,e91] <;> rfl)
   rintro ⟨i,v⟩ g1
   simp only at g1
   by_cases hlt:(i:Int) < (s1.size:Int)
   ·left
    have hwi :=wrap64 (n :=(i:Int) + 1) (by omega) (by omega)
    have hi0:(0:Int)≤(i:Int) :=by omega
    obtain ⟨y,hi⟩:∃ y,s1.data.toList[i]? = some y :=⟨_,List.getElem?_eq_getElem (by rw [sz_dat8]; omega)⟩
    refine ⟨(i + 1,IntKind.u64.wrap (xorV .u64 v (IntKind.u64.wrap (y.toNat:Int)) * 1099511628211)),?_,by simp only; omega,by simp only; omega⟩
    simp only [rA,seval,e91,hlt,hwi,hi0,hi,i64c]
   ·right
    exact ⟨_,by simp only [rA,seval,e91,hlt],v,rfl⟩
  obtain ⟨o,ho,v,rfl⟩ :=hw
  rw [ho]
  simp only [rA,seval,e91]
  clear ho hX X
  generalize hX:blockO _ _ (itω _ _ _) = X
  have hw:∃ o,X = some o∧∃ l:List Int,l.length = 8∧o = .norm ⟨1,[(10,.val 0 false [.sl .own 1 (l.map byC)])]⟩ :=by
   refine while_ex hX (fun (q:Nat × List Int) =>⟨3,[(8,.val 0 false [.p (.int .u64 v)]),(10,.val 1 false [.sl .own 1 (q.2.map byC)]),(11,.val 2 false [.p (.int .i64 ((q.1:Int) - 1))])]⟩)
    (fun q =>q.1 + q.2.length = 8) (fun o =>∃ l:List Int,l.length = 8∧o = .norm ⟨1,[(10,.val 0 false [.sl .own 1 (l.map byC)])]⟩) (fun q =>q.1) ?_ (i :=(8,[])) (by simp) (by simp only [rA,seval,e91] <;> rfl)
   rintro ⟨m,l⟩ g1
   simp only at g1
   by_cases hm:0≤(m:Int) - 1
   ·left
    have hl1:l.length + 1 < 4294967296 :=by omega
    have w1 :=wrap64 (n :=8 * ((m:Int) - 1)) (by omega) (by omega)
    have w2:IntKind.u64.wrap (8 * ((m:Int) - 1)) = 8 * ((m:Int) - 1) :=by rw [IntKind.wrap_u64]; omega
    have w3:¬ (8 * ((m:Int) - 1) < 0) :=by omega
    have w4 :=wrap64 (n :=(m:Int) - 1 - 1) (by omega) (by omega)
    have w5:((m - 1:Nat):Int) - 1 = (m:Int) - 1 - 1 :=by omega
    refine ⟨(m - 1,l ++ [IntKind.u8.wrap (v.fdiv (2 ^ (min (8 * ((m:Int) - 1)).toNat IntKind.u64.bits)))]),?_,by simp only [List.length_append,List.length_cons,List.length_nil]; omega,by simp only; omega⟩
    simp only [rA,seval,e91,hm,hl1,w1,w2,w3,w4,w5,rowsBy,List.length_map,List.map_append,List.map_cons,List.map_nil,byC,LIM]
   ·right
    exact ⟨_,by simp only [rA,seval,e91,hm],l,by omega,rfl⟩
  obtain ⟨o,ho,l,hl,rfl⟩ :=hw
  rw [ho]
  have hf :=prim_by l
  have hg :=bytes_by l
  simp only [rA,seval,e91,hf,hg,rowsBy]
  exact ⟨_,rfl,_,by
   simp only [ByteArray.size,List.size_toArray,List.length_map]
   omega,rfl⟩
 obtain ⟨r,e1,u,e2,rfl⟩ :=key
 exact ⟨u,e2,e1⟩
end Go.Proofs.Ytgekblcbdhjmfaa
