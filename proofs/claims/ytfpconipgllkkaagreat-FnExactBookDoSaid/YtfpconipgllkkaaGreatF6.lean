/- Writes and what they did: views,conversions,marks (written by a program). -/
import Derived.Test.YtfpconipgllkkaaGreatM3
namespace Go.Proofs.YtfpconipgllkkaaGreat
open Go.Sx
open Nat renaming reduceEqDiff → N1,reduceAdd → N2,reduceSub → N3,reduceMul → N4,reduceLeDiff → N5,reduceBEq → N6,reduceLT → N7
open Int renaming reduceLT → I1,reduceNeg → I2,reduceLE → I3,reduceEq → I4
open List renaming reduceReplicate → L1
set_option maxRecDepth 100000
set_option maxHeartbeats 4000000
set_option linter.unusedVariables false
set_option linter.unusedSimpArgs false
structure VW where
  op : Int
  kind : ByteArray
  name : ByteArray
  seen : Int
  text : ByteArray
  hold : ByteArray
def VW.c (x : VW) : List C :=[.p (.int .i64 x.op),.p (.string x.kind),.p (.string x.name),.p (.int .i64 x.seen),.p (.string x.text),.p (.string x.hold)]
def VW.w (x : VW) : Nat :=x.kind.size + x.name.size + x.text.size + x.hold.size
def VW.ok (x : VW) : Prop :=i64ok x.op ∧ x.kind.size ≤ maxLen ∧ x.name.size ≤ maxLen ∧ i64ok x.seen ∧ x.text.size ≤ maxLen ∧ x.hold.size ≤ maxLen
theorem k_szBookWrite (x : VW) (left : Int) (hx : x.ok) (h0 : 0 ≤ left) (h1 : left ≤ 1048576) : EV Tryz.prog E 18 [.val 0 true (VW.c x),.val 0 false [.p (.int .i64 left)]] = some ⟨[(false,[.p (.int .i64 (subW left x.w))])],[]⟩ :=by
  refine EV_intro Tryz.func18 rfl ?_
  have hx0 :=hx
  simp only [VW.ok] at hx
  obtain ⟨o_op,o_kind,o_name,o_seen,o_text,o_hold⟩ :=hx
  have w0 :=wrap64 (n :=left - x.kind.size) (by unfold maxLen at *; omega) (by omega)
  by_cases c0 : left < (x.kind.size : Nat)
  · have e : subW left x.w = -1 :=subW_lt (by unfold VW.w; omega)
    have d0 : left - (x.kind.size : Int) < 0 :=by omega
    simp only [rA,↓reduceIte,reduceCtorEq,N1,N2,N3,N4,N5,N6,N7,I1,I2,I3,I4,L1,e18,Tryz.f18,VW.c,w0,d0,e]
  have d0 : ¬ (left - (x.kind.size : Nat) < 0) :=by omega
  have w1 :=wrap64 (n :=left - (x.kind.size : Nat) - x.name.size) (by unfold maxLen at *; omega) (by omega)
  by_cases c1 : left - (x.kind.size : Nat) < (x.name.size : Nat)
  · have e : subW left x.w = -1 :=subW_lt (by unfold VW.w; omega)
    have d1 : left - (x.kind.size : Nat) - (x.name.size : Int) < 0 :=by omega
    simp only [rA,↓reduceIte,reduceCtorEq,N1,N2,N3,N4,N5,N6,N7,I1,I2,I3,I4,L1,e18,Tryz.f18,VW.c,w0,d0,w1,d1,e]
  have d1 : ¬ (left - (x.kind.size : Nat) - (x.name.size : Nat) < 0) :=by omega
  have w2 :=wrap64 (n :=left - (x.kind.size : Nat) - (x.name.size : Nat) - x.text.size) (by unfold maxLen at *; omega) (by omega)
  by_cases c2 : left - (x.kind.size : Nat) - (x.name.size : Nat) < (x.text.size : Nat)
  · have e : subW left x.w = -1 :=subW_lt (by unfold VW.w; omega)
    have d2 : left - (x.kind.size : Nat) - (x.name.size : Nat) - (x.text.size : Int) < 0 :=by omega
    simp only [rA,↓reduceIte,reduceCtorEq,N1,N2,N3,N4,N5,N6,N7,I1,I2,I3,I4,L1,e18,Tryz.f18,VW.c,w0,d0,w1,d1,w2,d2,e]
  have d2 : ¬ (left - (x.kind.size : Nat) - (x.name.size : Nat) - (x.text.size : Nat) < 0) :=by omega
  have w3 :=wrap64 (n :=left - (x.kind.size : Nat) - (x.name.size : Nat) - (x.text.size : Nat) - x.hold.size) (by unfold maxLen at *; omega) (by omega)
  by_cases c3 : left - (x.kind.size : Nat) - (x.name.size : Nat) - (x.text.size : Nat) < (x.hold.size : Nat)
  · have e : subW left x.w = -1 :=subW_lt (by unfold VW.w; omega)
    have d3 : left - (x.kind.size : Nat) - (x.name.size : Nat) - (x.text.size : Nat) - (x.hold.size : Int) < 0 :=by omega
    simp only [rA,↓reduceIte,reduceCtorEq,N1,N2,N3,N4,N5,N6,N7,I1,I2,I3,I4,L1,e18,Tryz.f18,VW.c,w0,d0,w1,d1,w2,d2,w3,d3,e]
  have d3 : ¬ (left - (x.kind.size : Nat) - (x.name.size : Nat) - (x.text.size : Nat) - (x.hold.size : Nat) < 0) :=by omega
  have e : subW left x.w = left - (x.kind.size : Nat) - (x.name.size : Nat) - (x.text.size : Nat) - (x.hold.size : Nat) :=by rw [subW_ge (by unfold VW.w; omega)]; unfold VW.w; omega
  simp only [rA,↓reduceIte,reduceCtorEq,N1,N2,N3,N4,N5,N6,N7,I1,I2,I3,I4,L1,e18,Tryz.f18,VW.c,w0,d0,w1,d1,w2,d2,w3,d3,e]
theorem k_toBookWrite (x : VW) (hw : x.w ≤ 4194304) : EV Tryz.prog E 20 [.val 0 true (VW.c x)] = some ⟨[(true,VW.c x)],[]⟩ :=by
  refine EV_intro Tryz.func20 rfl ?_
  unfold VW.w at hw
  simp only [rA,↓reduceIte,reduceCtorEq,N1,N2,N3,N4,N5,N6,N7,I1,I2,I3,I4,L1,e20,Tryz.f20,VW.c]
structure VBookDid where
  code : Int
  book : VBook
  version : Int
def VBookDid.c (f : Fl) (x : VBookDid) : List C :=[.p (.int .i64 x.code),.p (.int .i64 x.book.now),.p (.int .i64 x.book.floor),.sl f 7 (x.book.objects.map (VO.c f)),.sl f 9 (x.book.history.map (VC.c f)),.sl f 5 (x.book.tickets.map VT.c),.p (.int .i64 x.version)]
def VBookDid.w (x : VBookDid) : Nat :=x.book.w
def VBookDid.ok (x : VBookDid) : Prop :=i64ok x.code ∧ x.book.ok ∧ i64ok x.version
theorem k_eqBookDid (x : VBookDid) (hw : x.w ≤ 4194304) : EV Tryz.prog E 11 [.val 0 true (VBookDid.c .shr x),.val 0 true (VBookDid.c .shr x)] = some ⟨[(false,[.p (.bool true)])],[]⟩ :=by
  refine EV_intro Tryz.func11 rfl ?_
  unfold VBookDid.w at hw
  have h0 :=k_eqBook x.book (by omega)
  simp only [VBook.c] at h0
  simp only [rA,↓reduceIte,reduceCtorEq,N1,N2,N3,N4,N5,N6,N7,I1,I2,I3,I4,L1,e11,e12,Tryz.f11,VBookDid.c,h0,beq_self_eq_true]
def moBookDid (x : VBookDid) (k : Int) : VBookDid :=⟨x.code,moBook x.book (k),x.version⟩
def ocBookDid (x : VBookDid) : Nat :=ocBook x.book
theorem k_markBookDid (x : VBookDid) (k : Int) (h0 : 0 ≤ k) (hb : k + (ocBookDid x : Nat) ≤ 4611686018427387904) : EV Tryz.prog E 16 [.val 0 true (VBookDid.c .own x),.val 0 false [.p (.int .i64 k)]] = some ⟨[(false,[.p (.int .i64 (k + (ocBookDid x : Nat)))])],[VBookDid.c .own (moBookDid x k)]⟩ :=by
  refine EV_intro Tryz.func16 rfl ?_
  unfold ocBookDid at hb ⊢
  have hm0 :=k_markBook x.book (k) (by omega) (by omega)
  simp only [VBook.c,moBook] at hm0
  have he : k + ((ocBook x.book : Nat) : Int) = k + (ocBook x.book : Nat) :=by omega
  rw [he]
  simp only [rA,↓reduceIte,reduceCtorEq,N1,N2,N3,N4,N5,N6,N7,I1,I2,I3,I4,L1,e16,e14,Tryz.f16,VBookDid.c,moBookDid,moBook,hm0,rowsBookObject,rowsBookChange,rowsBookTicket]
theorem k_heldBookDid (x : VBookDid) (k : Int) (h0 : 0 ≤ k) (hb : k + (ocBookDid x : Nat) ≤ 4611686018427387904) : EV Tryz.prog E 17 [.val 0 true (VBookDid.c .shr (moBookDid x k)),.val 0 false [.p (.int .i64 k)]] = some ⟨[(false,[.p (.int .i64 (k + (ocBookDid x : Nat)))])],[]⟩ :=by
  refine EV_intro Tryz.func17 rfl ?_
  unfold ocBookDid at hb ⊢
  have hm0 :=k_heldBook x.book (k) (by omega) (by omega)
  simp only [VBook.c,moBook] at hm0
  have hn0 : ¬ (k + (ocBook x.book : Nat) < 0) :=by omega
  have he : k + ((ocBook x.book : Nat) : Int) = k + (ocBook x.book : Nat) :=by omega
  rw [he]
  simp only [rA,↓reduceIte,reduceCtorEq,N1,N2,N3,N4,N5,N6,N7,I1,I2,I3,I4,L1,e17,e49,Tryz.f17,VBookDid.c,moBookDid,moBook,hm0,hn0,rowsBookObject,rowsBookChange,rowsBookTicket]
theorem oc_leBookDid (x : VBookDid) : ocBookDid x ≤ 8 * x.w :=by
  have h0 :=mcL_leBookObject x.book.objects
  have h1 :=mcL_leBookChange x.book.history
  have h2 :=mcL_leBookTicket x.book.tickets
  unfold ocBookDid ocBook VBookDid.w VBook.w
  omega
end Go.Proofs.YtfpconipgllkkaaGreat

