/- What BookValid computes: the program's own. -/
import Derived.Test.YtfpconipgllkkaaGreatV3h
namespace Go.Proofs.YtfpconipgllkkaaGreat
open Go.Sx
open Nat renaming reduceEqDiff → N1,reduceAdd → N2,reduceSub → N3,reduceMul → N4,reduceLeDiff → N5,reduceBEq → N6,reduceLT → N7
open Int renaming reduceLT → I1,reduceNeg → I2,reduceLE → I3,reduceEq → I4
open List renaming reduceReplicate → L1
set_option maxRecDepth 100000
set_option maxHeartbeats 8000000
set_option linter.unusedVariables false
set_option linter.unusedSimpArgs false
theorem k27 (b : VBook) (hw : b.w ≤ 4194304) : EV Tryz.prog E 27 [.val 0 true (b.c .shr)] = some ⟨[(false,[.p (.bool (inR b.now 0 1000000 && (inR b.floor 0 b.now && ((decide ((b.objects.length : Int) ≤ 100) && objsF b 0 b.objects) && ((decide ((b.history.length : Int) ≤ 200) && (decide ((b.history.length : Int) = b.now - b.floor) && (hist1F b 0 b.history && (b.objects.all (hist2 b) && hist3F b 0 b.history)))) && (decide ((b.tickets.length : Int) ≤ 50) && tickF b.now none b.tickets))))))])],[]⟩ :=by
  refine EV_intro Tryz.func27 rfl ?_
  have h1 :=k57 b.now 0 1000000
  have h2 :=k57 b.floor 0 b.now
  have h3 :=k58 b hw
  have h5 :=k60 b hw
  cases c1 : inR b.now 0 1000000
  · simp only [rA,↓reduceIte,reduceCtorEq,N1,N2,N3,N4,N5,N6,N7,I1,I2,I3,I4,L1,e27,e57,e58,e59,e60,Tryz.f27,VBook.c,h1,c1]
  cases c2 : inR b.floor 0 b.now
  · simp only [rA,↓reduceIte,reduceCtorEq,N1,N2,N3,N4,N5,N6,N7,I1,I2,I3,I4,L1,e27,e57,e58,e59,e60,Tryz.f27,VBook.c,h1,c1,h2,c2]
  have hn : 0 ≤ b.floor ∧ b.floor ≤ b.now ∧ b.now ≤ 1000000 :=by
    unfold inR at c1 c2
    simp only [Bool.and_eq_true,decide_eq_true_eq] at c1 c2
    exact ⟨c2.1,c2.2,c1.2⟩
  have h4 :=k59 b hw hn.1 hn.2.1 hn.2.2
  simp only [VBook.c] at h3 h4 h5
  generalize (decide ((b.objects.length : Int) ≤ 100) && objsF b 0 b.objects) = z3 at *
  generalize (decide ((b.history.length : Int) ≤ 200) && (decide ((b.history.length : Int) = b.now - b.floor) && (hist1F b 0 b.history && (b.objects.all (hist2 b) && hist3F b 0 b.history)))) = z4 at *
  generalize (decide ((b.tickets.length : Int) ≤ 50) && tickF b.now none b.tickets) = z5 at *
  cases z3
  · simp only [rA,↓reduceIte,reduceCtorEq,N1,N2,N3,N4,N5,N6,N7,I1,I2,I3,I4,L1,e27,e57,e58,e59,e60,Tryz.f27,VBook.c,h1,c1,h2,c2,h3]
  cases z4
  · simp only [rA,↓reduceIte,reduceCtorEq,N1,N2,N3,N4,N5,N6,N7,I1,I2,I3,I4,L1,e27,e57,e58,e59,e60,Tryz.f27,VBook.c,h1,c1,h2,c2,h3,h4]
  · simp only [rA,↓reduceIte,reduceCtorEq,N1,N2,N3,N4,N5,N6,N7,I1,I2,I3,I4,L1,e27,e57,e58,e59,e60,Tryz.f27,VBook.c,h1,c1,h2,c2,h3,h4,h5]
end Go.Proofs.YtfpconipgllkkaaGreat

