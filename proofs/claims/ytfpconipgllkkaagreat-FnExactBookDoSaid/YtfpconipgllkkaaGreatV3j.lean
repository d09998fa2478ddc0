/- What BookValid computes: the program's own. -/
import Derived.Test.YtfpconipgllkkaaGreatV3i
import Derived.Test.YtfpconipgllkkaaGreatV3s
import Derived.Sort.Walk0
namespace Go.Proofs.YtfpconipgllkkaaGreat
open Go.Sx
open Nat renaming reduceEqDiff → N1,reduceAdd → N2,reduceSub → N3,reduceMul → N4,reduceLeDiff → N5,reduceBEq → N6,reduceLT → N7
open Int renaming reduceLT → I1,reduceNeg → I2,reduceLE → I3,reduceEq → I4
open List renaming reduceReplicate → L1
set_option maxRecDepth 100000
set_option maxHeartbeats 8000000
set_option linter.unusedVariables false
set_option linter.unusedSimpArgs false
def verC (o : VO) : List C :=[.p (.int .i64 o.version),.p (.bool true)]
def objR (o : VO) : List C :=keyC o.kind o.name ++ o.c .shr
def chgR (c : VC) : List C :=keyC c.object.kind c.object.name ++ c.c .shr
def isO (k n : ByteArray) (o : VO) : Bool :=decide (k = o.kind) && decide (n = o.name)
def isC (k n : ByteArray) (c : VC) : Bool :=decide (k = c.object.kind) && decide (n = c.object.name)
def oput (l : List VO) (o : VO) : List VO :=mput (isO o.kind o.name) o l
def cput (l : List VC) (c : VC) : List VC :=mput (isC c.object.kind c.object.name) c l
def osF (l : List VO) : List VO :=l.foldl oput []
def csF (l : List VC) : List VC :=l.foldl cput []
theorem osF_snoc {l : List VO} {i : Nat} {x : VO} (h : l[i]? = some x) : osF (l.take (i + 1)) = oput (osF (l.take i)) x :=by
  rw [take_snoc h,osF,List.foldl_append]; rfl
theorem csF_snoc {l : List VC} {i : Nat} {x : VC} (h : l[i]? = some x) : csF (l.take (i + 1)) = cput (csF (l.take i)) x :=by
  rw [take_snoc h,csF,List.foldl_append]; rfl
theorem find_ver (v : Int) (l : List VO) : findR [.int .i64 v] 1 (l.map verC) = some (fstR (fun o =>decide (v = o.version)) verC l) :=
  findR_map (key :=fun o =>[.int .i64 o.version]) (fun o =>rfl) (fun o =>by simp [eqVals,bin,intBin,bnd,Sx.asBool]) l
theorem find_obj (k n : ByteArray) (l : List VO) : findR [.string k,.string n] 2 (l.map objR) = some (fstR (isO k n) objR l) :=
  findR_map (key :=fun o =>[.string o.kind,.string o.name]) (fun o =>rfl) (fun o =>by simp [eqVals,bin,strBin,bnd,Sx.asBool,isO]) l
theorem find_chg (k n : ByteArray) (l : List VC) : findR [.string k,.string n] 2 (l.map chgR) = some (fstR (isC k n) chgR l) :=
  findR_map (key :=fun o =>[.string o.object.kind,.string o.object.name]) (fun o =>rfl) (fun o =>by simp [eqVals,bin,strBin,bnd,Sx.asBool,isC]) l
theorem put_obj {l : List VO} {i : Nat} {x : VO} (h : l[i]? = some x) : putR [.string x.kind,.string x.name] (x.c .shr) ((osF (l.take i)).map objR) (fstR (isO x.kind x.name) objR (osF (l.take i))) = (osF (l.take (i + 1))).map objR :=by
  rw [osF_snoc h]
  exact putR_map (f :=objR) rfl _
theorem put_chg {l : List VC} {i : Nat} {x : VC} (h : l[i]? = some x) : putR [.string x.object.kind,.string x.object.name] (x.c .shr) ((csF (l.take i)).map chgR) (fstR (isC x.object.kind x.object.name) chgR (csF (l.take i))) = (csF (l.take (i + 1))).map chgR :=by
  rw [csF_snoc h]
  exact putR_map (f :=chgR) rfl _
theorem ver_snoc {l : List VO} {i : Nat} {x : VO} (h : l[i]? = some x) : (l.take (i + 1)).map verC = (l.take i).map verC ++ [[.p (.int .i64 x.version),.p (.bool true)]] :=by
  rw [take_snoc h,List.map_append]; rfl
def chk3 (b : VBook) (c : VC) : Bool :=match (osF b.objects).find? (isO c.object.kind c.object.name) with
  | some o =>!c.gone && sameB o c.object
  | none =>c.gone
def chk4 (b : VBook) (o : VO) : Bool :=((csF b.history).find? (isC o.kind o.name)).isSome || decide (o.version ≤ b.floor)
def implB (b : VBook) : Bool :=inR b.now 0 1000000 && (inR b.floor 0 b.now && (decide ((b.objects.length : Int) ≤ 100) && (decide ((b.history.length : Int) ≤ 200) && (decide ((b.history.length : Int) = b.now - b.floor) && (decide ((b.tickets.length : Int) ≤ 50) &&
  (objsF b 0 b.objects && (hist1F b 0 b.history && ((csF b.history).all (chk3 b) && ((osF b.objects).all (chk4 b) && tickF b.now none b.tickets)))))))))
theorem mput_cons {β : Type} (p : β → Bool) (x y : β) (l : List β) : mput p x (y :: l) = if p y = true then x :: l else y :: mput p x l :=by
  unfold mput
  rw [List.findIdx?_cons]
  by_cases h : p y = true
  · simp [h]
  · simp only [h]
    cases l.findIdx? p <;> simp
theorem find_mput {β : Type} (p q : β → Bool) (x : β) (h1 : q x = true → ∀ y,q y = p y) (h2 : q x = false → ∀ y,p y = true → q y = false) : ∀ l : List β,(mput p x l).find? q = if q x = true then some x else l.find? q
  | [] =>by
    unfold mput
    simp only [List.findIdx?_nil,List.nil_append,List.find?_cons,List.find?_nil]
    cases q x <;> rfl
  | y :: l =>by
    rw [mput_cons]
    by_cases h : p y = true
    · rw [if_pos h,List.find?_cons,List.find?_cons]
      cases hq : q x
      · rw [h2 hq y h]; simp
      · simp
    · rw [if_neg h,List.find?_cons,find_mput p q x h1 h2 l,List.find?_cons]
      cases hq : q x
      · cases q y <;> simp
      · have e : q y = false :=by rw [h1 hq]; simpa using h
        rw [e]
theorem isC_key (o : VO) (c : VC) : isC o.kind o.name c = decide (keyO c.object o = 0) :=by
  rw [Bool.eq_iff_iff]
  simp only [isC,Bool.and_eq_true,decide_eq_true_eq,key_zero]
  exact ⟨fun h =>⟨h.1.symm,h.2.symm⟩,fun h =>⟨h.1.symm,h.2.symm⟩⟩
theorem csF_find (h : List VC) (o : VO) : ∀ i,i ≤ h.length → (csF (h.take i)).find? (isC o.kind o.name) = lastO h o i
  | 0,_ =>rfl
  | i + 1,hi =>by
    have hj : h[i]? = some (h[i]'(by omega)) :=List.getElem?_eq_getElem (by omega)
    generalize h[i]'(by omega) = c at hj
    rw [csF_snoc hj,cput,find_mput,csF_find h o i (by omega),isC_key]
    · simp only [lastO,hj]
      by_cases d : keyO c.object o = 0 <;> simp [d]
    · intro e y
      simp only [isC,Bool.and_eq_true,decide_eq_true_eq] at e
      rw [e.1,e.2]
    · intro e y e2
      simp only [isC,Bool.and_eq_true,decide_eq_true_eq] at e2
      rw [← e]
      simp only [isC,e2.1,e2.2]
theorem end_eq {x : VC} {now : Int} (h : partsB x.object now = true) : endB x.object x.gone = endS x :=by
  have hb : x.object.born ≤ x.object.version :=by
    simp only [partsB,inR,Bool.and_eq_true,decide_eq_true_eq] at h
    omega
  unfold endB endS
  cases x.gone
  · rw [if_neg (by simp),if_neg (by simp)]
    by_cases e1 : (x.object.holds.length : Int) = 0
    · have e2 : ¬ (0 : Int) < (x.object.holds.length : Int) :=by omega
      rw [decide_eq_true e1,decide_eq_false e2]
      cases x.object.ending <;> rfl
    · have e2 : (0 : Int) < (x.object.holds.length : Int) :=by omega
      rw [decide_eq_false e1,decide_eq_true e2]
      cases x.object.ending <;> rfl
  · rw [if_pos rfl,if_pos rfl]
    have : decide (x.object.born < x.object.version) = !decide (x.object.born = x.object.version) :=by
      rw [Bool.eq_iff_iff]
      simp
      omega
    rw [this]
theorem mem_mput {β : Type} {p : β → Bool} {x y : β} : ∀ {l : List β},y ∈ mput p x l → y = x ∨ y ∈ l
  | [],h =>by simp [mput] at h; exact .inl h
  | z :: l,h =>by
    rw [mput_cons] at h
    split at h
    · rcases List.mem_cons.1 h with h | h
      · exact .inl h
      · exact .inr (List.mem_cons_of_mem _ h)
    · rcases List.mem_cons.1 h with h | h
      · exact .inr (h ▸ List.mem_cons_self)
      · rcases mem_mput h with h | h
        · exact .inl h
        · exact .inr (List.mem_cons_of_mem _ h)
theorem osF_mem {l : List VO} {y : VO} (h : y ∈ osF l) : y ∈ l :=by
  have key : ∀ (l a : List VO),y ∈ l.foldl oput a → y ∈ a ∨ y ∈ l :=by
    intro l
    induction l with
    | nil =>intro a h; exact .inl h
    | cons x l ih =>
      intro a h
      rcases ih _ h with h | h
      · rcases mem_mput h with h | h
        · exact .inr (h ▸ List.mem_cons_self)
        · exact .inl h
      · exact .inr (List.mem_cons_of_mem _ h)
  rcases key l [] h with h | h
  · cases h
  · exact h
theorem csF_mem {l : List VC} {y : VC} (h : y ∈ csF l) : y ∈ l :=by
  have key : ∀ (l a : List VC),y ∈ l.foldl cput a → y ∈ a ∨ y ∈ l :=by
    intro l
    induction l with
    | nil =>intro a h; exact .inl h
    | cons x l ih =>
      intro a h
      rcases ih _ h with h | h
      · rcases mem_mput h with h | h
        · exact .inr (h ▸ List.mem_cons_self)
        · exact .inl h
      · exact .inr (List.mem_cons_of_mem _ h)
  rcases key l [] h with h | h
  · cases h
  · exact h
theorem k35 (b : VBook) (hw : b.w ≤ 4194304) : EV Tryz.prog E 35 [.val 0 true (b.c .shr)] = some ⟨[(false,[.p (.bool (implB b))])],[]⟩ :=by
  refine EV_intro Tryz.func35 rfl ?_
  have hll : b.objects.length ≤ 4194304 :=by unfold VBook.w wSBookObject at hw; omega
  have hhl : b.history.length ≤ 4194304 :=by unfold VBook.w wSBookChange at hw; omega
  have htl : b.tickets.length ≤ 4194304 :=by unfold VBook.w wSBookTicket at hw; omega
  unfold implB inR
  by_cases c1 : 0 ≤ b.now
  case neg =>
    have d1 : b.now < 0 :=by omega
    simp only [rA,↓reduceIte,reduceCtorEq,N1,N2,N3,N4,N5,N6,N7,I1,I2,I3,I4,L1,e35,Tryz.f35,VBook.c,c1,d1]
  have d1 : ¬ b.now < 0 :=by omega
  by_cases c2 : b.now ≤ 1000000
  case neg =>
    have d2 : 1000000 < b.now :=by omega
    simp only [rA,↓reduceIte,reduceCtorEq,N1,N2,N3,N4,N5,N6,N7,I1,I2,I3,I4,L1,e35,Tryz.f35,VBook.c,c1,d1,c2,d2]
  have d2 : ¬ 1000000 < b.now :=by omega
  by_cases c3 : 0 ≤ b.floor
  case neg =>
    have d3 : b.floor < 0 :=by omega
    simp only [rA,↓reduceIte,reduceCtorEq,N1,N2,N3,N4,N5,N6,N7,I1,I2,I3,I4,L1,e35,Tryz.f35,VBook.c,c1,d1,c2,d2,c3,d3]
  have d3 : ¬ b.floor < 0 :=by omega
  by_cases c4 : b.floor ≤ b.now
  case neg =>
    have d4 : b.now < b.floor :=by omega
    simp only [rA,↓reduceIte,reduceCtorEq,N1,N2,N3,N4,N5,N6,N7,I1,I2,I3,I4,L1,e35,Tryz.f35,VBook.c,c1,d1,c2,d2,c3,d3,c4,d4]
  have d4 : ¬ b.now < b.floor :=by omega
  by_cases c5 : (b.objects.length : Int) ≤ 100
  case neg =>
    have d5 : 100 < (b.objects.length : Int) :=by omega
    simp only [rA,↓reduceIte,reduceCtorEq,N1,N2,N3,N4,N5,N6,N7,I1,I2,I3,I4,L1,e35,Tryz.f35,VBook.c,c1,d1,c2,d2,c3,d3,c4,d4,c5,d5]
  have d5 : ¬ 100 < (b.objects.length : Int) :=by omega
  by_cases c6 : (b.history.length : Int) ≤ 200
  case neg =>
    have d6 : 200 < (b.history.length : Int) :=by omega
    simp only [rA,↓reduceIte,reduceCtorEq,N1,N2,N3,N4,N5,N6,N7,I1,I2,I3,I4,L1,e35,Tryz.f35,VBook.c,c1,d1,c2,d2,c3,d3,c4,d4,c5,d5,c6,d6]
  have d6 : ¬ 200 < (b.history.length : Int) :=by omega
  have hwf :=wrap64 (n :=b.now - b.floor) (by omega) (by omega)
  by_cases c7 : (b.history.length : Int) = b.now - b.floor
  case neg =>simp only [rA,↓reduceIte,reduceCtorEq,N1,N2,N3,N4,N5,N6,N7,I1,I2,I3,I4,L1,e35,Tryz.f35,VBook.c,c1,d1,c2,d2,c3,d3,c4,d4,c5,d5,c6,d6,hwf,c7]
  have c7' :=eq_true c7
  by_cases c8 : (b.tickets.length : Int) ≤ 50
  case neg =>
    have d8 : 50 < (b.tickets.length : Int) :=by omega
    simp only [rA,↓reduceIte,reduceCtorEq,N1,N2,N3,N4,N5,N6,N7,I1,I2,I3,I4,L1,e35,Tryz.f35,VBook.c,c1,d1,c2,d2,c3,d3,c4,d4,c5,d5,c6,d6,hwf,c7',c8,d8]
  have d8 : ¬ 50 < (b.tickets.length : Int) :=by omega
  simp only [rA,↓reduceIte,reduceCtorEq,N1,N2,N3,N4,N5,N6,N7,I1,I2,I3,I4,L1,e35,Tryz.f35,VBook.c,c1,d1,c2,d2,c3,d3,c4,d4,c5,d5,c6,d6,hwf,c7',c8,d8]
  rw [for_block b.objects (fun i (_ : Unit) =>⟨6,[(1,.box 0 0 (b.c .shr)),(3,.val 1 false [.mp .own 0 false false 1 ((b.objects.take i).map verC)]),(4,.val 2 false [.mp .own 0 true true 2 ((osF (b.objects.take i)).map objR)]),(76,.val 3 false [.sl .shr 7 (b.objects.map (VO.c .shr))]),(77,.val 4 false [.p (.int .i64 b.objects.length)]),(78,.val 5 false [.p (.int .i64 i)])]⟩) (fun i _ =>True)
    (fun r i a =>if objsF b i r = true then .norm ⟨2,[(1,.box 0 0 (b.c .shr)),(4,.val 1 false [.mp .own 0 true true 2 ((osF b.objects).map objR)])]⟩ else .ret ⟨[(false,[.p (.bool false)])],[]⟩) ?_ ?_ (a :=()) trivial (by simp only [rA,↓reduceIte,reduceCtorEq,N1,N2,N3,N4,N5,N6,N7,I1,I2,I3,I4,L1,e35,VBook.c,List.take_zero,osF,List.foldl_nil]; rfl)]
  · cases e1 : objsF b 0 b.objects
    · simp only [rA,↓reduceIte,reduceCtorEq,N1,N2,N3,N4,N5,N6,N7,I1,I2,I3,I4,L1,e35,e1]
    simp only [rA,↓reduceIte,reduceCtorEq,N1,N2,N3,N4,N5,N6,N7,I1,I2,I3,I4,L1,e35,VBook.c,e1]
    rw [for_block b.history (fun i (_ : Unit) =>⟨6,[(1,.box 0 0 (b.c .shr)),(4,.val 1 false [.mp .own 0 true true 2 ((osF b.objects).map objR)]),(7,.val 2 false [.mp .own 0 true true 2 ((csF (b.history.take i)).map chgR)]),(121,.val 3 false [.sl .shr 9 (b.history.map (VC.c .shr))]),(122,.val 4 false [.p (.int .i64 b.history.length)]),(123,.val 5 false [.p (.int .i64 i)])]⟩) (fun i _ =>True)
      (fun r i a =>if hist1F b i r = true then .norm ⟨3,[(1,.box 0 0 (b.c .shr)),(4,.val 1 false [.mp .own 0 true true 2 ((osF b.objects).map objR)]),(7,.val 2 false [.mp .own 0 true true 2 ((csF b.history).map chgR)])]⟩ else .ret ⟨[(false,[.p (.bool false)])],[]⟩) ?_ ?_ (a :=()) trivial (by simp only [rA,↓reduceIte,reduceCtorEq,N1,N2,N3,N4,N5,N6,N7,I1,I2,I3,I4,L1,e35,VBook.c,List.take_zero,csF,List.foldl_nil]; rfl)]
    · cases e2 : hist1F b 0 b.history
      · simp only [rA,↓reduceIte,reduceCtorEq,N1,N2,N3,N4,N5,N6,N7,I1,I2,I3,I4,L1,e35,e2]
      simp only [rA,↓reduceIte,reduceCtorEq,N1,N2,N3,N4,N5,N6,N7,I1,I2,I3,I4,L1,e35,VBook.c,e2]
      rw [range_all (csF b.history) (chk3 b) (fun c r =>⟨4,[(1,.box 0 0 (b.c .shr)),(4,.val 1 false [.mp .own 0 true true 2 ((osF b.objects).map objR)]),(7,.val 2 false [.mp .shr 0 true true 2 ((csF b.history).map chgR)]),(204,.val 3 false [match c with | none =>.mp .own 1 true true 2 (r.map chgR) | some x =>.mp .own 2 true true 2 (chgR x :: r.map chgR)])]⟩)
        (.norm ⟨3,[(1,.box 0 0 (b.c .shr)),(4,.val 1 false [.mp .own 0 true true 2 ((osF b.objects).map objR)]),(7,.val 2 false [.mp .shr 0 true true 2 ((csF b.history).map chgR)])]⟩) ⟨[(false,[.p (.bool false)])],[]⟩ ?_ ?_ ?_ ?_ (by simp only [rA,↓reduceIte,reduceCtorEq,N1,N2,N3,N4,N5,N6,N7,I1,I2,I3,I4,L1,e35,VBook.c])]
      · cases e3 : (csF b.history).all (chk3 b)
        · simp only [rA,↓reduceIte,reduceCtorEq,N1,N2,N3,N4,N5,N6,N7,I1,I2,I3,I4,L1,e35,e3]
        simp only [rA,↓reduceIte,reduceCtorEq,N1,N2,N3,N4,N5,N6,N7,I1,I2,I3,I4,L1,e35,VBook.c,e3]
        rw [range_all (osF b.objects) (chk4 b) (fun c r =>⟨3,[(1,.box 0 0 (b.c .shr)),(7,.val 1 false [.mp .shr 0 true true 2 ((csF b.history).map chgR)]),(229,.val 2 false [match c with | none =>.mp .own 1 true true 2 (r.map objR) | some x =>.mp .own 2 true true 2 (objR x :: r.map objR)])]⟩)
          (.norm ⟨1,[(1,.box 0 0 (b.c .shr))]⟩) ⟨[(false,[.p (.bool false)])],[]⟩ ?_ ?_ ?_ ?_ (by simp only [rA,↓reduceIte,reduceCtorEq,N1,N2,N3,N4,N5,N6,N7,I1,I2,I3,I4,L1,e35,VBook.c])]
        · cases e4 : (osF b.objects).all (chk4 b)
          · simp only [rA,↓reduceIte,reduceCtorEq,N1,N2,N3,N4,N5,N6,N7,I1,I2,I3,I4,L1,e35,e4]
          simp only [rA,↓reduceIte,reduceCtorEq,N1,N2,N3,N4,N5,N6,N7,I1,I2,I3,I4,L1,e35,VBook.c,e4]
          rw [for_block b.tickets (fun i (_ : Unit) =>⟨4,[(1,.box 0 0 (b.c .shr)),(251,.val 1 false [.sl .shr 5 (b.tickets.map VT.c)]),(252,.val 2 false [.p (.int .i64 b.tickets.length)]),(253,.val 3 false [.p (.int .i64 i)])]⟩) (fun i _ =>True)
            (fun r i a =>if tickF b.now (prevO b.tickets i) r = true then .norm ⟨0,[]⟩ else .ret ⟨[(false,[.p (.bool false)])],[]⟩) ?_ ?_ (a :=()) trivial (by simp only [rA,↓reduceIte,reduceCtorEq,N1,N2,N3,N4,N5,N6,N7,I1,I2,I3,I4,L1,e35,VBook.c]; rfl)]
          · cases h : tickF b.now none b.tickets
            · simp only [rA,↓reduceIte,reduceCtorEq,N1,N2,N3,N4,N5,N6,N7,I1,I2,I3,I4,L1,e35,h,prevO]
            · simp only [rA,↓reduceIte,reduceCtorEq,N1,N2,N3,N4,N5,N6,N7,I1,I2,I3,I4,L1,e35,h,prevO]
          · intro i x r a hd hi _
            have hlen :=(List.getElem?_eq_some_iff.1 hi).1
            have hlt : ((i : Int) < (b.tickets.length : Int)) :=by omega
            have hr :=getElem?_map_some (f :=VT.c) hi
            have hi0 : (0 : Int) ≤ (i : Int) :=by omega
            have hwi :=wrap64 (n :=(i : Int) + 1) (by omega) (by omega)
            have hp' : prevO b.tickets (i + 1) = some x :=hi
            have h1 :=k74 x.client
            simp only [VT.c] at hr
            have hF : tickF b.now (prevO b.tickets i) (x :: r) = (tick1 b.now (prevO b.tickets i) x && tickF b.now (some x) r) :=rfl
            cases t1 : nameB x.client
            · right
              have hf : tick1 b.now (prevO b.tickets i) x = false :=by simp [tick1,t1]
              rw [hf,Bool.false_and] at hF
              simp only [rA,↓reduceIte,reduceCtorEq,N1,N2,N3,N4,N5,N6,N7,I1,I2,I3,I4,L1,e35,e74,VBook.c,VT.c,hlt,hr,hi0,h1,t1,hF]
            by_cases n1 : x.number < 1
            · right
              have hf : tick1 b.now (prevO b.tickets i) x = false :=by
                have e : inR x.number 1 1000000 = false :=by simp only [inR,decide_eq_false (show ¬ 1 ≤ x.number by omega),Bool.false_and]
                simp [tick1,e]
              rw [hf,Bool.false_and] at hF
              rcases prevO_cases b.tickets (Nat.le_of_lt hlen) htl with ⟨h0,hp⟩ | ⟨p,h0,hj0,hw2,hj,hp⟩
              · simp only [rA,↓reduceIte,reduceCtorEq,N1,N2,N3,N4,N5,N6,N7,I1,I2,I3,I4,L1,e35,e74,VBook.c,VT.c,hlt,hr,hi0,h1,t1,hF,h0,n1]
              · have hrj :=getElem?_map_some (f :=VT.c) hj
                simp only [VT.c] at hrj
                cases t6 : Op.bytesLess p.client.toList x.client.toList
                · simp only [rA,↓reduceIte,reduceCtorEq,N1,N2,N3,N4,N5,N6,N7,I1,I2,I3,I4,L1,e35,e74,VBook.c,VT.c,hlt,hr,hi0,h1,t1,hF,h0,hj0,hw2,hrj,t6]
                · simp only [rA,↓reduceIte,reduceCtorEq,N1,N2,N3,N4,N5,N6,N7,I1,I2,I3,I4,L1,e35,e74,VBook.c,VT.c,hlt,hr,hi0,h1,t1,hF,h0,hj0,hw2,hrj,t6,n1]
            by_cases n2 : 1000000 < x.number
            · right
              have hf : tick1 b.now (prevO b.tickets i) x = false :=by
                have e : inR x.number 1 1000000 = false :=by simp only [inR,decide_eq_false (show ¬ x.number ≤ 1000000 by omega),Bool.and_false]
                simp [tick1,e]
              rw [hf,Bool.false_and] at hF
              rcases prevO_cases b.tickets (Nat.le_of_lt hlen) htl with ⟨h0,hp⟩ | ⟨p,h0,hj0,hw2,hj,hp⟩
              · simp only [rA,↓reduceIte,reduceCtorEq,N1,N2,N3,N4,N5,N6,N7,I1,I2,I3,I4,L1,e35,e74,VBook.c,VT.c,hlt,hr,hi0,h1,t1,hF,h0,n1,n2]
              · have hrj :=getElem?_map_some (f :=VT.c) hj
                simp only [VT.c] at hrj
                cases t6 : Op.bytesLess p.client.toList x.client.toList
                · simp only [rA,↓reduceIte,reduceCtorEq,N1,N2,N3,N4,N5,N6,N7,I1,I2,I3,I4,L1,e35,e74,VBook.c,VT.c,hlt,hr,hi0,h1,t1,hF,h0,hj0,hw2,hrj,t6]
                · simp only [rA,↓reduceIte,reduceCtorEq,N1,N2,N3,N4,N5,N6,N7,I1,I2,I3,I4,L1,e35,e74,VBook.c,VT.c,hlt,hr,hi0,h1,t1,hF,h0,hj0,hw2,hrj,t6,n1,n2]
            have i1 : inR x.number 1 1000000 = true :=by simp only [inR,decide_eq_true (show 1 ≤ x.number by omega),decide_eq_true (show x.number ≤ 1000000 by omega),Bool.and_self]
            by_cases n3 : (x.print.size : Int) = 8
            case neg =>
              right
              have hf : tick1 b.now (prevO b.tickets i) x = false :=by simp [tick1,n3]
              rw [hf,Bool.false_and] at hF
              rcases prevO_cases b.tickets (Nat.le_of_lt hlen) htl with ⟨h0,hp⟩ | ⟨p,h0,hj0,hw2,hj,hp⟩
              · simp only [rA,↓reduceIte,reduceCtorEq,N1,N2,N3,N4,N5,N6,N7,I1,I2,I3,I4,L1,e35,e74,VBook.c,VT.c,hlt,hr,hi0,h1,t1,hF,h0,n1,n2,n3]
              · have hrj :=getElem?_map_some (f :=VT.c) hj
                simp only [VT.c] at hrj
                cases t6 : Op.bytesLess p.client.toList x.client.toList
                · simp only [rA,↓reduceIte,reduceCtorEq,N1,N2,N3,N4,N5,N6,N7,I1,I2,I3,I4,L1,e35,e74,VBook.c,VT.c,hlt,hr,hi0,h1,t1,hF,h0,hj0,hw2,hrj,t6]
                · simp only [rA,↓reduceIte,reduceCtorEq,N1,N2,N3,N4,N5,N6,N7,I1,I2,I3,I4,L1,e35,e74,VBook.c,VT.c,hlt,hr,hi0,h1,t1,hF,h0,hj0,hw2,hrj,t6,n1,n2,n3]
            by_cases n4 : x.code < 0
            · right
              have hf : tick1 b.now (prevO b.tickets i) x = false :=by
                have e : inR x.code 0 9 = false :=by simp only [inR,decide_eq_false (show ¬ 0 ≤ x.code by omega),Bool.false_and]
                simp [tick1,e]
              rw [hf,Bool.false_and] at hF
              rcases prevO_cases b.tickets (Nat.le_of_lt hlen) htl with ⟨h0,hp⟩ | ⟨p,h0,hj0,hw2,hj,hp⟩
              · simp only [rA,↓reduceIte,reduceCtorEq,N1,N2,N3,N4,N5,N6,N7,I1,I2,I3,I4,L1,e35,e74,VBook.c,VT.c,hlt,hr,hi0,h1,t1,hF,h0,n1,n2,n3,n4]
              · have hrj :=getElem?_map_some (f :=VT.c) hj
                simp only [VT.c] at hrj
                cases t6 : Op.bytesLess p.client.toList x.client.toList
                · simp only [rA,↓reduceIte,reduceCtorEq,N1,N2,N3,N4,N5,N6,N7,I1,I2,I3,I4,L1,e35,e74,VBook.c,VT.c,hlt,hr,hi0,h1,t1,hF,h0,hj0,hw2,hrj,t6]
                · simp only [rA,↓reduceIte,reduceCtorEq,N1,N2,N3,N4,N5,N6,N7,I1,I2,I3,I4,L1,e35,e74,VBook.c,VT.c,hlt,hr,hi0,h1,t1,hF,h0,hj0,hw2,hrj,t6,n1,n2,n3,n4]
            by_cases n5 : 9 < x.code
            · right
              have hf : tick1 b.now (prevO b.tickets i) x = false :=by
                have e : inR x.code 0 9 = false :=by simp only [inR,decide_eq_false (show ¬ x.code ≤ 9 by omega),Bool.and_false]
                simp [tick1,e]
              rw [hf,Bool.false_and] at hF
              rcases prevO_cases b.tickets (Nat.le_of_lt hlen) htl with ⟨h0,hp⟩ | ⟨p,h0,hj0,hw2,hj,hp⟩
              · simp only [rA,↓reduceIte,reduceCtorEq,N1,N2,N3,N4,N5,N6,N7,I1,I2,I3,I4,L1,e35,e74,VBook.c,VT.c,hlt,hr,hi0,h1,t1,hF,h0,n1,n2,n3,n4,n5]
              · have hrj :=getElem?_map_some (f :=VT.c) hj
                simp only [VT.c] at hrj
                cases t6 : Op.bytesLess p.client.toList x.client.toList
                · simp only [rA,↓reduceIte,reduceCtorEq,N1,N2,N3,N4,N5,N6,N7,I1,I2,I3,I4,L1,e35,e74,VBook.c,VT.c,hlt,hr,hi0,h1,t1,hF,h0,hj0,hw2,hrj,t6]
                · simp only [rA,↓reduceIte,reduceCtorEq,N1,N2,N3,N4,N5,N6,N7,I1,I2,I3,I4,L1,e35,e74,VBook.c,VT.c,hlt,hr,hi0,h1,t1,hF,h0,hj0,hw2,hrj,t6,n1,n2,n3,n4,n5]
            have i2 : inR x.code 0 9 = true :=by simp only [inR,decide_eq_true (show 0 ≤ x.code by omega),decide_eq_true (show x.code ≤ 9 by omega),Bool.and_self]
            by_cases n6 : x.version < 0
            · right
              have hf : tick1 b.now (prevO b.tickets i) x = false :=by
                have e : inR x.version 0 b.now = false :=by simp only [inR,decide_eq_false (show ¬ 0 ≤ x.version by omega),Bool.false_and]
                simp [tick1,e]
              rw [hf,Bool.false_and] at hF
              rcases prevO_cases b.tickets (Nat.le_of_lt hlen) htl with ⟨h0,hp⟩ | ⟨p,h0,hj0,hw2,hj,hp⟩
              · simp only [rA,↓reduceIte,reduceCtorEq,N1,N2,N3,N4,N5,N6,N7,I1,I2,I3,I4,L1,e35,e74,VBook.c,VT.c,hlt,hr,hi0,h1,t1,hF,h0,n1,n2,n3,n4,n5,n6]
              · have hrj :=getElem?_map_some (f :=VT.c) hj
                simp only [VT.c] at hrj
                cases t6 : Op.bytesLess p.client.toList x.client.toList
                · simp only [rA,↓reduceIte,reduceCtorEq,N1,N2,N3,N4,N5,N6,N7,I1,I2,I3,I4,L1,e35,e74,VBook.c,VT.c,hlt,hr,hi0,h1,t1,hF,h0,hj0,hw2,hrj,t6]
                · simp only [rA,↓reduceIte,reduceCtorEq,N1,N2,N3,N4,N5,N6,N7,I1,I2,I3,I4,L1,e35,e74,VBook.c,VT.c,hlt,hr,hi0,h1,t1,hF,h0,hj0,hw2,hrj,t6,n1,n2,n3,n4,n5,n6]
            by_cases n7 : b.now < x.version
            · right
              have hf : tick1 b.now (prevO b.tickets i) x = false :=by
                have e : inR x.version 0 b.now = false :=by simp only [inR,decide_eq_false (show ¬ x.version ≤ b.now by omega),Bool.and_false]
                simp [tick1,e]
              rw [hf,Bool.false_and] at hF
              rcases prevO_cases b.tickets (Nat.le_of_lt hlen) htl with ⟨h0,hp⟩ | ⟨p,h0,hj0,hw2,hj,hp⟩
              · simp only [rA,↓reduceIte,reduceCtorEq,N1,N2,N3,N4,N5,N6,N7,I1,I2,I3,I4,L1,e35,e74,VBook.c,VT.c,hlt,hr,hi0,h1,t1,hF,h0,n1,n2,n3,n4,n5,n6,n7]
              · have hrj :=getElem?_map_some (f :=VT.c) hj
                simp only [VT.c] at hrj
                cases t6 : Op.bytesLess p.client.toList x.client.toList
                · simp only [rA,↓reduceIte,reduceCtorEq,N1,N2,N3,N4,N5,N6,N7,I1,I2,I3,I4,L1,e35,e74,VBook.c,VT.c,hlt,hr,hi0,h1,t1,hF,h0,hj0,hw2,hrj,t6]
                · simp only [rA,↓reduceIte,reduceCtorEq,N1,N2,N3,N4,N5,N6,N7,I1,I2,I3,I4,L1,e35,e74,VBook.c,VT.c,hlt,hr,hi0,h1,t1,hF,h0,hj0,hw2,hrj,t6,n1,n2,n3,n4,n5,n6,n7]
            have i3 : inR x.version 0 b.now = true :=by simp only [inR,decide_eq_true (show 0 ≤ x.version by omega),decide_eq_true (show x.version ≤ b.now by omega),Bool.and_self]
            have hf : tick1 b.now (prevO b.tickets i) x = ahead (prevO b.tickets i) x :=by simp [tick1,t1,i1,i2,i3,n3]
            rw [hf] at hF
            rcases prevO_cases b.tickets (Nat.le_of_lt hlen) htl with ⟨h0,hp⟩ | ⟨p,h0,hj0,hw2,hj,hp⟩
            · left
              rw [show ahead (prevO b.tickets i) x = true by rw [hp]; rfl,Bool.true_and] at hF
              refine ⟨(),?_,trivial,by rw [hF,hp']⟩
              simp only [rA,↓reduceIte,reduceCtorEq,N1,N2,N3,N4,N5,N6,N7,I1,I2,I3,I4,L1,e35,e74,VBook.c,VT.c,hlt,hr,hi0,h1,t1,h0,n1,n2,n3,n4,n5,n6,n7,hwi,i64c]
            · have hrj :=getElem?_map_some (f :=VT.c) hj
              simp only [VT.c] at hrj
              rw [show ahead (prevO b.tickets i) x = Op.bytesLess p.client.toList x.client.toList by rw [hp]; rfl] at hF
              cases t6 : Op.bytesLess p.client.toList x.client.toList
              · right
                rw [t6,Bool.false_and] at hF
                simp only [rA,↓reduceIte,reduceCtorEq,N1,N2,N3,N4,N5,N6,N7,I1,I2,I3,I4,L1,e35,e74,VBook.c,VT.c,hlt,hr,hi0,h1,t1,hF,h0,hj0,hw2,hrj,t6]
              · left
                rw [t6,Bool.true_and] at hF
                refine ⟨(),?_,trivial,by rw [hF,hp']⟩
                simp only [rA,↓reduceIte,reduceCtorEq,N1,N2,N3,N4,N5,N6,N7,I1,I2,I3,I4,L1,e35,e74,VBook.c,VT.c,hlt,hr,hi0,h1,t1,h0,hj0,hw2,hrj,t6,n1,n2,n3,n4,n5,n6,n7,hwi,i64c]
          · intro a _
            simp only [rA,↓reduceIte,reduceCtorEq,N1,N2,N3,N4,N5,N6,N7,I1,I2,I3,I4,L1,e35,VBook.c,tickF]
        · intro c r
          cases c <;> simp only [leftN,leftV,rA,↓reduceIte,reduceCtorEq,N1,N2,N3,N4,N5,N6,N7,I1,I2,I3,I4,L1,e35,List.length_map]
        · intro c
          cases c
          · rfl
          · simp only [rA,↓reduceIte,reduceCtorEq,N1,N2,N3,N4,N5,N6,N7,I1,I2,I3,I4,L1,e35,VBook.c,List.map_nil]
        · simp only [rA,↓reduceIte,reduceCtorEq,N1,N2,N3,N4,N5,N6,N7,I1,I2,I3,I4,L1,e35,VBook.c,List.map_nil]
        · intro c r i x hsub hx
          have hn :=nextR_map (f :=objR) hx
          have fc :=find_chg x.kind x.name (csF b.history)
          simp only [objR,VO.c,keyC,List.cons_append,List.nil_append] at hn
          rcases fstR_cases (isC x.kind x.name) chgR (csF b.history) with ⟨f1,f2⟩ | ⟨j,q,f1,f2,f3,f4,f5⟩
          · have hC : chk4 b x = decide (x.version ≤ b.floor) :=by unfold chk4; rw [f1]; rfl
            rw [hC]
            rw [f2] at fc
            by_cases d : b.floor < x.version
            · right
              refine ⟨decide_eq_false (by omega),?_⟩
              cases c <;> simp only [rA,↓reduceIte,reduceCtorEq,N1,N2,N3,N4,N5,N6,N7,I1,I2,I3,I4,L1,e35,VBook.c,VO.c,hn,fc,d]
            · left
              refine ⟨decide_eq_true (by omega),?_⟩
              cases c <;> simp only [rA,↓reduceIte,reduceCtorEq,N1,N2,N3,N4,N5,N6,N7,I1,I2,I3,I4,L1,e35,VBook.c,VO.c,objR,keyC,hn,fc,d]
          · have hC : chk4 b x = true :=by unfold chk4; rw [f1]; rfl
            rw [f5] at fc
            simp only [chgR,VC.c,keyC,List.cons_append,List.nil_append] at fc
            left
            refine ⟨hC,?_⟩
            cases c <;> simp only [rA,↓reduceIte,reduceCtorEq,N1,N2,N3,N4,N5,N6,N7,I1,I2,I3,I4,L1,e35,VBook.c,VO.c,objR,keyC,hn,fc]
      · intro c r
        cases c <;> simp only [leftN,leftV,rA,↓reduceIte,reduceCtorEq,N1,N2,N3,N4,N5,N6,N7,I1,I2,I3,I4,L1,e35,List.length_map]
      · intro c
        cases c
        · rfl
        · simp only [rA,↓reduceIte,reduceCtorEq,N1,N2,N3,N4,N5,N6,N7,I1,I2,I3,I4,L1,e35,VBook.c,List.map_nil]
      · simp only [rA,↓reduceIte,reduceCtorEq,N1,N2,N3,N4,N5,N6,N7,I1,I2,I3,I4,L1,e35,VBook.c,List.map_nil]
      · intro c r i x hsub hx
        have hn :=nextR_map (f :=chgR) hx
        have hxl :=change_le hw (csF_mem (hsub x (List.mem_of_getElem? hx)))
        have fo :=find_obj x.object.kind x.object.name (osF b.objects)
        have gg : ∃ g,x.gone = g :=⟨_,rfl⟩
        obtain ⟨g,gg⟩ :=gg
        simp only [chgR,VC.c,keyC,List.cons_append,List.nil_append,gg] at hn
        rcases fstR_cases (isO x.object.kind x.object.name) objR (osF b.objects) with ⟨f1,f2⟩ | ⟨j,o,f1,f2,f3,f4,f5⟩
        · have hC : chk3 b x = g :=by unfold chk3; rw [f1]; exact gg
          rw [hC]
          rw [f2] at fo
          cases g
          · right
            refine ⟨rfl,?_⟩
            cases c <;> simp only [rA,↓reduceIte,reduceCtorEq,N1,N2,N3,N4,N5,N6,N7,I1,I2,I3,I4,L1,e35,VBook.c,VC.c,VO.c,hn,fo]
          · left
            refine ⟨rfl,?_⟩
            cases c <;> simp only [rA,↓reduceIte,reduceCtorEq,N1,N2,N3,N4,N5,N6,N7,I1,I2,I3,I4,L1,e35,VBook.c,VC.c,VO.c,chgR,keyC,gg,hn,fo]
        · have hol :=object_le hw (osF_mem (List.mem_of_getElem? f2))
          have h1 :=k73 o x.object hol hxl
          have hC : chk3 b x = (!g && sameB o x.object) :=by unfold chk3; rw [f1,gg]
          rw [hC]
          rw [f5] at fo
          simp only [objR,VO.c,keyC,List.cons_append,List.nil_append] at fo h1
          cases g
          · cases d : sameB o x.object
            · right
              refine ⟨rfl,?_⟩
              rw [d] at h1
              cases c <;> simp only [rA,↓reduceIte,reduceCtorEq,N1,N2,N3,N4,N5,N6,N7,I1,I2,I3,I4,L1,e35,e73,VBook.c,VC.c,VO.c,hn,fo,h1]
            · left
              refine ⟨rfl,?_⟩
              rw [d] at h1
              cases c <;> simp only [rA,↓reduceIte,reduceCtorEq,N1,N2,N3,N4,N5,N6,N7,I1,I2,I3,I4,L1,e35,e73,VBook.c,VC.c,VO.c,chgR,keyC,gg,hn,fo,h1]
          · right
            refine ⟨rfl,?_⟩
            cases c <;> simp only [rA,↓reduceIte,reduceCtorEq,N1,N2,N3,N4,N5,N6,N7,I1,I2,I3,I4,L1,e35,e73,VBook.c,VC.c,VO.c,hn,fo]
    · intro i x r a hd hi _
      have hlen :=(List.getElem?_eq_some_iff.1 hi).1
      have hlt : ((i : Int) < (b.history.length : Int)) :=by omega
      have hr :=getElem?_map_some (f :=VC.c .shr) hi
      have hi0 : (0 : Int) ≤ (i : Int) :=by omega
      have hwi :=wrap64 (n :=(i : Int) + 1) (by omega) (by omega)
      have hw1 :=wrap64 (n :=b.floor + 1) (by omega) (by omega)
      have hw2 :=wrap64 (n :=b.floor + 1 + i) (by omega) (by omega)
      have hxl :=change_le hw (List.mem_of_getElem? hi)
      have h1 :=k70 x.object b.now x.gone hxl
      have h2 :=k71 x.object
      have fc :=find_chg x.object.kind x.object.name (csF (b.history.take i))
      have pc :=put_chg hi
      have fL :=csF_find b.history x.object i (by omega)
      simp only [VO.c,VC.c] at h1 h2 hr pc
      by_cases s1 : x.version = b.floor + 1 + i
      case neg =>
        right
        have hF : hist1F b i (x :: r) = false :=by simp [hist1F,hist1,s1]
        simp only [rA,↓reduceIte,reduceCtorEq,N1,N2,N3,N4,N5,N6,N7,I1,I2,I3,I4,L1,e35,e70,VBook.c,VC.c,VO.c,hlt,hr,hi0,hw1,hw2,s1,hF]
      have s1' :=eq_true s1
      by_cases s2 : x.object.version = x.version
      case neg =>
        right
        have hF : hist1F b i (x :: r) = false :=by simp [hist1F,hist1,s2]
        simp only [rA,↓reduceIte,reduceCtorEq,N1,N2,N3,N4,N5,N6,N7,I1,I2,I3,I4,L1,e35,e70,VBook.c,VC.c,VO.c,hlt,hr,hi0,hw1,hw2,s1',s2,hF]
      have s2' :=eq_true s2
      cases s3 : partsB x.object b.now
      · right
        have hF : hist1F b i (x :: r) = false :=by simp [hist1F,hist1,s3]
        rw [s3,Bool.false_and] at h1
        simp only [rA,↓reduceIte,reduceCtorEq,N1,N2,N3,N4,N5,N6,N7,I1,I2,I3,I4,L1,e35,e70,VBook.c,VC.c,VO.c,hlt,hr,hi0,hw1,hw2,s1',s2',h1,hF]
      rw [s3,Bool.true_and,end_eq s3] at h1
      have hE : hist1F b i (x :: r) = ((endS x && lastOk b i x) && hist1F b (i + 1) r) :=by simp [hist1F,hist1,s1,s2,s3]
      cases s4 : endS x
      · right
        rw [s4] at h1
        rw [s4,Bool.false_and,Bool.false_and] at hE
        simp only [rA,↓reduceIte,reduceCtorEq,N1,N2,N3,N4,N5,N6,N7,I1,I2,I3,I4,L1,e35,e70,VBook.c,VC.c,VO.c,hlt,hr,hi0,hw1,hw2,s1',s2',h1,hE]
      rw [s4] at h1
      rw [s4,Bool.true_and] at hE
      have hcr : creaB x = (!x.gone && decide (x.object.born = x.object.version)) :=by unfold creaB; rw [s2]
      have gg : ∃ g,x.gone = g :=⟨_,rfl⟩
      obtain ⟨g,gg⟩ :=gg
      rw [gg] at hcr
      simp only [gg] at h1 hr pc
      have dd : ∃ z,(x.object.born = x.object.version) = z ∧ (z = True ∨ z = False) :=by
        by_cases d : x.object.born = x.object.version
        · exact ⟨_,eq_true d,.inl rfl⟩
        · exact ⟨_,eq_false d,.inr rfl⟩
      obtain ⟨z,dd,hz⟩ :=dd
      rcases fstR_cases (isC x.object.kind x.object.name) chgR (csF (b.history.take i)) with ⟨f1,f2⟩ | ⟨j,q,f1,f2,f3,f4,f5⟩
      · have hL : lastOk b i x = (creaB x || !decide (b.floor < x.object.born)) :=by
          unfold lastOk; rw [← fL,f1]
          have : decide (x.object.born ≤ b.floor) = !decide (b.floor < x.object.born) :=by rw [Bool.eq_iff_iff]; simp
          rw [← this]
        have fc' :=fc
        rw [f2] at fc' pc
        have dn : ∃ y,(b.floor < x.object.born) = y ∧ (y = True ∨ y = False) :=by
          by_cases d : b.floor < x.object.born
          · exact ⟨_,eq_true d,.inl rfl⟩
          · exact ⟨_,eq_false d,.inr rfl⟩
        obtain ⟨y,dn,hy⟩ :=dn
        rw [hL,hcr] at hE
        rcases hz with rfl | rfl <;> rcases hy with rfl | rfl <;> cases g
        all_goals (simp only [dd,dn,decide_true,decide_false,Bool.not_true,Bool.not_false,Bool.or_true,Bool.or_false,Bool.true_and,Bool.false_and,Bool.and_true,Bool.and_false] at hE)
        all_goals first
          | (left; refine ⟨(),?_,trivial,by rw [hE]⟩; simp only [rA,↓reduceIte,reduceCtorEq,N1,N2,N3,N4,N5,N6,N7,I1,I2,I3,I4,L1,e35,e70,e71,VBook.c,VC.c,VO.c,hlt,hr,hi0,hw1,hw2,s1',s2',h1,h2,fc',pc,dd,dn,hwi,i64c]; done)
          | (right; simp only [rA,↓reduceIte,reduceCtorEq,N1,N2,N3,N4,N5,N6,N7,I1,I2,I3,I4,L1,e35,e70,e71,VBook.c,VC.c,VO.c,hlt,hr,hi0,hw1,hw2,s1',s2',h1,h2,fc',dd,dn,hE]; done)
      · have hL : lastOk b i x = ((creaB x == q.gone) && (creaB x || decide (q.object.born = x.object.born))) :=by
          unfold lastOk; rw [← fL,f1]
          have : decide (x.object.born = q.object.born) = decide (q.object.born = x.object.born) :=by rw [Bool.eq_iff_iff]; simp; exact eq_comm
          rw [← this]
        have fc' :=fc
        rw [f5] at fc' pc
        simp only [chgR,VC.c,keyC,List.cons_append,List.nil_append] at fc' pc
        have dn : ∃ y,(q.object.born = x.object.born) = y ∧ (y = True ∨ y = False) :=by
          by_cases d : q.object.born = x.object.born
          · exact ⟨_,eq_true d,.inl rfl⟩
          · exact ⟨_,eq_false d,.inr rfl⟩
        obtain ⟨y,dn,hy⟩ :=dn
        have qq : ∃ z,q.gone = z :=⟨_,rfl⟩
        obtain ⟨z2,qq⟩ :=qq
        rw [hL,hcr,qq] at hE
        simp only [qq] at fc' pc
        rcases hz with rfl | rfl <;> rcases hy with rfl | rfl <;> cases g <;> cases z2
        all_goals (simp only [dd,dn,decide_true,decide_false,Bool.not_true,Bool.not_false,Bool.or_true,Bool.or_false,Bool.true_and,Bool.false_and,Bool.and_true,Bool.and_false,Bool.false_or,Bool.true_or,beqB] at hE)
        all_goals first
          | (left; refine ⟨(),?_,trivial,by rw [hE]⟩; simp only [rA,↓reduceIte,reduceCtorEq,N1,N2,N3,N4,N5,N6,N7,I1,I2,I3,I4,L1,e35,e70,e71,VBook.c,VC.c,VO.c,hlt,hr,hi0,hw1,hw2,s1',s2',h1,h2,fc',pc,dd,dn,hwi,i64c]; done)
          | (right; simp only [rA,↓reduceIte,reduceCtorEq,N1,N2,N3,N4,N5,N6,N7,I1,I2,I3,I4,L1,e35,e70,e71,VBook.c,VC.c,VO.c,hlt,hr,hi0,hw1,hw2,s1',s2',h1,h2,fc',dd,dn,hE]; done)
    · intro a _
      simp only [rA,↓reduceIte,reduceCtorEq,N1,N2,N3,N4,N5,N6,N7,I1,I2,I3,I4,L1,e35,VBook.c,hist1F,List.take_length]
  · intro i x r a hd hi _
    have hlen :=(List.getElem?_eq_some_iff.1 hi).1
    have hlt : ((i : Int) < (b.objects.length : Int)) :=by omega
    have hr :=getElem?_map_some (f :=VO.c .shr) hi
    have hi0 : (0 : Int) ≤ (i : Int) :=by omega
    have hwi :=wrap64 (n :=(i : Int) + 1) (by omega) (by omega)
    have hxl :=object_le hw (List.mem_of_getElem? hi)
    have h1 :=k70 x b.now false hxl
    have h2 :=k71 x
    have fv :=find_ver x.version (b.objects.take i)
    have fo :=find_obj x.kind x.name (osF (b.objects.take i))
    have po :=put_obj hi
    have vs :=ver_snoc hi
    have hE : objsF b i (x :: r) = (objAt b i x && objsF b (i + 1) r) :=rfl
    have hA : objAt b i x = ((partsB x b.now && endB x false) && ((match prevO b.objects i with | none =>true | some p =>decide (keyO p x < 0)) && (b.objects.take i).all fun y =>!decide (y.version = x.version))) :=by
      have : endB x false = !(x.ending && decide ((x.holds.length : Int) = 0)) :=by
        unfold endB
        rw [if_neg (by simp)]
        by_cases e1 : (x.holds.length : Int) = 0
        · have e2 : ¬ (0 : Int) < (x.holds.length : Int) :=by omega
          rw [decide_eq_true e1,decide_eq_false e2]
          cases x.ending <;> rfl
        · have e2 : (0 : Int) < (x.holds.length : Int) :=by omega
          rw [decide_eq_false e1,decide_eq_true e2]
          cases x.ending <;> rfl
      rw [this]
      unfold objAt
      rw [Bool.and_assoc]
      rfl
    have hq : (∃ y,(b.objects.take i).find? (fun o =>decide (x.version = o.version)) = some y) → ((b.objects.take i).all fun y =>!decide (y.version = x.version)) = false :=by
      rintro ⟨y,hy⟩
      rw [List.all_eq_false]
      have :=List.find?_some hy
      exact ⟨y,List.mem_of_find?_eq_some hy,by simp at this; simp [this]⟩
    have hq2 : (b.objects.take i).find? (fun o =>decide (x.version = o.version)) = none → ((b.objects.take i).all fun y =>!decide (y.version = x.version)) = true :=by
      intro h
      rw [List.all_eq_true]
      intro y hy
      have :=List.find?_eq_none.1 h y hy
      simp at this
      simp
      exact fun e =>this e.symm
    rw [hA] at hE
    generalize (partsB x b.now && endB x false) = z at *
    simp only [VO.c] at hr h1 h2 po
    cases z
    · right
      simp only [Bool.false_and] at hE
      simp only [rA,↓reduceIte,reduceCtorEq,N1,N2,N3,N4,N5,N6,N7,I1,I2,I3,I4,L1,e35,e70,VBook.c,VO.c,hlt,hr,hi0,h1,hE]
    rcases fstR_cases (fun o =>decide (x.version = o.version)) verC (b.objects.take i) with ⟨f1,f2⟩ | ⟨j,y,f1,f2,f3,f4,f5⟩
    case inr =>
      right
      have hq' :=hq ⟨y,f1⟩
      rw [hq',Bool.and_false,Bool.and_false,Bool.false_and] at hE
      rw [f5] at fv
      simp only [verC] at fv
      simp only [rA,↓reduceIte,reduceCtorEq,N1,N2,N3,N4,N5,N6,N7,I1,I2,I3,I4,L1,e35,e70,VBook.c,VO.c,hlt,hr,hi0,h1,hE,fv]
    rw [hq2 f1,Bool.and_true,Bool.true_and] at hE
    rw [f2] at fv
    have fv' :=fv
    rcases prevO_cases b.objects (Nat.le_of_lt hlen) hll with ⟨h0,hp⟩ | ⟨p,h0,hj0,hw2,hj,hp⟩
    · left
      rw [hp] at hE
      refine ⟨(),?_,trivial,by rw [hE,Bool.true_and]⟩
      simp only [rA,↓reduceIte,reduceCtorEq,N1,N2,N3,N4,N5,N6,N7,I1,I2,I3,I4,L1,e35,e70,e71,VBook.c,VO.c,hlt,hr,hi0,h1,h2,fv,fo,po,vs,h0,hwi,i64c]
    · have hrj :=getElem?_map_some (f :=VO.c .shr) hj
      have h3 :=k71 p
      have h4 :=k72 p.kind p.name x.kind x.name
      have hk : (match prevO b.objects i with | none =>true | some p =>decide (keyO p x < 0)) = !decide (0 ≤ keyO p x) :=by
        rw [hp,Bool.eq_iff_iff]
        simp
      rw [show (match prevO b.objects i with | none =>true | some p =>decide (keyO p x < 0)) = !decide (0 ≤ keyO p x) from hk] at hE
      simp only [VO.c] at hrj h3
      have hkk : keyI p.kind p.name x.kind x.name = keyO p x :=rfl
      rw [hkk] at h4
      by_cases d : 0 ≤ keyO p x
      · right
        rw [decide_eq_true d] at hE
        simp only [Bool.not_true,Bool.false_and] at hE
        simp only [rA,↓reduceIte,reduceCtorEq,N1,N2,N3,N4,N5,N6,N7,I1,I2,I3,I4,L1,e35,e70,e71,e72,VBook.c,VO.c,hlt,hr,hi0,h1,h2,h3,h4,fv,h0,hj0,hw2,hrj,hE,d]
      · left
        rw [decide_eq_false d] at hE
        refine ⟨(),?_,trivial,by rw [hE]; rfl⟩
        simp only [rA,↓reduceIte,reduceCtorEq,N1,N2,N3,N4,N5,N6,N7,I1,I2,I3,I4,L1,e35,e70,e71,e72,VBook.c,VO.c,hlt,hr,hi0,h1,h2,h3,h4,fv,fo,po,vs,h0,hj0,hw2,hrj,d,hwi,i64c]
  · intro a _
    simp only [rA,↓reduceIte,reduceCtorEq,N1,N2,N3,N4,N5,N6,N7,I1,I2,I3,I4,L1,e35,VBook.c,objsF,List.take_length]
end Go.Proofs.YtfpconipgllkkaaGreat

