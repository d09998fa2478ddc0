/- The library's slices.Sort and slices.Delete at []string,in this program. -/
import Derived.Test.YtfpconipgllkkaaGreatSxD
import Derived.WalkKit
import Derived.Deep.RegionLaw
import Derived.Shelf.RegionOpenPlain
import Derived.Lib.SliceRun
import Derived.Shelf.Sort.Plain
import Derived.Shelf.Slices.In.SortNone
import Derived.Test.YtfpconipgllkkaaGreatProg
namespace Go.Proofs.YtfpconipgllkkaaGreat
open Go.RowKit

def ren190:Go.Shelf.Ren :=⟨fun | 190 =>92 | 125 =>113 | 258 =>112 | 128 =>128 | 129 =>129 | 302 =>119 | 303 =>120 | 304 =>121 | 305 =>122 | 306 =>123 | 307 =>124 | 308 =>125 | 309 =>126 | 310 =>127 | 333 =>131 | 329 =>132 | 330 =>133 | 334 =>134 | 335 =>135 | 336 =>136 | 344 =>137 | n =>n,fun | 31 =>92 | 9 =>9 | 3 =>3 | 46 =>159 | 0 =>0 | 51 =>171 | 53 =>173 | 4 =>4 | 183 =>163 | 182 =>162 | 131 =>168 | 5 =>5 | 218 =>174 | 222 =>178 | 228 =>180 | 229 =>88 | n =>n,fun | n =>n⟩
theorem lays190:Go.Proofs.Lays.n190 Tryz.prog ren190 where
 mixed :=by kernel_rfl
 f125 :=Tryz.func113.trans (congrArg some (by kernel_rfl))
 f128 :=Tryz.func128.trans (congrArg some (by kernel_rfl))
 f129 :=Tryz.func129.trans (congrArg some (by kernel_rfl))
 f190 :=Tryz.func92.trans (congrArg some (by kernel_rfl))
 f258 :=Tryz.func112.trans (congrArg some (by kernel_rfl))
 f302 :=Tryz.func119.trans (congrArg some (by kernel_rfl))
 f303 :=Tryz.func120.trans (congrArg some (by kernel_rfl))
 f304 :=Tryz.func121.trans (congrArg some (by kernel_rfl))
 f305 :=Tryz.func122.trans (congrArg some (by kernel_rfl))
 f306 :=Tryz.func123.trans (congrArg some (by kernel_rfl))
 f307 :=Tryz.func124.trans (congrArg some (by kernel_rfl))
 f308 :=Tryz.func125.trans (congrArg some (by kernel_rfl))
 f309 :=Tryz.func126.trans (congrArg some (by kernel_rfl))
 f310 :=Tryz.func127.trans (congrArg some (by kernel_rfl))
 f329 :=Tryz.func132.trans (congrArg some (by kernel_rfl))
 f330 :=Tryz.func133.trans (congrArg some (by kernel_rfl))
 f333 :=Tryz.func131.trans (congrArg some (by kernel_rfl))
 f334 :=Tryz.func134.trans (congrArg some (by kernel_rfl))
 f335 :=Tryz.func135.trans (congrArg some (by kernel_rfl))
 f336 :=Tryz.func136.trans (congrArg some (by kernel_rfl))
 f344 :=Tryz.func137.trans (congrArg some (by kernel_rfl))
 t0 :=Tryz.underlying0
 a0 :=Tryz.isAgg0
 z0 :=Tryz.sizeOf0
 v0 :=Tryz.zeroValue0
 t3 :=Tryz.underlying3
 a3 :=Tryz.isAgg3
 z3 :=Tryz.sizeOf3
 v3 :=Tryz.zeroValue3
 t4 :=Tryz.underlying4
 a4 :=Tryz.isAgg4
 z4 :=Tryz.sizeOf4
 v4 :=Tryz.zeroValue4
 t5 :=Tryz.underlying5
 a5 :=Tryz.isAgg5
 z5 :=Tryz.sizeOf5
 v5 :=Tryz.zeroValue5
 t9 :=Tryz.underlying9
 a9 :=Tryz.isAgg9
 z9 :=Tryz.sizeOf9
 v9 :=Tryz.zeroValue9
 t31 :=Tryz.underlying92
 a31 :=Tryz.isAgg92
 z31 :=Tryz.sizeOf92
 v31 :=Tryz.zeroValue92
 t46 :=Tryz.underlying159
 a46 :=Tryz.isAgg159
 z46 :=Tryz.sizeOf159
 v46 :=Tryz.zeroValue159
 t51 :=Tryz.underlying171
 a51 :=Tryz.isAgg171
 z51 :=Tryz.sizeOf171
 v51 :=Tryz.zeroValue171
 t53 :=Tryz.underlying173
 a53 :=Tryz.isAgg173
 z53 :=Tryz.sizeOf173
 v53 :=Tryz.zeroValue173
 t131 :=Tryz.underlying168
 a131 :=Tryz.isAgg168
 z131 :=Tryz.sizeOf168
 v131 :=Tryz.zeroValue168
 t182 :=Tryz.underlying162
 a182 :=Tryz.isAgg162
 z182 :=Tryz.sizeOf162
 v182 :=Tryz.zeroValue162
 t183 :=Tryz.underlying163
 a183 :=Tryz.isAgg163
 z183 :=Tryz.sizeOf163
 v183 :=Tryz.zeroValue163
 t218 :=Tryz.underlying174
 a218 :=Tryz.isAgg174
 z218 :=Tryz.sizeOf174
 v218 :=Tryz.zeroValue174
 t222 :=Tryz.underlying178
 a222 :=Tryz.isAgg178
 z222 :=Tryz.sizeOf178
 v222 :=Tryz.zeroValue178
 t228 :=Tryz.underlying180
 a228 :=Tryz.isAgg180
 z228 :=Tryz.sizeOf180
 v228 :=Tryz.zeroValue180
 t229 :=Tryz.underlying88
 a229 :=Tryz.isAgg88
 z229 :=Tryz.sizeOf88
 v229 :=Tryz.zeroValue88

theorem info9:(Tryz.prog.info? 9).map (fun i =>(i.zero,i.size,i.bytes)) = some (some (.string ⟨#[]⟩),1,16) :=by kernel_rfl

open Go.Sx in
theorem movedT_length (xs:List ByteArray) (j:Nat):(movedT xs j).length = xs.length - j :=by simp [movedT]

set_option maxHeartbeats 4000000 in
set_option maxRecDepth 1000000 in
open Go.Sx in
theorem del_walk (b off n cap i j:Nat) (xs:List ByteArray) (w:World) (hn:xs.length = n) (hij:i < j) (hj:j ≤ n) (hcap:n ≤ cap)
  (hc:∀ k x,xs[k]? = some x → w.cell? ⟨b,off + k,none⟩ = some (.string x)) (hf:∀ k,k < n → w.frozen? ⟨b,off + k,none⟩ = false) :
  Calls Tryz.prog 93 #[.slice (some ⟨b,off,none⟩) n cap,.int .i64 i,.int .i64 j] w fun e w' =>e = .returned (.slice (some ⟨b,off,none⟩) (i + (n - j)) cap) ∧
   w' = (w.drew.setCells b (off + i) (movedT xs j)).setCells b (off + (i + (n - j))) (List.replicate (n - (i + (n - j))) (.string ⟨#[]⟩)) :=by
 have mixed:Tryz.prog.follows .mixedOrders = true :=by kernel_rfl
 have t92 :=Tryz.underlying92
 have v9 :=Tryz.zeroValue9
 obtain ⟨i0,hi0,hz0,hz1,hz2⟩ :=info_parts info9
 have hcs:∀ k,k < n → (w.cell? ⟨b,off + k,none⟩).isSome = true :=fun k hk =>by
  rw [hc k xs[k] (List.getElem?_eq_getElem (by omega))]; rfl
 obtain ⟨A,hA,hnews⟩:∃ A:Addr,(if cap = j then some (⟨b,off,none⟩:Addr) else some ⟨b,off + j,none⟩) = some A ∧ Hid (∀ k u,(movedT xs j)[k]? = some u → w.drew.cell? (A.add k) = some u) :=by
  by_cases h:cap = j
  ·refine ⟨⟨b,off,none⟩,by simp [h],fun k u hu =>?_⟩
   have h0:(movedT xs j).length = 0 :=by rw [movedT_length]; omega
   rw [List.length_eq_zero_iff.1 h0] at hu
   simp at hu
  ·refine ⟨⟨b,off + j,none⟩,by simp [h],fun k u hu =>?_⟩
   simp only [movedT,List.getElem?_map,List.getElem?_drop] at hu
   obtain ⟨x,hx,hx2⟩ :=Option.map_eq_some_iff.1 hu
   rw [Addr.add_lit,show off + j + k = off + (j + k) by omega,← hx2]
   exact hc (j + k) x hx
 have s1:Hid ((movedT xs j).length = (n - j) * 1) :=by rw [Nat.mul_one,← hn]; exact movedT_length xs j
 have s2:Hid (∀ u ∈ movedT xs j,u.oneCell' = true) :=by
  intro u hu
  obtain ⟨x,_,rfl⟩ :=List.mem_map.1 hu
  rfl
 have s3:Hid (∀ k,k < (movedT xs j).length → (w.drew.cell? ⟨b,off + i * 1 + k,none⟩).isSome = true ∧ w.drew.frozen? ⟨b,off + i * 1 + k,none⟩ = false) :=by
  intro k hk
  rw [movedT_length,hn] at hk
  rw [Nat.mul_one,Nat.add_assoc]
  exact ⟨hcs (i + k) (by omega),hf (i + k) (by omega)⟩
 obtain ⟨W,hW⟩:∃ W,W = w.drew.setCells b (off + i * 1) (movedT xs j) :=⟨_,rfl⟩
 have hWc:∀ k,k < n → (W.cell? ⟨b,off + k,none⟩).isSome = true :=fun k hk =>by
  rw [hW]
  by_cases hin:off + i * 1 ≤ off + k ∧ off + k < off + i * 1 + (movedT xs j).length
  ·have :=World.cell?_setCells_in b (movedT xs j) (off + i * 1) w.drew (fun q hq =>(s3.out q hq).1) (off + k - (off + i * 1)) (by omega)
   rw [show off + i * 1 + (off + k - (off + i * 1)) = off + k by omega] at this
   rw [this]
   rfl
  ·rw [World.cell?_setCells_out b (movedT xs j) (off + i * 1) w.drew ⟨b,off + k,none⟩ (fun _ _ =>by show off + k < off + i * 1 ∨ off + i * 1 + (movedT xs j).length ≤ off + k; omega)]
   exact hcs k hk
 have hWf:∀ k,k < n → W.frozen? ⟨b,off + k,none⟩ = false :=fun k hk =>by
  rw [hW,World.frozen?_setCells]
  exact hf k hk
 have hcl:∀ ty,(Builtin.clear_ #[92] ty #[.slice (some ⟨b,off + (i + (n - j)),none⟩) (n - (i + (n - j))) (cap - (i + (n - j)))]).run Tryz.prog W = .ok (.tuple #[]) (W.setCells b (off + (i + (n - j))) (List.replicate (n - (i + (n - j))) (.string ⟨#[]⟩))) :=
  fun ty =>Lib.run_clear_slice W _ _ ty _ t92 v9 rfl rfl b (off + (i + (n - j))) _ _ (by omega)
   (fun k hk =>by rw [Nat.add_assoc off]; exact hWc _ (by omega)) (fun k hk =>by rw [Nat.add_assoc off]; exact hWf _ (by omega))
 have hg:Hid (W = w.drew.setCells b (off + i * 1) (movedT xs j)) :=hW
 have hic:i ≤ cap :=by omega
 have hjc:j ≤ cap :=by omega
 have hne:¬ i = j :=by omega
 have X:Hid ((w.drew.setCells b (off + i) (movedT xs j)).setCells b (off + (i + (n - j))) (List.replicate (n - (i + (n - j))) (.string ⟨#[]⟩)) = W.setCells b (off + (i + (n - j))) (List.replicate (n - (i + (n - j))) (.string ⟨#[]⟩))) :=by
  show _ = _
  rw [hW,Nat.mul_one]
 clear hW hWc hWf hcs hc hf
 rw [X.out]
 go_enter Tryz.func93,Tryz.ntmps93
 go_wp2_with fail
 go_region_law_o (refine step_append_room rfl (.tmp 22) (.tmp 25) 92 rfl 9 i0 1 t92 hi0 hz1 b off i cap (by simp [Act.eval,Act.put]) A (n - j) (cap - j) (movedT xs j) (by simp [Act.eval,Act.put]) s1.out hnews.out s2.out (by omega) s3.out ?_; rw [← hg.out])
 go_wp2
 go_ret
 exact ⟨rfl,rfl⟩
end Go.Proofs.YtfpconipgllkkaaGreat

