import Derived.Test.YtedomogjmhommaaH15
set_option linter.all false
set_option maxRecDepth 100000
set_option maxHeartbeats 8000000
namespace Go.Proofs.Ytedomogjmhommaa
open Go.RowKit Go.Shelf Go.Lib Go.Sort
theorem zml {m:Nat} [Inhabited (StM m)] {W:World} {base g cap n:Nat} {cur:Array Value} {os:Array Obj} (d:Array (StM m)) (hb:base≤g) (hg:W.heap[g]?=some (.cells cur 24 (0,0))) (hc:d.size≤cap) (hm:cap≤maxLen) (hs:cur.size=cap * 3) :
  W.grownBy (sortWorldK (encM m) 3 W g 0 n d os) (some g)∧(sortWorldK (encM m) 3 W g 0 n d os).ownsRow base 24 3 (.slice (some ⟨g,0,none⟩) d.size cap) d.size ((d.toList.map (·.1)).map St.cells).flatten:=by
 have hgl:=zav hg
 have hheap:(sortWorldK (encM m) 3 W g 0 n d os).heap=W.heap.modify g (onCells (putCells id 0 (flatK (encM m) 3 d)))++os:=rfl
 have hblk:∀ i,i<W.heap.size→i≠g→(sortWorldK (encM m) 3 W g 0 n d os).heap[i]?=W.heap[i]?:=fun i hi hne=>by
  rw [hheap,Array.getElem?_append_left (by simpa using hi),Array.getElem?_modify,if_neg (fun e=>hne e.symm)]
 have hgg:(sortWorldK (encM m) 3 W g 0 n d os).heap[g]?=some (.cells (putCells id 0 (flatK (encM m) 3 d) cur) 24 (0,0)):=by
  rw [hheap,Array.getElem?_append_left (by simpa using hgl),Array.getElem?_modify,if_pos rfl,hg]
  rfl
 have hps:(putCells id 0 (flatK (encM m) 3 d) cur).size=cap * 3:=by unfold putCells;simpa using hs
 have hfl:((d.toList.map (·.1)).map St.cells).flatten.length=d.size * 3:=by
  rw [zeM (sz:=3) _ (fun y hy=>by obtain⟨x,_,rfl⟩:=List.mem_map.1 hy;rfl)]
  simp
 refine⟨⟨rfl,rfl,rfl,by rw [hheap];simp,fun i hi hne=>hblk i hi (fun e=>hne (by rw [e]))⟩,hfl,.inr ⟨g,cap,_,rfl,hb,hgg,hc,hm,hps,?_⟩⟩
 refine List.ext_getElem? fun j=>?_
 by_cases hj:j<d.size * 3
 ·rw [List.getElem?_take,if_pos hj,zjg d hj]
  have hjc:j<cur.size:=by rw [hs];have:=Nat.mul_le_mul_right 3 hc;omega
  have h0:(putCells id 0 (flatK (encM m) 3 d) cur)[j]?=some (flatK (encM m) 3 d)[j]!:=by
   unfold putCells
   rw [Array.getElem?_mapIdx,Array.getElem?_eq_getElem hjc]
   simp [hj]
  simpa using h0
 ·rw [List.getElem?_take,if_neg hj,List.getElem?_eq_none (by rw [hfl];omega)]
end Go.Proofs.Ytedomogjmhommaa
namespace Go.Proofs.Ytedomogjmhommaa
open Go.RowKit Go.Shelf Go.Lib Go.Sort
theorem zrn (m:Nat) (h1:1≤m) (h4:m≤4):zqp m:=by
 intro base v xs W hok hlen hb hrow
 haveI:Inhabited (StM m):=⟨⟨⟨0,0,0⟩,⟨by simp,by simp,by constructor<;>simp<;>omega⟩⟩⟩
 obtain⟨hfl,⟨rfl,h0⟩ | ⟨g,cap,cur,rfl,hbg,hg,hc,hm,hs,ht⟩⟩:=id hrow
 ·have:=List.eq_nil_of_length_eq_zero h0
  subst this
  have h:=AnyF.slices_SortFunc_none Try.sortSt none 0 (.func (.func 63) #[] #[]) W
  rw [f94] at h
  refine (callsIn_wide.2 h).mono ?_
  rintro e w' ⟨rfl,rfl⟩
  refine⟨rfl,World.grownBy.refl _ _,?_⟩
  rw [show zfX []=[] by simp [zfX]]
  exact World.ownsRow_nil ..
 ·have hd:((attM xs hok).toArray.toList).map (·.1)=xs:=zon hok
  have hsz:(attM xs hok).toArray.size=xs.length:=by simp
  generalize (attM xs hok).toArray=d at hd hsz
  have h:=AnyQ.slices_SortFunc_total Try.sortSt 3 aE24 zE24 (encM m) (fun _=>rfl) (fun x v hv=>by simp at hv;rcases hv with rfl | rfl | rfl<;>rfl) (fun x y=>zc1 x.1 y.1) (swo m) 63 #[] g 0 cap d W e63 (zmZ m h4 g 0 d.size W) (holds_of d hg (by rw [hd,hsz];exact ht)) (zav hg) (by omega) (fun x y hx hy=>by
   unfold ltOf at hx hy
   rw [zbk] at hx hy
   exact Subtype.ext (before_total hx hy))
  rw [f94,hsz] at h
  refine (callsIn_wide.2 h).mono ?_
  rintro e w' ⟨rfl,n,os,rfl⟩
  have hmap:((d.toList.mergeSort fun x y=>!(ltOf fun x y:StM m=>zc1 x.1 y.1) y x).toArray.toList).map (·.1)=zfX xs:=by
   unfold zfX
   rw [← hd]
   exact List.map_mergeSort fun a _ b _=>rfl
  have hsz2:(d.toList.mergeSort fun x y=>!(ltOf fun x y:StM m=>zc1 x.1 y.1) y x).toArray.size=xs.length:=by
   rw [← hsz];simp
  generalize (d.toList.mergeSort fun x y=>!(ltOf fun x y:StM m=>zc1 x.1 y.1) y x).toArray=d2 at hmap hsz2 ⊢
  obtain⟨k1,k2⟩:=zml (n:=n) (os:=os) d2 hbg hg (by omega) hm hs
  rw [hmap,hsz2] at k2
  exact⟨rfl,k1,k2⟩
end Go.Proofs.Ytedomogjmhommaa
namespace Go.Proofs.Ytedomogjmhommaa
open Go.RowKit
theorem zmk (m b n:Nat) (X:St→Prop) (w:World) (h1:1≤m) (h4:m≤4) (hX:SetM w b n X) (hok:∀ s,X s→s.Ok m) (hn:n≤1000000000000) :
  CallsIn FW 0 Try.prog 62 #[.map (some b),.func (.func 63) #[] #[]] w fun e w'=>∃ (v:Value) (xs:List St),e=.returned v∧Nx w w'∧w'.ownsRow w.heap.size 24 3 v xs.length ((zfX xs).map St.cells).flatten∧xs.Nodup∧∀ s,s∈xs↔X s :=
 zjI m (zrn m h1 h4) b n X w hX hok hn
end Go.Proofs.Ytedomogjmhommaa
