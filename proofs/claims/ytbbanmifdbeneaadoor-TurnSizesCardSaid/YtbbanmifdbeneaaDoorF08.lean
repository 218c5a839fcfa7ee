import Derived.Test.YtbbanmifdbeneaaDoorF07
set_option linter.all false
set_option maxRecDepth 100000
set_option maxHeartbeats 4000000
open Nat renaming le_refl → jqa
open List renaming getElem?_eq_getElem → jqb, take_add_one → jqf, length_map → jqg, mem_cons_of_mem → jqh
open Go.World renaming grownBy_alloc → jqc, cell?_setCell_other → jqd
open Go.Value renaming ownBlock → jqe
open Int renaming eq_ofNat_of_zero_le → jqi
namespace Go.Proofs.YtbbanmifdbeneaaDoor
open Go.RowKit
def sumTo (l:List (Int×Int)):Nat→Int
 | 0=>0
 | k+1=>sumTo l k+((l[k]?).map (·.2)).getD 0
def zcf (l:List (Int×Int)) (k i:Nat):Int:=if i<k then sumTo l (i+1) else 0
def Dit.ends (d:Dit):Nat→Int:=zcf d.turns d.turns.length
def Dit.cyc (d:Dit):Int:=sumTo d.turns d.turns.length
def Dit.us (d:Dit):List Int:=d.turns.map (·.1)
theorem zd1 {l:List (Int×Int)} (h:∀ x∈l,1≤x.2∧x.2≤100):∀ k,k≤l.length→k≤sumTo l k∧sumTo l k≤100 * k
 | 0,_=>by simp [sumTo]
 | k+1,hk=>by
  have ih:=zd1 h k (by omega);have hx:l[k]?=some l[k]:=jqb (by omega);have:=h l[k] (List.getElem_mem _);simp only [sumTo,hx,Option.map_some,Option.getD_some];omega
structure L1 (w wr:World) (D B M P:Nat) (d:Dit) (r:zaR) (ends:Nat→Int) (long:Int) (us:List Int):Prop where
 nx:Nx w wr
 D0:w.heap.size≤D
 DM:D<M
 MB:M<B
 BP:B<P
 PS:P<wr.heap.size
 dc:∀ i v,(d.cellsA r)[i]?=some v→wr.cell? ⟨D,i,none⟩=some v
 bc:∀ i v,(d.cellsA r)[i]?=some v→wr.cell? ⟨B,i,none⟩=some v
 p:wr.cell? ⟨P,0,none⟩=some (.pointer (some ⟨B,0,none⟩))
 e:∀ i,i<12→wr.cell? ⟨B,14+i,none⟩=some (num (ends i))
 l:wr.cell? ⟨B,26,none⟩=some (num long)
 u:∃ v,wr.cell? ⟨B,27,none⟩=some v∧wr.ownsRow (P+1) 3 1 v us.length (us.map num)
 o:wr.cell? ⟨B,28,none⟩=some (.map (some M))
 fz:∀ i,wr.frozen? ⟨B,i,none⟩=false
 m:wr.ownsMap (H:=Unit) Tryd.prog 3 za8 M 0 (.map [])
theorem zbC {w w' : World} {p:Addr} (h:w'.heap[p.block]?=w.heap[p.block]?):w'.cell? p=w.cell? p:=by unfold World.cell?;rw [h]
theorem za3 {w w' : World} {p:Addr} (h:w'.heap[p.block]?=w.heap[p.block]?):w'.frozen? p=w.frozen? p:=by unfold World.frozen?;rw [h]
theorem zaH {w:World} {o:Obj} {b i:Nat} (h:b<w.heap.size):(w.alloc o).cell? ⟨b,i,none⟩=w.cell? ⟨b,i,none⟩:=World.cell?_alloc_old _ _ _ (Nat.ne_of_lt h)
section
variable {w wr:World} {D B M P:Nat} {d:Dit} {r:zaR} {ends:Nat→Int} {long:Int} {us:List Int}
theorem cells_lt {i:Nat} {v:Value} (h:(d.cellsA r)[i]?=some v):i<14:=(Array.getElem?_eq_some_iff.1 h).1
theorem L1.drew (h:L1 w wr D B M P d r ends long us):L1 w wr.drew D B M P d r ends long us :=
 ⟨Below.drew h.nx,h.D0,h.DM,h.MB,h.BP,h.PS,h.dc,h.bc,h.p,h.e,h.l,h.u,h.o,h.fz,h.m⟩
theorem L1.keep (h:L1 w wr D B M P d r ends long us) {w' : World} (hg:wr.grownBy w' none):L1 w w' D B M P d r ends long us:=by
 obtain⟨v,u1,u2⟩:=h.u;have k:∀ {b i:Nat},b≤P→w'.cell? ⟨b,i,none⟩=wr.cell? ⟨b,i,none⟩:=fun {b i} hb=>zbC (hg.block b (by have:=h.PS;omega) (by simp));have a1:=h.DM;have a2:=h.MB;have a3:=h.BP;exact⟨h.nx.grown hg (fun r e=>by cases e),h.D0,h.DM,h.MB,h.BP,Nat.lt_of_lt_of_le h.PS hg.size,fun i v e=>(k (by omega)).trans (h.dc i v e),fun i v e=>(k (by omega)).trans (h.bc i v e),(k (by omega)).trans h.p,fun i hi=>(k (by omega)).trans (h.e i hi),(k (by omega)).trans h.l,
  ⟨v,(k (by omega)).trans u1,u2.kept hg (by cases hob:v.ownBlock with | none=>exact .inl rfl | some b=>exact .inr (by simp))⟩,(k (by omega)).trans h.o,fun i=>(za3 (hg.block B (by have:=h.PS;omega) (by simp))).trans (h.fz i),h.m.kept hg (by simp)⟩
theorem L1.alloc (h:L1 w wr D B M P d r ends long us) (o:Obj):L1 w (wr.alloc o) D B M P d r ends long us:=h.keep (jqc wr o none)
theorem L1.store (h:L1 w wr D B M P d r ends long us) (i:Nat) (hi:14≤i) (hi2:i<27) (x:Int) :
  L1 w (wr.setCell ⟨B,i,none⟩ (num x)) D B M P d r (fun j=>if 14+j=i then x else ends j) (if i=26 then x else long) us:=by
 obtain⟨v,u1,u2⟩:=h.u;have a0:=h.D0;have a1:=h.DM;have a2:=h.MB;have a3:=h.BP;have hs:(wr.cell? ⟨B,i,none⟩).isSome=true:=by
  by_cases h26:i=26
  ·rw [h26,h.l];rfl
  ·have:=h.e (i-14) (by omega)
   rw [show 14+(i-14)=i by omega] at this;rw [this];rfl
 have k:∀ {b j:Nat},(b≠B∨j≠i)→(wr.setCell ⟨B,i,none⟩ (num x)).cell? ⟨b,j,none⟩=wr.cell? ⟨b,j,none⟩:=fun hb=>jqd _ _ _ _ (by simp;omega);have k2:(wr.setCell ⟨B,i,none⟩ (num x)).cell? ⟨B,i,none⟩=some (num x):=World.cell?_setCell_same' _ _ _ hs;refine⟨h.nx.setCell (by show w.heap.size≤B;omega) _,h.D0,h.DM,h.MB,h.BP,by simpa using h.PS,fun j v e=>(k (.inl (by omega))).trans (h.dc j v e),fun j v e=>(k (.inr (by have:=cells_lt e;omega))).trans (h.bc j v e),(k (.inl (by omega))).trans h.p,fun j hj=>?_,?_,
  ⟨v,(k (.inr (by omega))).trans u1,ownsRow_setCell_below u2 (by show B<P+1;omega) _⟩,(k (.inr (by omega))).trans h.o,fun j=>by rw [World.frozen?_setCell];exact h.fz j,h.m.setCell (by show M≠B;omega) _⟩
 ·by_cases hij:14+j=i
  ·subst hij;simp only [if_true];exact k2
  ·simp only [hij,if_false];exact (k (.inr hij)).trans (h.e j hj)
 ·by_cases h26:i=26
  ·subst h26;simp only [if_true];exact k2
  ·simp only [h26,if_false];exact (k (.inr (Ne.symm h26))).trans h.l
theorem L1.congr (h:L1 w wr D B M P d r ends long us) {ends' : Nat→Int} (he:∀ i,i<12→ends i=ends' i):L1 w wr D B M P d r ends' long us :=
 ⟨h.nx,h.D0,h.DM,h.MB,h.BP,h.PS,h.dc,h.bc,h.p,fun i hi=>he i hi ▸ h.e i hi,h.l,h.u,h.o,h.fz,h.m⟩
theorem L1.usual (h:L1 w wr D B M P d r ends long us) {v v' : Value} {us' : List Int} {w' : World} (hv:wr.cell? ⟨B,27,none⟩=some v) (hown:wr.ownsRow (P+1) 3 1 v us.length (us.map num)) (hown' : w'.ownsRow (P+1) 3 1 v' us'.length (us'.map num)) (hg:wr.grownBy w' v.ownBlock) :
  L1 w (w'.setCell ⟨B,27,none⟩ v') D B M P d r ends long us':=by
 have a0:=h.D0;have a1:=h.DM;have a2:=h.MB;have a3:=h.BP;have a4:=h.PS;have hblk:∀ b,b≤P→some b≠v.ownBlock:=by
  intro b hb e;obtain⟨_,⟨rfl,_⟩ | ⟨g,cap,cur,rfl,hg2,_⟩⟩:=hown
  ·cases e
  ·simp only [jqe,Option.some.injEq] at e;omega
 have k1:∀ {b j:Nat},b≤P→w'.cell? ⟨b,j,none⟩=wr.cell? ⟨b,j,none⟩:=fun {b j} hb=>zbC (hg.block b (by omega) (hblk b hb));have k:∀ {b j:Nat},b≤P→(b≠B∨j≠27)→(w'.setCell ⟨B,27,none⟩ v').cell? ⟨b,j,none⟩=wr.cell? ⟨b,j,none⟩:=fun hb hne=>(jqd _ _ _ _ (by simp;omega)).trans (k1 hb);have k2:(w'.setCell ⟨B,27,none⟩ v').cell? ⟨B,27,none⟩=some v':=World.cell?_setCell_same' _ _ _ (by rw [k1 (by omega),hv];rfl);refine⟨(h.nx.grown hg (fun b e=>?_)).setCell (by show w.heap.size≤B;omega) _,h.D0,h.DM,h.MB,h.BP,by have:=hg.size;simp;omega,fun j v e=>(k (by omega) (.inl (by omega))).trans (h.dc j v e),fun j v e=>(k (by omega) (.inr (by have:=cells_lt e;omega))).trans (h.bc j v e),
  (k (by omega) (.inl (by omega))).trans h.p,fun j hj=>(k (by omega) (.inr (by omega))).trans (h.e j hj),(k (by omega) (.inr (by omega))).trans h.l,⟨v',k2,ownsRow_setCell_below hown' (by show B<P+1;omega) _⟩,(k (by omega) (.inr (by omega))).trans h.o,
  fun j=>by rw [World.frozen?_setCell,za3 (hg.block B (by omega) (hblk B (by omega)))];exact h.fz j,(h.m.kept hg (hblk M (by omega))).setCell (by show M≠B;omega) _⟩
 by_cases hb:b≤P
 ·exact absurd e.symm (hblk b hb)
 ·omega
end
abbrev Dit.cellsW (d:Dit) (r:zaR) (M:Nat):Array Value:=#[r.h,r.t,num d.begin_,num d.week,num d.from_,num d.long,r.f,r.s,r.l,num d.flow.1,num d.flow.2,num d.loss.1,num d.loss.2,r.p,
 num 0,num 0,num 0,num 0,num 0,num 0,num 0,num 0,num 0,num 0,num 0,num 0,num 0,.slice none 0 0,.map (some M)]
theorem L1.start {w w1:World} {D:Nat} {d:Dit} {r:zaR} (n:Nx w w1) (hD:w.heap.size≤D) (hDl:D<w1.heap.size) (hd:DitSl w d r) (hc:∀ i v,(d.cellsA r)[i]?=some v→w1.cell? ⟨D,i,none⟩=some v) :
  L1 w (((w1.alloc (.map #[] 0)).alloc (.cells (d.cellsW r w1.heap.size) 118)).alloc (.cells #[.pointer (some ⟨w1.heap.size+1,0,none⟩)] 77)) D (w1.heap.size+1) w1.heap.size (w1.heap.size+1+1) d r (zcf d.turns 0) (sumTo d.turns 0) (d.us.take 0):=by
 generalize ho1:Obj.map #[] 0=o1;have s1:(w1.alloc o1).heap.size=w1.heap.size+1:=by simp
 generalize hA:(w1.alloc o1).alloc (.cells (d.cellsW r w1.heap.size) 118)=A;have s2:A.heap.size=w1.heap.size+1+1:=by rw [← hA];simp
 generalize hZ:A.alloc (.cells #[.pointer (some ⟨w1.heap.size+1,0,none⟩)] 77)=Z;have s3:Z.heap.size=w1.heap.size+1+1+1:=by rw [← hZ];simp [s2]
 have nA:Nx w1 A:=by rw [← hA];exact ((Below.refl _ _).alloc (jqa _) _).alloc (by simp) _
 have nZ:Nx w1 Z:=by rw [← hZ];exact nA.alloc (by omega) _
 have cB:∀ i v,(d.cellsW r w1.heap.size)[i]?=some v→Z.cell? ⟨w1.heap.size+1,i,none⟩=some v:=by
  intro i v h;rw [← hZ,zaH (by omega),← hA];have:=zaw (w1.alloc o1) (d.cellsW r w1.heap.size) 118 i v h
  rwa [s1] at this
 have cW:Z.cell? ⟨w1.heap.size+1+1,0,none⟩=some (.pointer (some ⟨w1.heap.size+1,0,none⟩)):=by
  rw [← hZ];have:=zaw A #[.pointer (some ⟨w1.heap.size+1,0,none⟩)] 77 0 _ rfl
  rwa [s2] at this
 refine⟨Nx.trans n nZ,hD,hDl,by omega,by omega,by omega,?_,?_,cW,fun i hi=>?_,cB 26 _ rfl,⟨_,cB 27 _ rfl,World.ownsRow_nil ..⟩,cB 28 _ rfl,fun i=>?_,?_⟩
 ·exact fun i v h=>(nZ.cell (p:=⟨D,i,none⟩) (by exact hDl)).trans (hc i v h)
 ·intro i v h
  ·refine cB i v ?_
   rcases i with _ | _ | _ | _ | _ | _ | _ | _ | _ | _ | _ | _ | _ | _ | i
   all_goals first | exact h | (simp at h)
 ·have:zcf d.turns 0 i=0:=by simp [zcf]
  rw [this];refine cB (14+i) _ ?_;rcases i with _ | _ | _ | _ | _ | _ | _ | _ | _ | _ | _ | _ | i
  all_goals first | rfl | omega
 ·have hz:Z.heap[w1.heap.size+1]?=some (.cells (d.cellsW r w1.heap.size) 118):=by
   rw [← hZ,show (A.alloc (.cells #[.pointer (some ⟨w1.heap.size+1,0,none⟩)] 77)).heap[w1.heap.size+1]?=A.heap[w1.heap.size+1]? from heap_alloc_old A _ (by omega),← hA];have:=heap_alloc_new (w1.alloc o1) (.cells (d.cellsW r w1.heap.size) 118)
   rwa [s1] at this
  unfold World.frozen?;simp [hz]
 ·have h1:(w1.alloc (.map #[] 0)).ownsMap (H:=Unit) Tryd.prog 3 za8 w1.heap.size 0 (.map []):=World.ownsMap_made w1 Tryd.prog 3 za8
  rw [ho1] at h1;rw [← hZ,← hA];exact (h1.alloc _).alloc _
def zhD (l:List Int) (a b:Nat):List Int:=(l.set a ((l[b]?).getD 0)).set b ((l[a]?).getD 0)
def keyC (ks:List Int) (c:Int):List Int:=if c∈ks then ks else c :: ks
def oth2 (us:List Int) (sw:List (Int×Int×Int)) (x:Int):List Int:=sw.foldl (fun l s=>if s.1=x then zhD l s.2.1.toNat s.2.2.toNat else l) us
def oth3 (l:List Int) (lo:List (Int×Int×Int)) (x:Int):List Int:=lo.foldl (fun l s=>if s.1=x then l.set s.2.1.toNat s.2.2 else l) l
def keysOf (ks:List Int) (l:List (Int×Int×Int)):List Int:=l.foldl (fun ks s=>keyC ks s.1) ks
def Dit.oth (d:Dit) (x:Int):List Int:=oth3 (oth2 d.us d.swaps x) d.loans x
def Dit.keys (d:Dit):List Int:=keysOf (keysOf [] d.swaps) d.loans
theorem zlT (l:List Int) (a b:Nat):(zhD l a b).length=l.length:=by simp [zhD]
theorem zd6 (us:List Int) (x:Int):∀ sw,(oth2 us sw x).length=us.length:=by
 intro sw;unfold oth2
 induction sw generalizing us with
 | nil=>rfl
 | cons s sw ih =>
  simp only [List.foldl_cons];rw [ih];split
  ·exact zlT _ _ _
  ·rfl
theorem zfP (x:Int):∀ (lo:List (Int×Int×Int)) (l:List Int),(oth3 l lo x).length=l.length:=by
 intro lo;unfold oth3
 induction lo with
 | nil=>intro l;rfl
 | cons s lo ih =>
  intro l;simp only [List.foldl_cons];rw [ih]
  split<;>simp
theorem ziz {us:List Int} {sw:List (Int×Int×Int)} {k:Nat} {s:Int×Int×Int} (h:sw[k]?=some s) (x:Int):oth2 us (sw.take (k+1)) x=if s.1=x then zhD (oth2 us (sw.take k) x) s.2.1.toNat s.2.2.toNat else oth2 us (sw.take k) x:=by
 unfold oth2;rw [jqf,h];simp
theorem zi7 {l:List Int} {lo:List (Int×Int×Int)} {k:Nat} {s:Int×Int×Int} (h:lo[k]?=some s) (x:Int):oth3 l (lo.take (k+1)) x=if s.1=x then (oth3 l (lo.take k) x).set s.2.1.toNat s.2.2 else oth3 l (lo.take k) x:=by
 unfold oth3;rw [jqf,h];simp
theorem zdu {ks:List Int} {l:List (Int×Int×Int)} {k:Nat} {s:Int×Int×Int} (h:l[k]?=some s):keysOf ks (l.take (k+1))=keyC (keysOf ks (l.take k)) s.1:=by
 unfold keysOf;rw [jqf,h];simp
theorem mem_keyC {ks:List Int} {c x:Int}:x∈keyC ks c↔x=c∨x∈ks:=by
 unfold keyC;split
 ·rename_i h
  constructor
  ·exact .inr
  ·rintro (rfl | h')<;>assumption
 ·simp
theorem mem_keysOf {x:Int}:∀ {l:List (Int×Int×Int)} {ks:List Int},x∈keysOf ks l↔x∈ks∨∃ s∈l,s.1=x
 | [],ks=>by simp [keysOf]
 | s :: l,ks=>by
  have:keysOf ks (s :: l)=keysOf (keyC ks s.1) l:=rfl;rw [this,mem_keysOf,mem_keyC]
  constructor
  ·rintro ((rfl | h) | ⟨t,ht,rfl⟩)
   ·exact .inr ⟨s,List.mem_cons_self ..,rfl⟩
   ·exact .inl h
   ·exact .inr ⟨t,jqh _ ht,rfl⟩
  ·rintro (h | ⟨t,ht,rfl⟩)
   ·exact .inl (.inr h)
   ·rcases List.mem_cons.1 ht with rfl | ht
    ·exact .inl (.inl rfl)
    ·exact .inr ⟨t,ht,rfl⟩
theorem zgm {us:List Int} {x:Int}:∀ {sw:List (Int×Int×Int)},(∀ s∈sw,s.1≠x)→oth2 us sw x=us
 | [],_=>rfl
 | s :: sw,h=>by
  have:oth2 us (s :: sw) x=oth2 (if s.1=x then zhD us s.2.1.toNat s.2.2.toNat else us) sw x:=rfl;rw [this,if_neg (h s (List.mem_cons_self ..))];exact zgm fun t ht=>h t (jqh _ ht)
theorem zik {us:List Int} {x:Int}:∀ {sw:List (Int×Int×Int)},(∀ s∈sw,s.1≠x)→oth3 us sw x=us
 | [],_=>rfl
 | s :: sw,h=>by
  have:oth3 us (s :: sw) x=oth3 (if s.1=x then us.set s.2.1.toNat s.2.2 else us) sw x:=rfl;rw [this,if_neg (h s (List.mem_cons_self ..))];exact zik fun t ht=>h t (jqh _ ht)
theorem MapB.cell {w:World} {base M m:Nat} {keys:List Int} {oth:Int→List Int} {blk:Int→Nat} (h:MapB w base M m keys oth blk) {c:Int} (hc:c∈keys) {i:Nat} {x:Int} (hi:(oth c)[i]?=some x):w.cell? ⟨blk c,i,none⟩=some (num x)∧w.frozen? ⟨blk c,i,none⟩=false:=by
 obtain⟨cap,hrow⟩:=h.row hc;refine⟨?_,?_⟩
 ·obtain⟨cap',hn | ⟨b,off,e,hb,hcs⟩⟩:=zb7 hrow
  ·cases hn.2
  ·simp only [Value.slice.injEq,Option.some.injEq,Addr.mk.injEq] at e
   obtain⟨⟨e1,e2,_⟩,_⟩:=e;rw [e1];have:=hcs i 0 [num x] (num x) (by simp [hi]) rfl;rw [← e2] at this
   simpa using this
 ·obtain⟨_,⟨e,_⟩ | ⟨g,cap',cur,e,_,hg,_⟩⟩:=hrow
  ·cases e
  ·simp only [Value.slice.injEq,Option.some.injEq,Addr.mk.injEq] at e
   rw [e.1.1];unfold World.frozen?;simp [hg]
def znl (w:World) (d:Dit) (e:Ending) (w' : World):Prop:=∃ B M,e=.returned (.tuple #[.pointer (some ⟨B,0,none⟩),num 0])∧Nx w w'∧w.heap.size≤B∧Wtr w' B M d d.ends d.cyc d.keys d.oth
theorem zic (d:Dit) (r:zaR) (w:World) (hd:DitSl w d r) (hs:d.Small) (hg:Glob w) (hok:zaF d=0) :
  CallsIn FL 0 Tryd.prog 43 #[d.val r] w (znl w d):=by
 generalize hW:w.alloc (.cells (d.cellsA r) 31)=W;have n0:Nx w W:=by rw [← hW];exact (Below.refl _ _).alloc (jqa _) _
 have hWs:W.heap.size=w.heap.size+1:=by rw [← hW];simp
 have hcW:∀ i v,(d.cellsA r)[i]?=some v→W.cell? ⟨w.heap.size,i,none⟩=some v:=fun i v h=>by rw [← hW];exact zaw _ _ _ _ _ h
 have cW:∀ w1,Nx W w1→∀ i v,(d.cellsA r)[i]?=some v→w1.cell? ⟨w.heap.size,i,none⟩=some v:=fun w1 n1 i v h=>(n1.cell (p:=⟨w.heap.size,i,none⟩) (by show w.heap.size<_;omega)).trans (hcW i v h);have nWW:Nx W W:=Below.refl _ _;have k41:=zi2 d r W (hd.nx n0) hs (hg.nx n0);rw [hok] at k41;have hO:=zco hok;clear hok;obtain⟨c0,c1,c2,c3,c4,c5,c6,c7,c8,c9,c10,c11,c12,c13⟩:=zaS (cW _ nWW);have hmm:=@run_makeMap Tryd.prog;clear hcW;gi_enter Tryd.func43,Tryd.ntmps43;gi_upto_region 5 with (first | (gi_at_call 60;refine CallsIn.mono k41 ?_;rintro e w1 ⟨rfl,n1⟩;obtain⟨e0,e1,e2,e3,e4,e5,e6,e7,e8,e9,e10,e11,e12,e13⟩:=zaS (cW _ n1)) | gi_in)
 have hL:=L1.start (d:=d) (r:=r) (D:=w.heap.size) (Nx.trans n0 n1) (jqa _) (by have:=n1.size;omega) hd (cW _ n1);clear e0 e1 e2 e3 e4 e5 e6 e7 e8 e9 e10 e11 e12 e13 hmm hW c0 c1 c2 c3 c4 c5 c6 c7 c8 c9 c10 c11 c12 c13;generalize ((w1.alloc (.map #[] 0)).alloc (.cells (d.cellsW r w1.heap.size) 118)).alloc (.cells #[.pointer (some ⟨w1.heap.size+1,0,none⟩)] 77)=W4 at hL ⊢;generalize w1.heap.size+1+1=P at hL ⊢;generalize w1.heap.size+1=B at hL ⊢;generalize w1.heap.size=M at hL ⊢;generalize hDD:w.heap.size=D at hL ⊢;have t1:W4.cell? ⟨D,1,none⟩=some r.t:=hL.dc 1 _ rfl;have ht:=hd.turns;obtain⟨at_,capt,hrt⟩:=ht.cases;rw [jqg] at hrt;rw [hrt] at t1 ht;clear hrt;have hst:=hs.t;clear k41 cW n1 nWW;gi_wp2
 gi_loopw [27] (fun i wr=>∃ k:Nat,k≤d.turns.length∧i=num k∧L1 w wr D B M P d r (zcf d.turns k) (sumTo d.turns k) (d.us.take k)) (fun i _=>d.turns.length-(intOf i).toNat)
 case atStart=>exact⟨0,Nat.zero_le _,rfl,hL⟩
 case round =>
  obtain⟨k,hk,rfl,hI⟩:=hrel;by_cases hlt:k<d.turns.length
  ·obtain⟨b,off,ha,hbl,hcl⟩:=ht.get (by simp;omega)
   subst ha;have hx:d.turns[k]?=some d.turns[k]:=jqb hlt;generalize hxk:d.turns[k]=x at hx;clear hxk;obtain⟨x1,x2⟩:=x;obtain⟨g1,g2⟩:=Sl.at2 hcl hI.nx hbl hx;have HX:=Lib.hid hx;clear hx hcl ht;gi_upto_region 8 with fail
   have hPS:=hI.PS;have hBP:=hI.BP;have cP:(wr.alloc (.cells #[num x1,num x2] 93)).cell? ⟨P,0,none⟩=some (.pointer (some ⟨B,0,none⟩)):=(zaH (by omega)).trans hI.p;have cl:(wr.alloc (.cells #[num x1,num x2] 93)).cell? ⟨B,26,none⟩=_:=(zaH (by omega)).trans hI.l;have ct1:(wr.alloc (.cells #[num x1,num x2] 93)).cell? ⟨wr.heap.size,1,none⟩=some (num x2):=zaw _ _ _ _ _ rfl;have ct0:(wr.alloc (.cells #[num x1,num x2] 93)).cell? ⟨wr.heap.size,0,none⟩=some (num x1):=zaw _ _ _ _ _ rfl;have cf:(wr.alloc (.cells #[num x1,num x2] 93)).frozen? ⟨B,26,none⟩=false:=by rw [za3 (heap_alloc_old wr _ (by show B<_;omega))];exact hI.fz 26
   generalize hW5:wr.alloc (.cells #[num x1,num x2] 93)=W5 at cP cl ct1 ct0 cf ⊢;have hsb:=zd1 (fun x hx=>(hO.th x hx).2) k hk;have hx12:=(hO.th (x1,x2) (List.mem_of_getElem? HX.out)).2;have ht12:=hO.t12;have hsum:Hid (sumTo d.turns (k+1)=sumTo d.turns k+x2):=by
    show _=_;have e:d.turns[k]?=some (x1,x2):=HX.out;simp only [sumTo,e,Option.map_some,Option.getD_some]
   have hI5:=hI.alloc (.cells #[num x1,num x2] 93);rw [hW5] at hI5;have hsz5:wr.heap.size<W5.heap.size:=by rw [← hW5];simp
   clear hW5
   gi_region
   have hI6:=(hI5.store 26 (by omega) (by omega) (sumTo d.turns k+x2)).drew;have c60:((W5.setCell ⟨B,26,none⟩ (.int .i64 (sumTo d.turns k+x2))).drew).cell? ⟨wr.heap.size,0,none⟩=some (num x1):=(jqd _ _ _ _ (by intro e;simp only [Addr.mk.injEq] at e;omega)).trans ct0;have hsz6:wr.heap.size<((W5.setCell ⟨B,26,none⟩ (.int .i64 (sumTo d.turns k+x2))).drew).heap.size:=by simpa using hsz5
   generalize (W5.setCell ⟨B,26,none⟩ (.int .i64 (sumTo d.turns k+x2))).drew=W6 at hI6 c60 hsz6 ⊢;simp only [if_true] at hI6;rw [← hsum.out] at hI6 ⊢
   replace hI6:=hI6.congr (ends':=zcf d.turns k) fun i hi=>by rw [if_neg (by omega)]
   clear cP cl ct1 ct0 cf hI5 hI;obtain⟨hk12,cP,cl,cf,ce⟩:k<12∧_∧_∧_∧_:=⟨by omega,hI6.p,hI6.l,hI6.fz (14+k),hI6.e k (by omega)⟩;gi_upto_region 9 with fail
   gi_region
   have hI7:=(hI6.store (14+k) (by omega) (by omega) (sumTo d.turns (k+1))).drew;have c70:((W6.setCell ⟨B,14+k,none⟩ (.int .i64 (sumTo d.turns (k+1)))).drew).cell? ⟨wr.heap.size,0,none⟩=some (num x1):=(jqd _ _ _ _ (by intro e;simp only [Addr.mk.injEq] at e;omega)).trans c60;have hsz7:wr.heap.size<((W6.setCell ⟨B,14+k,none⟩ (.int .i64 (sumTo d.turns (k+1)))).drew).heap.size:=by simpa using hsz6
   generalize (W6.setCell ⟨B,14+k,none⟩ (.int .i64 (sumTo d.turns (k+1)))).drew=W7 at hI7 c70 hsz7 ⊢;rw [if_neg (by omega)] at hI7
   replace hI7:=hI7.congr (ends':=zcf d.turns (k+1)) fun i hi=>by
    unfold zcf;by_cases hik:i=k
    ·subst hik;simp
    ·by_cases hik2:i<k
     ·rw [if_neg (by omega),if_pos hik2,if_pos (by omega)]
     ·rw [if_neg (by omega),if_neg hik2,if_neg (by omega)]
   clear hI6 c60 hsz6 cP cl cf ce;obtain⟨vu,u1,u2⟩:=hI7.u;have cP:=hI7.p;have cf:=hI7.fz 27;have hPS7:=hI7.PS;obtain⟨v',W8,happ,hown8,hg8,_,hat⟩:=zho (P+1) vu (d.us.take k) [x1] (W7.alloc (.cells #[num x1] 3)).drew (by
     show (W7.alloc (.cells #[num x1] 3)).ownsRow _ _ _ _ _ _;refine u2.kept (jqc W7 _ none) ?_
     cases hob:vu.ownBlock with
     | none=>exact .inl rfl
     | some b=>exact .inr (by simp)) ⟨W7.heap.size,0,none⟩ 1 (by
     intro j x hj
     cases j with
     | zero=>simp at hj;subst hj;exact zaw W7 _ _ _ _ rfl
     | succ j=>simp at hj) (by simp;omega) (by simp;omega)
   have hblk8:∀ b,b≤P→some b≠vu.ownBlock:=by
    intro b hb e;obtain⟨_,⟨rfl,_⟩ | ⟨g,cap,cur,rfl,hg2,_⟩⟩:=u2
    ·cases e
    ·simp only [jqe,Option.some.injEq] at e;omega
   have aP:(W7.alloc (.cells #[num x1] 3)).cell? ⟨P,0,none⟩=some (.pointer (some ⟨B,0,none⟩)):=(zaH (by omega)).trans cP;have a27:(W7.alloc (.cells #[num x1] 3)).cell? ⟨B,27,none⟩=some vu:=(zaH (by omega)).trans u1;have aT:(W7.alloc (.cells #[num x1] 3)).cell? ⟨wr.heap.size,0,none⟩=some (num x1):=(zaH (by omega)).trans c70;have bP:W8.cell? ⟨P,0,none⟩=some (.pointer (some ⟨B,0,none⟩)):=(zbC (hg8.block P (by simp;omega) (hblk8 P (jqa _)))).trans aP;have b27:W8.cell? ⟨B,27,none⟩=some vu:=(zbC (hg8.block B (by simp;omega) (hblk8 B (by omega)))).trans a27;have bf:W8.frozen? ⟨B,27,none⟩=false:=(za3 (hg8.block B (by simp;omega) (hblk8 B (by omega)))).trans ((za3 (heap_alloc_old W7 _ (by show B<_;omega))).trans cf);rw [show ([x1]:List Int).length=1 from rfl] at happ;have hlk:(d.us.take k).length=k:=by unfold Dit.us;simp;omega
   obtain⟨g',cap',rfl⟩:∃ g' cap',v'=.slice (some ⟨g',0,none⟩) (k+1) cap':=by
    obtain⟨_,⟨_,h0⟩ | ⟨g',cap',cur',e,_⟩⟩:=hown8
    ·simp at h0
    ·exact⟨g',cap',by rw [e,hlk];rfl⟩
   clear hlk;simp [go_sem] at happ;gi_upto_region 10 with fail
   gi_region
   have htk:d.us.take (k+1)=d.us.take k++[x1]:=by
    have e:d.turns[k]?=some (x1,x2):=HX.out;unfold Dit.us;rw [jqf,List.getElem?_map,e];rfl
   have hI8:=(hI7.alloc (.cells #[num x1] 3)).usual (v:=vu) (v':=.slice (some ⟨g',0,none⟩) (k+1) cap') (us':=d.us.take (k+1)) (w':=W8) a27 (by
     refine u2.kept (jqc W7 _ none) ?_
     cases hob:vu.ownBlock with
     | none=>exact .inl rfl
     | some b=>exact .inr (by simp)) (by rw [htk,List.length_append];exact hown8) ⟨hg8.os,hg8.tape,hg8.output,hg8.size,hg8.block⟩
   clear happ hown8 hg8 hI7 u1 u2 cP cf aP a27 aT bP b27 bf c70 hsz7 hblk8;gi_wp2;exact⟨⟨k+1,hlt,by simp,hI8⟩,by simp [intOf];omega⟩
  ·obtain rfl:k=d.turns.length:=by omega
   generalize wr=W2 at *;have hx14:=hI.dc 7 _ rfl;rw [show (d.us.take d.turns.length)=d.us by unfold Dit.us;rw [← jqg (f:=(·.1)),List.take_length]] at hI;clear ht t1 hL;have hsw:=hd.swaps;obtain⟨asw,capsw,hrs⟩:=hsw.cases;rw [jqg] at hrs;have d7:W2.cell? ⟨D,7,none⟩=some r.s:=hx14;rw [hrs] at d7 hsw;clear hrs hx14;have hss:=hs.s;have hPS:=hI.PS;have hBP:=hI.BP;have hMB:=hI.MB;have hDM:=hI.DM;have hD0:=hI.D0;obtain⟨vus,u1,u2⟩:=hI.u;have hus12:0<d.us.length∧d.us.length≤12:=by have:=hO.t12;unfold Dit.us;simp;omega
   have hmap0:MapB W2 W2.heap.size M 0 (keysOf [] (d.swaps.take 0)) (oth2 d.us (d.swaps.take 0)) (fun _=>0):=by
    refine⟨by omega,jqa _,⟨.map [],hI.m,fun c hc=>⟨by simp [keysOf,Maps.has_eq],fun h=>by simp [keysOf] at h⟩⟩,fun c h=>by simp [keysOf] at h,fun c h=>by simp [keysOf] at h⟩
   gi_wp2;generalize hbase:W2.heap.size=base at hmap0 hPS;have frz:∀ (wr:World) (q i:Nat) (v:Value),W2.grownBy wr (some M)→q<base→q≠M→W2.cell? ⟨q,i,none⟩=some v→wr.cell? ⟨q,i,none⟩=some v:=fun wr q i v g hq hqM hc=>(zbC (g.block q (by omega) (fun e=>hqM (by cases e;rfl)))).trans hc;have keyC:∀ (wr:World) (m:Nat) (keys:List Int) (oth:Int→List Int) (blk:Int→Nat) (c:Int),W2.grownBy wr (some M)→MapB wr base M m keys oth blk→i64r c→m≤100 →
     CallsIn FL 0 Tryd.prog 61 #[num c,.pointer (some ⟨P,0,none⟩)] wr (zjD wr base M m keys oth d.us c):=by
    intro wr m keys oth blk c g hm hr hmm;refine zmT P B base M m keys oth blk vus d.us c wr hm (by omega) (by omega) (frz _ _ _ _ g (by omega) (by omega) hI.p) (frz _ _ _ _ g (by omega) (by omega) u1) (frz _ _ _ _ g (by omega) (by omega) hI.o) ?_ hus12 hr hmm ⟨by omega,by omega⟩;exact zb7 (u2.kept g (by
     cases hob:vus.ownBlock with
     | none=>exact .inl rfl
     | some b =>
      refine .inr ?_;obtain⟨_,⟨rfl,_⟩ | ⟨g',cap',cur',rfl,hg',_⟩⟩:=u2
      ·cases hob
      ·simp only [jqe,Option.some.injEq] at hob
       simp only [ne_eq,Option.some.injEq];omega))
   gi_loopw [66] (fun i wr=>∃ (k:Nat) (blk:Int→Nat),k≤d.swaps.length∧i=num k∧W2.grownBy wr (some M)∧MapB wr base M k (keysOf [] (d.swaps.take k)) (oth2 d.us (d.swaps.take k)) blk) (fun i _=>d.swaps.length-(intOf i).toNat)
   case atStart=>exact⟨0,_,Nat.zero_le _,rfl,⟨rfl,rfl,rfl,jqa _,fun _ _ _=>rfl⟩,hmap0⟩
   case round =>
    obtain⟨k2,blk,hk2,rfl,hg2,hm2⟩:=hrel;by_cases hlt2:k2<d.swaps.length
    ·obtain⟨b,off,ha,hbl,hcl⟩:=hsw.get (by simp;omega)
     subst ha;have hx:d.swaps[k2]?=some d.swaps[k2]:=jqb hlt2;have hxm:=hO.sw _ (List.getElem_mem hlt2);generalize hxk:d.swaps[k2]=x at hx hxm;clear hxk;obtain⟨x1,x2,x3⟩:=x;have nx2:Nx w wr:=hI.nx.grown hg2 (fun r e=>by cases e;omega);obtain⟨g1,g2,g3⟩:=Sl.at3 hcl nx2 hbl hx;have HX:=Lib.hid hx;clear hx hcl hsw;dsimp only at hxm;obtain⟨hc1,hc2,hc3⟩:=hxm;obtain⟨a,rfl⟩:=jqi hc2.1;obtain⟨b',rfl⟩:=jqi hc3.1;have hlen:=zd6 d.us x1 (d.swaps.take k2);have huslen:d.us.length=d.turns.length:=by unfold Dit.us;simp
     gi_upto_region 16 with fail
     have hbx:=hm2.hb;have hga:W2.grownBy (wr.alloc (.cells #[num x1,num a,num b'] 95)) (some M):=hg2.trans ((jqc wr _ none).but _);have hma:=hm2.kept (jqc wr (.cells #[num x1,num a,num b'] 95) none) (fun r e=>by cases e);have ct0:(wr.alloc (.cells #[num x1,num a,num b'] 95)).cell? ⟨wr.heap.size,0,none⟩=some (num x1):=zaw _ _ _ _ _ rfl;have ct1:(wr.alloc (.cells #[num x1,num a,num b'] 95)).cell? ⟨wr.heap.size,1,none⟩=some (num a):=zaw _ _ _ _ _ rfl;have ct2:(wr.alloc (.cells #[num x1,num a,num b'] 95)).cell? ⟨wr.heap.size,2,none⟩=some (num b'):=zaw _ _ _ _ _ rfl;have hsa:wr.heap.size<(wr.alloc (.cells #[num x1,num a,num b'] 95)).heap.size:=by simp
     have hT:(wr.alloc (.cells #[num x1,num a,num b'] 95)).heap[wr.heap.size]?=some (.cells #[num x1,num a,num b'] 95):=heap_alloc_new wr _;generalize hwx:wr.heap.size=wx at ct0 ct1 ct2 hsa hT hbx ⊢;generalize wr.alloc (.cells #[num x1,num a,num b'] 95)=wa at hga hma ct0 ct1 ct2 hsa hT ⊢;have kc:CallsIn FL 0 Tryd.prog 61 #[num x1,.pointer (some ⟨P,0,none⟩)] wa fun e w1=>∃ (blk' : Int→Nat) (bb cap' : Nat),e=.returned (.slice (some ⟨bb,0,none⟩) d.turns.length cap')∧bb=blk' x1∧MapB w1 base M (k2+1) (keysOf [] (d.swaps.take (k2+1))) (oth2 d.us (d.swaps.take k2)) blk'∧wa.grownBy w1 (some M):=by
      refine (keyC wa k2 _ _ _ x1 hga hma (by show _∧_;omega) (by have:=hO.s8;omega)).mono fun e w1 ⟨keys',oth',blk',cap',h1,h2,h3,h4,h5,h6⟩=>?_;have hoe:oth'=oth2 d.us (d.swaps.take k2):=by
       rw [h6]
       funext x
       split
       ·rename_i hxx
        obtain⟨rfl,hno⟩:=hxx;exact (zgm fun s hs e=>hno (mem_keysOf.2 (.inr ⟨s,hs,e⟩))).symm
       ·rfl
      refine⟨blk',_,cap',?_,rfl,?_,h3⟩
      ·rw [h1,hoe,hlen,huslen]
      ·rw [zdu HX.out,← hoe]
       unfold YtbbanmifdbeneaaDoor.keyC;rw [← h5];exact h2
     clear hm2;obtain⟨ra,hra⟩:∃ v,(oth2 d.us (d.swaps.take k2) x1)[a]?=some v:=⟨_,jqb (by omega)⟩;obtain⟨rb,hrb⟩:∃ v,(oth2 d.us (d.swaps.take k2) x1)[b']?=some v:=⟨_,jqb (by omega)⟩;have hck:x1∈keysOf [] (d.swaps.take (k2+1)):=by rw [zdu HX.out];exact mem_keyC.2 (.inl rfl)
     have kf:∀ (w1:World) (blk' : Int→Nat) (bb:Nat),bb=blk' x1→MapB w1 base M (k2+1) (keysOf [] (d.swaps.take (k2+1))) (oth2 d.us (d.swaps.take k2)) blk'→wa.grownBy w1 (some M) →
       (w1.cell? ⟨bb,a,none⟩=some (num ra)∧w1.frozen? ⟨bb,a,none⟩=false)∧(w1.cell? ⟨bb,b',none⟩=some (num rb)∧w1.frozen? ⟨bb,b',none⟩=false)∧w1.cell? ⟨wx,1,none⟩=some (num a)∧w1.cell? ⟨wx,2,none⟩=some (num b')∧bb≠wx:=by
      rintro w1 blk' bb rfl hm1 hg1;have hTw:w1.heap[wx]?=some (.cells #[num x1,num a,num b'] 95):=(hg1.block wx (by omega) (fun e=>by simp at e;omega)).trans hT;have hcT:∀ i v,#[num x1,num a,num b'][i]?=some v→w1.cell? ⟨wx,i,none⟩=some v:=fun i v h=>by unfold World.cell?;simp only [hTw];exact h
      refine⟨hm1.cell hck hra,hm1.cell hck hrb,hcT 1 _ rfl,hcT 2 _ rfl,fun e=>?_⟩;obtain⟨cap,_,⟨h0,_⟩ | ⟨g,cap',cur,h1,_,h3,_⟩⟩:=hm1.row hck
      ·cases h0
      ·simp only [Value.slice.injEq,Option.some.injEq,Addr.mk.injEq] at h1
       rw [← h1.1.1,e,hTw] at h3;cases h3
     gi_upto_region 17 with (first | (gi_at_call 61;refine CallsIn.mono kc ?_;rintro e w1 ⟨blk',bb,cap',rfl,rfl,hm1,hg1⟩;obtain⟨⟨f1,f2⟩,⟨f3,f4⟩,f5,f6,f7⟩:=kf _ _ _ rfl hm1 hg1) | gi_in)
     have ha12:a<d.turns.length:=by omega
     have hb12:b' < d.turns.length:=by omega
     have fin:∀ (w1:World) (blk' : Int→Nat),MapB w1 base M (k2+1) (keysOf [] (d.swaps.take (k2+1))) (oth2 d.us (d.swaps.take k2)) blk'→wa.grownBy w1 (some M) →
       W2.grownBy ((w1.setCell ⟨blk' x1,a,none⟩ (num rb)).setCell ⟨blk' x1,b',none⟩ (num ra)).drew (some M)∧MapB ((w1.setCell ⟨blk' x1,a,none⟩ (num rb)).setCell ⟨blk' x1,b',none⟩ (num ra)).drew base M (k2+1) (keysOf [] (d.swaps.take (k2+1))) (oth2 d.us (d.swaps.take (k2+1))) blk':=by
      intro w1 blk' hm1 hg1;have hle:=hm1.le hck;have hg:=hga.trans hg1;have h1:=(hm1.set hck (i:=a) (by omega) rb).set hck (i:=b') (by simp;omega) ra;have h2:MapB ((w1.setCell ⟨blk' x1,a,none⟩ (num rb)).setCell ⟨blk' x1,b',none⟩ (num ra)).drew base M (k2+1) _ _ blk':=h1.kept (row:=none) ⟨rfl,rfl,rfl,jqa _,fun _ _ _=>rfl⟩ (fun r e=>by cases e);refine⟨⟨hg.os,hg.tape,hg.output,by simpa using hg.size,fun i hi hne=>?_⟩,?_⟩
      ·exact (heap_setCell_other _ _ i _ (by show i≠blk' x1;omega)).trans ((heap_setCell_other _ _ i _ (by show i≠blk' x1;omega)).trans (hg.block i hi hne))
      ·have he:(fun y=>if y=x1 then ((fun y=>if y=x1 then (oth2 d.us (d.swaps.take k2) x1).set a rb else oth2 d.us (d.swaps.take k2) y) x1).set b' ra else (fun y=>if y=x1 then (oth2 d.us (d.swaps.take k2) x1).set a rb else oth2 d.us (d.swaps.take k2) y) y)=oth2 d.us (d.swaps.take (k2+1)):=by
        funext y
        rw [ziz HX.out];by_cases hy:y=x1
        ·subst hy
         simp [zhD,hra,hrb]
        ·have hy2:¬ x1=y:=fun e=>hy e.symm
         simp [hy,hy2]
       rw [he] at h2;exact h2
     clear kf keyC kc;by_cases hab:a=b'
     ·subst hab
      obtain rfl:rb=ra:=by rw [hrb] at hra;exact Option.some.inj hra
      gi_region
      obtain⟨z1,z2⟩:=fin _ _ hm1 hg1;clear fin;gi_wp2;exact⟨⟨k2+1,blk',hlt2,by simp,z1,z2⟩,by simp [intOf];omega⟩
     ·gi_region
      obtain⟨z1,z2⟩:=fin _ _ hm1 hg1;clear fin;gi_wp2;exact⟨⟨k2+1,blk',hlt2,by simp,z1,z2⟩,by simp [intOf];omega⟩
    ·obtain rfl:k2=d.swaps.length:=by omega
     rw [List.take_length] at hm2;clear hsw d7 hss hmap0;have hlo:=hd.loans;obtain⟨alo,caplo,hrl⟩:=hlo.cases;rw [jqg] at hrl;have d8:wr.cell? ⟨D,8,none⟩=some r.l:=frz _ _ _ _ hg2 (by omega) (by omega) (hI.dc 8 _ rfl);rw [hrl] at d8 hlo;clear hrl;have hsl:=hs.l;gi_wp2;clear d8;have h30:MapB wr base M (d.swaps.length+0) (keysOf (keysOf [] d.swaps) (d.loans.take 0)) (fun x=>oth3 (oth2 d.us d.swaps x) (d.loans.take 0) x) blk:=hm2;clear hm2
     gi_loopw [96] (fun i wx=>∃ (k:Nat) (blk:Int→Nat),k≤d.loans.length∧i=num k∧W2.grownBy wx (some M)∧MapB wx base M (d.swaps.length+k) (keysOf (keysOf [] d.swaps) (d.loans.take k)) (fun x=>oth3 (oth2 d.us d.swaps x) (d.loans.take k) x) blk) (fun i _=>d.loans.length-(intOf i).toNat)
     case atStart=>exact⟨0,_,Nat.zero_le _,rfl,hg2,h30⟩
     case round =>
      obtain⟨k3,blk,hk3,rfl,hg2,hm2⟩:=hrel;clear h30;by_cases hlt2:k3<d.loans.length
      ·obtain⟨b,off,ha,hbl,hcl⟩:=hlo.get (by simp;omega)
       subst ha;have hx:d.loans[k3]?=some d.loans[k3]:=jqb hlt2;have hxm:=hO.lo _ (List.getElem_mem hlt2);generalize hxk:d.loans[k3]=x at hx hxm;clear hxk;obtain⟨x1,x2,x3⟩:=x;have nx2:Nx w wr:=hI.nx.grown hg2 (fun r e=>by cases e;omega);obtain⟨g1,g2,g3⟩:=Sl.at3 hcl nx2 hbl hx;have HX:=Lib.hid hx;clear hx hcl hlo;dsimp only at hxm;obtain⟨hc1,hc2,hc3⟩:=hxm;obtain⟨a,rfl⟩:=jqi hc2.1;have hlen:(oth3 (oth2 d.us d.swaps x1) (d.loans.take k3) x1).length=d.us.length:=by rw [zfP,zd6]
       have huslen:d.us.length=d.turns.length:=by unfold Dit.us;simp
       gi_upto_region 22 with fail
       have hbx:=hm2.hb;have hga:W2.grownBy (wr.alloc (.cells #[num x1,num a,num x3] 97)) (some M):=hg2.trans ((jqc wr _ none).but _);have hma:=hm2.kept (jqc wr (.cells #[num x1,num a,num x3] 97) none) (fun r e=>by cases e);have ct0:(wr.alloc (.cells #[num x1,num a,num x3] 97)).cell? ⟨wr.heap.size,0,none⟩=some (num x1):=zaw _ _ _ _ _ rfl;have ct1:(wr.alloc (.cells #[num x1,num a,num x3] 97)).cell? ⟨wr.heap.size,1,none⟩=some (num a):=zaw _ _ _ _ _ rfl;have ct2:(wr.alloc (.cells #[num x1,num a,num x3] 97)).cell? ⟨wr.heap.size,2,none⟩=some (num x3):=zaw _ _ _ _ _ rfl;have hsa:wr.heap.size<(wr.alloc (.cells #[num x1,num a,num x3] 97)).heap.size:=by simp
       have hT:(wr.alloc (.cells #[num x1,num a,num x3] 97)).heap[wr.heap.size]?=some (.cells #[num x1,num a,num x3] 97):=heap_alloc_new wr _;generalize hwx:wr.heap.size=wx at ct0 ct1 ct2 hsa hT hbx ⊢;generalize wr.alloc (.cells #[num x1,num a,num x3] 97)=wa at hga hma ct0 ct1 ct2 hsa hT ⊢;have hck:x1∈keysOf (keysOf [] d.swaps) (d.loans.take (k3+1)):=by rw [zdu HX.out];exact mem_keyC.2 (.inl rfl)
       obtain⟨ra,hra⟩:∃ v,(oth3 (oth2 d.us d.swaps x1) (d.loans.take k3) x1)[a]?=some v:=⟨_,jqb (by omega)⟩;have kf:∀ (w1:World) (blk' : Int→Nat),MapB w1 base M (d.swaps.length+(k3+1)) (keysOf (keysOf [] d.swaps) (d.loans.take (k3+1))) (fun x=>oth3 (oth2 d.us d.swaps x) (d.loans.take k3) x) blk'→wa.grownBy w1 (some M) →
         (w1.cell? ⟨blk' x1,a,none⟩=some (num ra)∧w1.frozen? ⟨blk' x1,a,none⟩=false)∧w1.cell? ⟨wx,0,none⟩=some (num x1)∧w1.cell? ⟨wx,1,none⟩=some (num a)∧w1.cell? ⟨wx,2,none⟩=some (num x3):=by
        rintro w1 blk' hm1 hg1;have hTw:w1.heap[wx]?=some (.cells #[num x1,num a,num x3] 97):=(hg1.block wx (by omega) (fun e=>by simp at e;omega)).trans hT;have hcT:∀ i v,#[num x1,num a,num x3][i]?=some v→w1.cell? ⟨wx,i,none⟩=some v:=fun i v h=>by unfold World.cell?;simp only [hTw];exact h
        exact⟨hm1.cell hck hra,hcT 0 _ rfl,hcT 1 _ rfl,hcT 2 _ rfl⟩
       have kc:CallsIn FL 0 Tryd.prog 61 #[num x1,.pointer (some ⟨P,0,none⟩)] wa.drew fun e w1=>∃ (blk' : Int→Nat) (cap' : Nat),e=.returned (.slice (some ⟨blk' x1,0,none⟩) d.turns.length cap')∧MapB w1 base M (d.swaps.length+(k3+1)) (keysOf (keysOf [] d.swaps) (d.loans.take (k3+1))) (fun x=>oth3 (oth2 d.us d.swaps x) (d.loans.take k3) x) blk'∧wa.grownBy w1 (some M):=by
        have hgd:W2.grownBy wa.drew (some M):=⟨hga.os,hga.tape,hga.output,hga.size,hga.block⟩;have hmd:MapB wa.drew base M (d.swaps.length+k3) _ _ blk:=hma.kept (row:=none) ⟨rfl,rfl,rfl,jqa _,fun _ _ _=>rfl⟩ (fun r e=>by cases e);refine (keyC wa.drew (d.swaps.length+k3) _ _ _ x1 hgd hmd (by show _∧_;omega) (by have:=hO.s8;have:=hO.l8;omega)).mono fun e w1 ⟨keys',oth',blk',cap',h1,h2,h3,h4,h5,h6⟩=>?_;have hoe:oth'=fun x=>oth3 (oth2 d.us d.swaps x) (d.loans.take k3) x:=by
         rw [h6]
         funext x
         split
         ·rename_i hxx
          obtain⟨rfl,hno⟩:=hxx;rw [zik fun s hs e=>hno (mem_keysOf.2 (.inr ⟨s,hs,e⟩)),zgm fun s hs e=>hno (mem_keysOf.2 (.inl (mem_keysOf.2 (.inr ⟨s,hs,e⟩))))]
         ·rfl
        refine⟨blk',cap',?_,?_,⟨h3.os,h3.tape,h3.output,h3.size,h3.block⟩⟩
        ·rw [h1,hoe,hlen,huslen]
        ·rw [zdu HX.out,← hoe]
         unfold YtbbanmifdbeneaaDoor.keyC;rw [← h5];exact h2
       have fin:∀ (w1:World) (blk' : Int→Nat),MapB w1 base M (d.swaps.length+(k3+1)) (keysOf (keysOf [] d.swaps) (d.loans.take (k3+1))) (fun x=>oth3 (oth2 d.us d.swaps x) (d.loans.take k3) x) blk'→wa.grownBy w1 (some M) →
         W2.grownBy (w1.setCell ⟨blk' x1,a,none⟩ (num x3)) (some M)∧MapB (w1.setCell ⟨blk' x1,a,none⟩ (num x3)) base M (d.swaps.length+(k3+1)) (keysOf (keysOf [] d.swaps) (d.loans.take (k3+1))) (fun x=>oth3 (oth2 d.us d.swaps x) (d.loans.take (k3+1)) x) blk':=by
        intro w1 blk' hm1 hg1;have hle:=hm1.le hck;have hg:=hga.trans hg1;have h1:=hm1.set hck (i:=a) (by omega) x3;refine⟨⟨hg.os,hg.tape,hg.output,by simpa using hg.size,fun i hi hne=>?_⟩,?_⟩
        ·exact (heap_setCell_other _ _ i _ (by show i≠blk' x1;omega)).trans (hg.block i hi hne)
        ·have he:(fun y=>if y=x1 then ((fun x=>oth3 (oth2 d.us d.swaps x) (d.loans.take k3) x) x1).set a x3 else (fun x=>oth3 (oth2 d.us d.swaps x) (d.loans.take k3) x) y)=fun x=>oth3 (oth2 d.us d.swaps x) (d.loans.take (k3+1)) x:=by
          funext y
          rw [zi7 HX.out];by_cases hy:y=x1
          ·subst hy;simp
          ·have hy2:¬ x1=y:=fun e=>hy e.symm
           simp [hy,hy2]
         rw [he] at h1;exact h1
       clear hm2 keyC;have ha12:a<d.turns.length:=by omega
       gi_region_with (first | (gi_at_call 61;refine CallsIn.mono kc ?_;rintro e w1 ⟨blk',cap',rfl,hm1,hg1⟩;obtain⟨⟨f1,f2⟩,f4,f5,f6⟩:=kf _ _ hm1 hg1))
       all_goals (obtain⟨z1,z2⟩:=fin _ _ hm1 hg1)
       all_goals clear fin kc kf
       all_goals (
        gi_wp2;exact⟨⟨k3+1,blk',hlt2,by simp,z1,z2⟩,by simp [intOf];omega⟩)
      ·obtain rfl:k3=d.loans.length:=by omega
       rw [List.take_length] at hm2;have hcP:=frz _ _ _ _ hg2 (by omega) (by omega) hI.p;have HW:Hid (Nx w wr∧Wtr wr B M d d.ends d.cyc d.keys d.oth):=by
        have hsz:W2.heap.size≤wr.heap.size:=hg2.size;have nx:Nx w wr:=hI.nx.grown hg2 (fun r e=>by cases e;omega);refine⟨nx,⟨(hd.nx nx).at (by omega) fun i v h=>by rw [Nat.zero_add];exact frz _ _ _ _ hg2 (by omega) (by omega) (hI.bc i v h),fun i hi=>frz _ _ _ _ hg2 (by omega) (by omega) (hI.e i hi),frz _ _ _ _ hg2 (by omega) (by omega) hI.l⟩,⟨vus,frz _ _ _ _ hg2 (by omega) (by omega) u1,?_⟩,frz _ _ _ _ hg2 (by omega) (by omega) hI.o,hm2.at (by have:=hO.s8;have:=hO.l8;omega)⟩;exact zb7 (l:=d.us) (u2.kept hg2 (by
         cases hob:vus.ownBlock with
         | none=>exact .inl rfl
         | some b =>
          refine .inr ?_;obtain⟨_,⟨rfl,_⟩ | ⟨g',cap',cur',rfl,hg',_⟩⟩:=u2
          ·cases hob
          ·simp only [jqe,Option.some.injEq] at hob
           simp only [ne_eq,Option.some.injEq];omega))
       clear hm2 hg2 hlo u1 u2 keyC frz;gi_wp2;go_ret2;exact⟨B,M,rfl,HW.out.1,by omega,HW.out.2⟩
end Go.Proofs.YtbbanmifdbeneaaDoor
