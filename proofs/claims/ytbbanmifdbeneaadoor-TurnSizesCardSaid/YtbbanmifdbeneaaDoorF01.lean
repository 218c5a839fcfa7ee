import Derived.WalkKit
import Derived.Test.YtbbanmifdbeneaaDoorProg
import Derived.OwnWalkIn
import Derived.TacticsInMore
import Derived.RegionIn
import Derived.LoopNIn
import Derived.LoopIn
import Derived.RecoverIn
import Derived.Sort.BigQuietIn
import Derived.Sort.CutIn
import Derived.Handy
import Derived.Maps.OwnIn
import Derived.Maps.OwnSet
import Derived.Maps.RangeWalk
import Derived.Sort.MapsRangeIn
set_option linter.all false
set_option maxRecDepth 100000
set_option maxHeartbeats 4000000
open Go.RowKit.Below renaming refl → jqa
open Nat renaming le_refl → jqb, lt_of_lt_of_le → jqc
open Go.CallsIn renaming mono → jqd, quiet_of_same → jqg
open List renaming getElem?_eq_getElem → jqe, map_eq_nil_iff → jqf
namespace Go.Proofs.YtbbanmifdbeneaaDoor
open Go.RowKit
theorem zcO {n:Int} (h : -9223372036854775808≤n∧n≤9223372036854775807):wrap64 n=n:=by unfold wrap64;omega
theorem zcg (a b:Int):(a.tdiv b).natAbs≤a.natAbs:=by rw [Int.natAbs_tdiv];exact Nat.div_le_self _ _
theorem zdK {a b:Int} {m n:Nat} (ha:a.natAbs≤m) (hb:b.natAbs≤n):(a * b).natAbs≤m * n:=by rw [Int.natAbs_mul];exact Nat.mul_le_mul ha hb
theorem zeq (a:Int) {b:Int} (hb:0<b) : -b<a.tmod b∧a.tmod b<b:=⟨Int.lt_tmod_of_pos a hb,Int.tmod_lt_of_pos a hb⟩
theorem zio (a b:Int):(if b<a then b else a)=min a b:=by omega
theorem zoF (a b:Int):(if a<b then b else a)=max a b:=by omega
def zb0 (week from_ long hour:Int):Int:=if week=0 then 0 else hour.tdiv week * long+min (max (hour.tmod week-from_) 0) long
theorem zgq {week from_ long hour:Int} (hw:0≤week∧week≤1000) (hf:0≤from_∧from_≤1000) (hl:0≤long∧long≤1000) (hh : -1000000000000≤hour∧hour≤1000000000000) :
  -1000000000000000≤zb0 week from_ long hour∧zb0 week from_ long hour≤1000000000001000:=by
 unfold zb0;split
 ·omega
 ·have h1:=zdK (a:=hour.tdiv week) (b:=long) (m:=1000000000000) (n:=1000) (Nat.le_trans (zcg _ _) (by omega)) (by omega)
  have:=zeq hour (b:=week) (by omega);omega
theorem zmR {week from_ long hour:Int} (h0:¬ week=0) (hw:0≤week∧week≤1000) (hf:0≤from_∧from_≤1000) (hl:0≤long∧long≤1000) (hh : -1000000000000≤hour∧hour≤1000000000000) :
  wrap64 (wrap64 (hour.tdiv week * long)+if long<if wrap64 (hour.tmod week-from_)<0 then 0 else wrap64 (hour.tmod week-from_) then long else if wrap64 (hour.tmod week-from_)<0 then 0 else wrap64 (hour.tmod week-from_))=zb0 week from_ long hour:=by
 have h1:=zdK (a:=hour.tdiv week) (b:=long) (m:=1000000000000) (n:=1000) (Nat.le_trans (zcg _ _) (by omega)) (by omega);have h2:=zeq hour (b:=week) (by omega);unfold zb0;rw [if_neg h0];generalize hour.tdiv week * long=x at h1 ⊢;generalize hour.tmod week=y at h2 ⊢;rw [zcO (n:=x) (by omega),zcO (n:=y-from_) (by omega)];rw [zcO (by split<;>split<;>omega)]
 split<;>split<;>omega
def zcZ (week from_ long a b:Int):Int:=if b≤a then 0 else b-a-zb0 week from_ long b+zb0 week from_ long a
def ranS (week from_ long begin_:Int) (feasts:List (Int×Int)) (hour:Int):Int :=
 feasts.foldl (fun n x=>n-zcZ week from_ long (max begin_ x.1) (min hour (x.2+1))) (zcZ week from_ long begin_ hour)
theorem zl5 {week from_ long a b:Int} (hw:0≤week∧week≤1000) (hf:0≤from_∧from_≤1000) (hl:0≤long∧long≤1000) (ha : -1000000000000≤a∧a≤1000000000000) (hb : -1000000000000≤b∧b≤1000000000000) :
  -4000000000000000≤zcZ week from_ long a b∧zcZ week from_ long a b≤4000000000000000:=by
 have h1:=zgq hw hf hl ha;have h2:=zgq hw hf hl hb;unfold zcZ
 split<;>omega
abbrev LF:List Nat:=[5,11,24,6,23,9,27,13,60,10,16,17,22,30,31,46,47,18,19,20,21,43,40,44,45,33,32,48,50,52,54,59,36,37,38,39,51,53,41,42,61,62,63,65,66,68,71,58,67,72,73,70,75,74,92,93,94,95,96,97,98,99,100,101,102,103,104,105,8,12,14,15,28,29,34,35,55,56,57,69]
abbrev FL:Fence:=Fence.list LF none
abbrev Nx (w w' : World):Prop:=Below w.heap.size w w'
abbrev num (n:Int):Value:=.int .i64 n
theorem zbc (n low high:Int) (w:World):CallsIn FL 0 Tryd.prog 40 #[num n,num low,num high] w fun e w'=>e=.returned (.bool (decide (low≤n∧n≤high)))∧w'=w:=by
 gi_enter Tryd.func40,Tryd.ntmps40;by_cases h:low≤n
 ·gi_wp2
  go_ret;exact⟨by simp;omega,rfl⟩
 ·gi_wp2
  go_ret;exact⟨by simp;omega,rfl⟩
theorem zni (B:Nat) (week from_ long hour:Int) (w:World) (h3:w.cell? ⟨B,3,none⟩=some (num week)) (h4:w.cell? ⟨B,4,none⟩=some (num from_)) (h5:w.cell? ⟨B,5,none⟩=some (num long))
  (hw:0≤week∧week≤1000) (hf:0≤from_∧from_≤1000) (hl:0≤long∧long≤1000) (hh : -1000000000000≤hour∧hour≤1000000000000) :
  CallsIn FL 0 Tryd.prog 73 #[.pointer (some ⟨B,0,none⟩),num hour] w fun e w'=>e=.returned (num (zb0 week from_ long hour))∧∃ m,w'=w.drewN m:=by
 gi_enter Tryd.func73,Tryd.ntmps73;by_cases hz:week=0
 ·subst hz
  gi_wp2;go_ret;exact⟨by simp [zb0],0,rfl⟩
 ·gi_wp2
  gi_big_quiet_th (fail);rw [zmR hz hw hf hl hh];gi_wp2
  all_goals (go_ret;exact⟨rfl,_,rfl⟩)
def Sl (w:World) (v:Value) (sz:Nat) (xs:List (List Value)):Prop :=
 ∃ cap,(xs=[]∧v=.slice none 0 cap)∨∃ b off,v=.slice (some ⟨b,off,none⟩) xs.length cap∧b<w.heap.size ∧
  ∀ (j k:Nat) (l:List Value) (x:Value),xs[j]?=some l→l[k]?=some x→w.cell? ⟨b,off+j * sz+k,none⟩=some x
theorem Sl.nx {w w' : World} {v:Value} {sz:Nat} {xs:List (List Value)} (h:Sl w v sz xs) (n:Nx w w'):Sl w' v sz xs:=by
 obtain⟨cap,h | ⟨b,off,h1,h2,h3⟩⟩:=h
 ·exact⟨cap,.inl h⟩
 ·exact⟨cap,.inr ⟨b,off,h1,jqc h2 n.size,fun j k l x hj hk=>(n.cell (by exact h2)).trans (h3 j k l x hj hk)⟩⟩
theorem Nx.trans {a b c:World} (h:Nx a b) (k:Nx b c):Nx a c:=Below.trans h (k.mono h.size)
theorem len1 {α:Type} {l:List α} {n:Nat} (h:l.length=n+1):∃ a l',l=a :: l'∧l'.length=n:=by
 cases l with
 | nil=>cases h
 | cons a l=>exact⟨a,l,rfl,Nat.succ.inj h⟩
theorem len8 {α:Type} {l:List α} {n:Nat} (h:l.length=n+8):∃ a b c d e f g i l',l=a :: b :: c :: d :: e :: f :: g :: i :: l'∧l'.length=n:=by
 obtain⟨a,l1,rfl,h1⟩:=len1 (n:=n+7) h;obtain⟨b,l2,rfl,h2⟩:=len1 (n:=n+6) h1;obtain⟨c,l3,rfl,h3⟩:=len1 (n:=n+5) h2;obtain⟨d,l4,rfl,h4⟩:=len1 (n:=n+4) h3;obtain⟨e,l5,rfl,h5⟩:=len1 (n:=n+3) h4;obtain⟨f,l6,rfl,h6⟩:=len1 (n:=n+2) h5;obtain⟨g,l7,rfl,h7⟩:=len1 (n:=n+1) h6;obtain⟨i,l8,rfl,h8⟩:=len1 (n:=n) h7;exact⟨_,_,_,_,_,_,_,_,_,rfl,h8⟩
structure Plot where
 name:List UInt8
 holder:Int
 far:Int
 low:Int
 high:Int
 worth:Int
structure Dit where
 holders:List (List UInt8)
 turns:List (Int×Int)
 begin_:Int
 week:Int
 from_:Int
 long:Int
 feasts:List (Int×Int)
 swaps:List (Int×Int×Int)
 loans:List (Int×Int×Int)
 flow:Int×Int
 loss:Int×Int
 plots:List Plot
abbrev str (s:List UInt8):Value:=.string ⟨s.toArray⟩
abbrev two (x:Int×Int):List Value:=[num x.1,num x.2]
abbrev three (x:Int×Int×Int):List Value:=[num x.1,num x.2.1,num x.2.2]
abbrev Plot.cells (p:Plot):List Value:=[str p.name,num p.holder,num p.far,num p.low,num p.high,num p.worth]
def CellsAt (w:World) (b:Nat):Prop:=∃ c e fz,w.heap[b]?=some (.cells c e fz)
theorem CellsAt.lt {w:World} {b:Nat} (h:CellsAt w b):b<w.heap.size:=by
 obtain⟨c,e,fz,h⟩:=h;exact (Array.getElem?_eq_some_iff.1 h).1
theorem CellsAt.nx {w w' : World} {b:Nat} (h:CellsAt w b) (n:Nx w w'):CellsAt w' b:=by
 have hl:=h.lt;obtain⟨c,e,fz,h⟩:=h;exact⟨c,e,fz,(n.block b hl).trans h⟩
def Kind (w:World) (v:Value):Prop:=∀ a n c,v=.slice (some a) n c→CellsAt w a.block
theorem Kind.nx {w w' : World} {v:Value} (h:Kind w v) (n:Nx w w'):Kind w' v:=fun a m c e=>(h a m c e).nx n
theorem Kind.num {w:World} (n:Int):Kind w (num n):=fun a m c e=>by cases e
structure DitAt (w:World) (B o:Nat) (d:Dit):Prop where
 lt:B<w.heap.size
 holders:∃ v,w.cell? ⟨B,o,none⟩=some v∧Sl w v 1 (d.holders.map fun s=>[str s])
 turns:∃ v,w.cell? ⟨B,o+1,none⟩=some v∧Sl w v 2 (d.turns.map two)
 begin_:w.cell? ⟨B,o+2,none⟩=some (num d.begin_)
 week:w.cell? ⟨B,o+3,none⟩=some (num d.week)
 from_:w.cell? ⟨B,o+4,none⟩=some (num d.from_)
 long:w.cell? ⟨B,o+5,none⟩=some (num d.long)
 feasts:∃ v,w.cell? ⟨B,o+6,none⟩=some v∧Sl w v 2 (d.feasts.map two)
 swaps:∃ v,w.cell? ⟨B,o+7,none⟩=some v∧Sl w v 3 (d.swaps.map three)
 loans:∃ v,w.cell? ⟨B,o+8,none⟩=some v∧Sl w v 3 (d.loans.map three)
 flow1:w.cell? ⟨B,o+9,none⟩=some (num d.flow.1)
 flow2:w.cell? ⟨B,o+10,none⟩=some (num d.flow.2)
 loss1:w.cell? ⟨B,o+11,none⟩=some (num d.loss.1)
 loss2:w.cell? ⟨B,o+12,none⟩=some (num d.loss.2)
 plots:∃ v,w.cell? ⟨B,o+13,none⟩=some v∧Sl w v 6 (d.plots.map Plot.cells)
 cap0:∀ a n cap,w.cell? ⟨B,o,none⟩=some (.slice a n cap)→n≤cap
 cap13:∀ a n cap,w.cell? ⟨B,o+13,none⟩=some (.slice a n cap)→n≤cap
 kinds:∀ i v,i<14→w.cell? ⟨B,o+i,none⟩=some v→Kind w v
theorem DitAt.nx {w w' : World} {B o:Nat} {d:Dit} (h:DitAt w B o d) (n:Nx w w'):DitAt w' B o d:=by
 have k:∀ {i:Nat} {v:Value},w.cell? ⟨B,i,none⟩=some v→w'.cell? ⟨B,i,none⟩=some v:=fun h'=>(n.cell (by exact h.lt)).trans h';exact⟨jqc h.lt n.size,h.holders.imp fun _ x=>⟨k x.1,x.2.nx n⟩,h.turns.imp fun _ x=>⟨k x.1,x.2.nx n⟩,k h.begin_,k h.week,k h.from_,k h.long,h.feasts.imp fun _ x=>⟨k x.1,x.2.nx n⟩,h.swaps.imp fun _ x=>⟨k x.1,x.2.nx n⟩,h.loans.imp fun _ x=>⟨k x.1,x.2.nx n⟩,
  k h.flow1,k h.flow2,k h.loss1,k h.loss2,h.plots.imp fun _ x=>⟨k x.1,x.2.nx n⟩,fun a m cap e=>h.cap0 a m cap ((n.cell (by exact h.lt)).symm.trans e),fun a m cap e=>h.cap13 a m cap ((n.cell (by exact h.lt)).symm.trans e),fun i v hi e=>(h.kinds i v hi ((n.cell (by exact h.lt)).symm.trans e)).nx n⟩
structure Dit.Times (d:Dit):Prop where
 begin_:0≤d.begin_∧d.begin_≤999999999
 week:0≤d.week∧d.week≤1000
 from_:0≤d.from_∧d.from_≤1000
 long:0≤d.long∧d.long≤1000
 many:d.feasts.length≤8
 feasts:∀ x∈d.feasts,(0≤x.1∧x.1≤999999999)∧(0≤x.2∧x.2≤999999999)
def Dr (w w' : World):Prop:=∃ m,w'=w.drewN m
theorem Nx.drewN {w w' : World} (h:Nx w w') (m:Nat):Nx w (w'.drewN m):=⟨h.os,h.tape,h.output,h.size,h.block⟩
theorem Dr.nx {w w' w'' : World} (h:Dr w' w'') (n:Nx w w'):Nx w w'':=by obtain⟨m,rfl⟩:=h;exact n.drewN m
theorem Dr.trans {a b c:World} (h:Dr a b) (k:Dr b c):Dr a c:=by obtain⟨m,rfl⟩:=h;obtain⟨n,rfl⟩:=k;exact⟨m+n,by rw [World.drewN_drewN]⟩
theorem zkg (B:Nat) (d:Dit) (a b:Int) (w:World) (hd:DitAt w B 0 d) (ht:d.Times) (ha : -1000000000000≤a∧a≤1000000000000) (hb : -1000000000000≤b∧b≤1000000000000) :
  CallsIn FL 0 Tryd.prog 68 #[.pointer (some ⟨B,0,none⟩),num a,num b] w fun e w'=>e=.returned (num (zcZ d.week d.from_ d.long a b))∧Dr w w':=by
 gi_enter Tryd.func68,Tryd.ntmps68;by_cases hba:b≤a
 ·gi_wp2
  go_ret;exact⟨by simp [zcZ,hba],0,rfl⟩
 ·have key:∀ (h:Int) (w1:World),Dr w w1→-1000000000000≤h∧h≤1000000000000→CallsIn FL 0 Tryd.prog 73 #[.pointer (some ⟨B,0,none⟩),num h] w1 fun e w'=>e=.returned (num (zb0 d.week d.from_ d.long h))∧Dr w w':=by
   rintro h w1 ⟨n,rfl⟩ hh;have h3:=hd.week;have h4:=hd.from_;have h5:=hd.long;simp only [Nat.zero_add] at h3 h4 h5;exact (zni B d.week d.from_ d.long h (w.drewN n) h3 h4 h5 ht.week ht.from_ ht.long hh).mono fun e w' ⟨x,m,y⟩=>⟨x,n+m,by rw [y,World.drewN_drewN]⟩
  clear hd;have n0:Dr w w:=⟨0,rfl⟩
  gi_wp2_with (gi_at_call 73;refine jqd (key _ _ (by assumption) (by assumption)) ?_;rintro e w1 ⟨rfl,n1⟩)
  go_ret;have h1:=zgq ht.week ht.from_ ht.long ha;have h2:=zgq ht.week ht.from_ ht.long hb;refine⟨congrArg (fun n=>Ending.returned (num n)) ?_,by assumption⟩;unfold zcZ;rw [if_neg (by omega),zcO (n:=b-a-_) (by omega),zcO (by omega)]
def Dit.ran (d:Dit) (h:Int):Int:=ranS d.week d.from_ d.long d.begin_ d.feasts h
def Dit.work (d:Dit) (a b:Int):Int:=zcZ d.week d.from_ d.long a b
def Dit.ranTo (d:Dit) (h:Int) (k:Nat):Int:=(d.feasts.take k).foldl (fun n x=>n-d.work (max d.begin_ x.1) (min h (x.2+1))) (d.work d.begin_ h)
theorem Dit.ranTo_zero (d:Dit) (h:Int):d.ranTo h 0=d.work d.begin_ h:=rfl
theorem Dit.ranTo_succ (d:Dit) (h:Int) {k:Nat} {x:Int×Int} (hk:d.feasts[k]?=some x):d.ranTo h (k+1)=d.ranTo h k-d.work (max d.begin_ x.1) (min h (x.2+1)):=by
 unfold Dit.ranTo;rw [List.take_add_one,hk];simp
theorem Dit.ranTo_all (d:Dit) (h:Int):d.ranTo h d.feasts.length=d.ran h:=by
 unfold Dit.ranTo Dit.ran ranS;rw [List.take_length];rfl
theorem Dit.Times.ranTo_bd {d:Dit} (ht:d.Times) {h:Int} (hh : -1000000000000≤h∧h≤1000000000000):∀ k,k≤d.feasts.length→-4000000000000000 * (k+1)≤d.ranTo h k∧d.ranTo h k≤4000000000000000 * (k+1)
 | 0,_=>by
  have:=zl5 ht.week ht.from_ ht.long (a:=d.begin_) (b:=h) (by have:=ht.begin_;omega) hh;rw [Dit.ranTo_zero];unfold Dit.work;omega
 | k+1,hk=>by
  have ih:=ranTo_bd ht hh k (by omega);have hx:d.feasts[k]?=some d.feasts[k]:=jqe (by omega);have hm:=ht.feasts d.feasts[k] (List.getElem_mem _);have:=zl5 ht.week ht.from_ ht.long (a:=max d.begin_ d.feasts[k].1) (b:=min h (d.feasts[k].2+1)) (by have:=ht.begin_;omega) (by omega);rw [d.ranTo_succ h hx];unfold Dit.work at *;omega
theorem zmA (B:Nat) (d:Dit) (h:Int) (w:World) (hd:DitAt w B 0 d) (ht:d.Times) (hh : -1000000000000≤h∧h≤1000000000000) :
  CallsIn FL 0 Tryd.prog 54 #[.pointer (some ⟨B,0,none⟩),num h] w fun e w'=>e=.returned (num (d.ran h))∧Nx w w':=by
 have key:∀ (a b:Int) (w1:World),Nx w w1→-1000000000000≤a∧a≤1000000000000→-1000000000000≤b∧b≤1000000000000→CallsIn FL 0 Tryd.prog 68 #[.pointer (some ⟨B,0,none⟩),num a,num b] w1 fun e w'=>e=.returned (num (d.work a b))∧Nx w w' :=
  fun a b w1 n1 ha hb=>(zkg B d a b w1 (hd.nx n1) ht ha hb).mono fun e w' ⟨x,y⟩=>⟨x,y.nx n1⟩
 have hb0:=ht.begin_;have hb1 : -1000000000000≤d.begin_∧d.begin_≤1000000000000:=by omega
 have c2:=hd.begin_;obtain⟨v,c6,cap,⟨hn,rfl⟩ | ⟨b,off,rfl,hbl,hc⟩⟩:=hd.feasts
 all_goals (
  simp only [Nat.zero_add] at c2 c6;have n0:Nx w w:=jqa _ _;have c2' : ∀ w1,Nx w w1→w1.cell? ⟨B,2,none⟩=some (num d.begin_):=fun w1 n1=>(n1.cell (by exact hd.lt)).trans c2;have c6':=fun (w1:World) (n1:Nx w w1)=>(n1.cell (p:=⟨B,6,none⟩) (by exact hd.lt)).trans c6)
 ·gi_enter Tryd.func54,Tryd.ntmps54
  gi_wp2_with (gi_at_call 68;refine jqd (key _ _ _ (by assumption) (by assumption) (by assumption)) ?_;rintro e w1 ⟨rfl,n1⟩;have e2:=c2' _ n1;have e6:=c6' _ n1)
  gi_loopw [5,24] (fun n i wr=>i=num 0∧n=num (d.work d.begin_ h)∧Nx w wr) (fun _ _ _=>0)
  case atStart=>exact⟨rfl,rfl,by assumption⟩
  case round =>
   obtain⟨rfl,rfl,n2⟩:=hrel;gi_wp2;go_ret;have hf:d.feasts=[]:=jqf.1 hn;refine⟨congrArg (fun n=>Ending.returned (num n)) ?_,by assumption⟩;rw [← d.ranTo_all,hf];rfl
 ·gi_enter Tryd.func54,Tryd.ntmps54
  gi_wp2_with (gi_at_call 68;refine jqd (key _ _ _ (by assumption) (by assumption) (by assumption)) ?_;rintro e w1 ⟨rfl,n1⟩;have e2:=c2' _ n1;have e6:=c6' _ n1)
  simp only [List.length_map] at *
  gi_loopw [5,24] (fun n i wr=>∃ k:Nat,k≤d.feasts.length∧i=num k∧n=num (d.ranTo h k)∧Nx w wr) (fun _ i _=>d.feasts.length-(intOf i).toNat)
  case atStart=>exact⟨0,Nat.zero_le _,rfl,rfl,by assumption⟩
  case round =>
   obtain⟨k,hk,rfl,rfl,n2⟩:=hrel;have f2:=c2' _ n2;have f6:=c6' _ n2;clear e2 e6;have g1:∀ hlt:k<d.feasts.length,wr.cell? ⟨b,off+k * 2,none⟩=some (num d.feasts[k].1):=fun hlt=>(n2.cell (by exact hbl)).trans (hc k 0 (two d.feasts[k]) _ (by simp [hlt]) rfl);have g2:∀ hlt:k<d.feasts.length,wr.cell? ⟨b,off+k * 2+1,none⟩=some (num d.feasts[k].2):=fun hlt=>(n2.cell (by exact hbl)).trans (hc k 1 (two d.feasts[k]) _ (by simp [hlt]) rfl);by_cases hlt:k<d.feasts.length
   ·replace g1:=g1 hlt
    replace g2:=g2 hlt
    have hmany:=ht.many;have hx:=ht.feasts d.feasts[k] (List.getElem_mem _);generalize hxk:d.feasts[k]=x at g1 g2 hx;obtain⟨x1,x2⟩:=x;dsimp only at g1 g2 hx;have keyq:∀ (a b:Int) (n:Nat) (o:Obj),-1000000000000≤a∧a≤1000000000000→-1000000000000≤b∧b≤1000000000000 →
      CallsIn FL 0 Tryd.prog 68 #[.pointer (some ⟨B,0,none⟩),num a,num b] ((wr.alloc o).drewN n) fun e w''=>e=.returned (num (d.work a b))∧∃ m,w''=(wr.alloc o).drewN m :=
     fun a b n o ha hb=>CallsIn.quiet_of (zkg B d a b _ (hd.nx (Nx.drewN (n2.alloc (by exact n2.size) o) n)) ht ha hb)
    have nA:∀ o,Nx w (wr.alloc o):=fun o=>n2.alloc (by exact n2.size) o;have q2:=fun o=>c2' _ (nA o);clear key c2' c6' hd hc nA;gi_upto_region 5 with fail
    gi_big_quiet_th (first | (gi_at_call 68;refine keyq _ _ _ _ ?_ ?_<;>omega));simp only [zoF,zio];have hxk' : d.feasts[k]?=some (x1,x2):=by rw [jqe hlt,hxk]
    have hs:=d.ranTo_succ h hxk';have hbd:=ht.ranTo_bd hh (k+1) hlt;dsimp only at hs;rw [zcO (by rw [← hs];omega),← hs];gi_wp2
    go_roundw
    case rel=>exact⟨k+1,hlt,by simp,rfl,Nx.drewN (n2.alloc (by exact n2.size) _) _⟩
    case measure=>simp [intOf];omega
   ·gi_wp2
    go_ret;obtain rfl:k=d.feasts.length:=by omega
    refine⟨congrArg (fun n=>Ending.returned (num n)) ?_,by assumption⟩;rw [← d.ranTo_all]
def zcV (ends:Nat→Int) (k:Nat):Int:=if k=0 then 0 else ends (k-1)
def zaD (ends:Nat→Int) (l:List Int) (holder hours:Int):Nat→Int
 | 0=>0
 | k+1=>zaD ends l holder hours k+if l[k]?=some holder then max 0 (min hours (ends k)-zcV ends k) else 0
theorem zbA {ends:Nat→Int} {l:List Int} {holder hours:Int} (he:∀ i,i<12→0≤ends i∧ends i≤1200):∀ k,k≤12→0≤zaD ends l holder hours k∧zaD ends l holder hours k≤1200 * k
 | 0,_=>by simp [zaD]
 | k+1,hk=>by
  have ih:=zbA (l:=l) (holder:=holder) (hours:=hours) he k (by omega);have h1:=he k (by omega);have h2:0≤zcV ends k:=by
   unfold zcV;split
   ·omega
   ·exact (he (k-1) (by omega)).1
  unfold zaD
  split<;>omega
theorem zoj (B:Nat) (ends:Nat→Int) (v:Value) (l:List Int) (holder hours:Int) (w:World) (hB:B<w.heap.size) (hc:∀ i,i<12→w.cell? ⟨B,14+i,none⟩=some (num (ends i))) (he:∀ i,i<12→0≤ends i∧ends i≤1200)
  (hv:Sl w v 1 (l.map fun x=>[num x])) (hl:l.length≤12) (hh : -1200≤hours∧hours≤1200) :
  CallsIn FL 0 Tryd.prog 67 #[.pointer (some ⟨B,0,none⟩),v,num holder,num hours] w fun e w'=>e=.returned (num (zaD ends l holder hours l.length))∧w'=w:=by
 obtain⟨cap,⟨hn,rfl⟩ | ⟨b,off,rfl,hbl,hcl⟩⟩:=hv
 ·gi_enter Tryd.func67,Tryd.ntmps67
  gi_wp2
  gi_loopw [9,10,15] (fun n f i wr=>i=num 0∧n=num 0∧wr=w) (fun _ _ _ _=>0)
  case atStart=>exact⟨rfl,rfl,rfl⟩
  case round =>
   obtain⟨rfl,rfl,rfl⟩:=hrel;gi_wp2;go_ret;have hf:l=[]:=jqf.1 hn;exact⟨by rw [hf];rfl,rfl⟩
 ·rw [List.length_map] at *
  gi_enter Tryd.func67,Tryd.ntmps67;gi_wp2
  gi_loopw [9,10,15] (fun n f i wr=>∃ k:Nat,k≤l.length∧i=num k∧n=num (zaD ends l holder hours k)∧f=num (zcV ends k)∧wr=w) (fun _ _ i _=>l.length-(intOf i).toNat)
  case atStart=>exact⟨0,Nat.zero_le _,rfl,rfl,rfl,rfl⟩
  case round =>
   obtain⟨k,hk,rfl,rfl,rfl,rfl⟩:=hrel;by_cases hlt:k<l.length
   ·have g1:wr.cell? ⟨b,off+k,none⟩=some (num l[k]):=by
     have:=hcl k 0 [num l[k]] _ (by simp [hlt]) rfl
     rwa [Nat.mul_one] at this
    have g2:=hc k (by omega);have e1:=he k (by omega);have e2:=zbA (l:=l) (holder:=holder) (hours:=hours) he k (by omega);have e3:0≤zcV ends k∧zcV ends k≤1200:=by
     unfold zcV;split
     ·omega
     ·exact he (k-1) (by omega)
    have hx:l[k]?=some l[k]:=jqe hlt;have hs:zcV ends (k+1)=ends k:=by simp [zcV]
    generalize hxk:l[k]=x at g1 hx;by_cases hxh:x=holder
    ·have hp:zaD ends l holder hours (k+1)=zaD ends l holder hours k+max 0 (min hours (ends k)-zcV ends k):=by
      show _+_=_;rw [hx,if_pos (by rw [hxh])]
     subst hxh;clear hcl hc he;gi_wp2;refine⟨⟨k+1,hlt,by simp,?_,by rw [hs],trivial⟩,by simp [intOf];omega⟩;rw [hp];refine congrArg (Value.int IntKind.i64) ?_;rw [zio]
     split<;>omega
    ·have hp:zaD ends l holder hours (k+1)=zaD ends l holder hours k:=by
      show _+_=_;rw [hx,if_neg (by simpa using hxh),Int.add_zero]
     clear hcl hc he;gi_wp2;exact⟨⟨k+1,hlt,by simp,by rw [hp],by rw [hs],trivial⟩,by simp [intOf];omega⟩
   ·gi_wp2
    go_ret;obtain rfl:k=l.length:=by omega
    exact⟨rfl,rfl⟩
def zei (ends:Nat→Int) (r:Int):Nat→Nat→Nat
 | 0,t=>t
 | n+1,t=>if r≥ends t then zei ends r n (t+1) else t
structure WatAt (w:World) (B:Nat) (d:Dit) (ends:Nat→Int) (long:Int):Prop where
 dit:DitAt w B 0 d
 ends:∀ i,i<12→w.cell? ⟨B,14+i,none⟩=some (num (ends i))
 long:w.cell? ⟨B,26,none⟩=some (num long)
theorem WatAt.nx {w w' : World} {B:Nat} {d:Dit} {ends:Nat→Int} {long:Int} (h:WatAt w B d ends long) (n:Nx w w'):WatAt w' B d ends long :=
 ⟨h.dit.nx n,fun i hi=>(n.cell (by exact h.dit.lt)).trans (h.ends i hi),(n.cell (by exact h.dit.lt)).trans h.long⟩
structure Cyc (d:Dit) (ends:Nat→Int) (long:Int):Prop where
 few:1≤d.turns.length∧d.turns.length≤12
 bd:∀ i,i<12→0≤ends i∧ends i≤1200
 size:1≤long∧long≤1200
 last:ends (d.turns.length-1)=long
def Dit.at (d:Dit) (ends:Nat→Int) (long h:Int):Int×Int :=
 if h<0∨d.ran h=d.ran (h+1) then (-1,-1) else ((d.ran h).tdiv long,zei ends ((d.ran h).tmod long) 12 0)
theorem zo9 (tmps:Array Value) (W:World) (b:Nat) (x y:Int) (hp:tmps.getD 4 undef=.pointer (some ⟨b,0,none⟩)) (h0:W.cell? ⟨b,0,none⟩=some (num x)) (h1:W.cell? ⟨b,1,none⟩=some (num y)) :
  (results Tryd.f44 tmps).run Tryd.prog W=.ok (.agg #[num x,num y]) W:=by
 have hp' : tmps[4]?.getD undef=.pointer (some ⟨b,0,none⟩):=by simpa using hp
 simp [results,Tryd.results44,go_sem,hp',h0,h1]
theorem set2 (W:World) (b:Nat) (x y u v:Int) (h0:W.cell? ⟨b,0,none⟩=some (num u)) (h1:W.cell? ⟨b,1,none⟩=some (num v)) :
  ((W.setCell ⟨b,0,none⟩ (num x)).setCell ⟨b,1,none⟩ (num y)).cell? ⟨b,0,none⟩=some (num x)∧((W.setCell ⟨b,0,none⟩ (num x)).setCell ⟨b,1,none⟩ (num y)).cell? ⟨b,1,none⟩=some (num y):=by
 refine⟨(World.cell?_setCell_other _ _ _ _ (by simp)).trans (World.cell?_setCell_same _ _ _ h0),World.cell?_setCell_same _ _ _ ((World.cell?_setCell_other _ _ _ _ (by simp)).trans h1)⟩
theorem zpS (B:Nat) (d:Dit) (ends:Nat→Int) (long h:Int) (w:World) (hd:WatAt w B d ends long) (ht:d.Times) (hy:Cyc d ends long) (hg0:w.cell? ⟨0,0,none⟩=some (num (-1))) (hg1:w.cell? ⟨0,1,none⟩=some (num (-1))) (hgs:0<w.heap.size) (hh : -1000000000≤h∧h≤100000000000) :
  CallsIn FL 0 Tryd.prog 44 #[.pointer (some ⟨B,0,none⟩),num h] w fun e w'=>e=.returned (.agg #[num (d.at ends long h).1,num (d.at ends long h).2])∧Nx w w':=by
 generalize hW:w.alloc (Obj.cells #[Value.int IntKind.i64 0,Value.int IntKind.i64 0] 102)=W;have nW:Nx w W:=by rw [← hW];exact (jqa _ _).alloc (jqb _) _
 have hdW:=hd.nx nW;have sW:W.heap.size=w.heap.size+1:=by rw [← hW];simp
 have hz:W.heap[w.heap.size]?=some (Obj.cells #[Value.int IntKind.i64 0,Value.int IntKind.i64 0] 102):=by rw [← hW];exact heap_alloc_new w _
 have key:∀ (a:Int) (w1:World),Nx W w1→-1000000000000≤a∧a≤1000000000000→CallsIn FL 0 Tryd.prog 54 #[.pointer (some ⟨B,0,none⟩),num a] w1 fun e w'=>e=.returned (num (d.ran a))∧Nx W w' :=
  fun a w1 n1 ha=>(zmA B d a w1 (hdW.dit.nx n1) ht ha).mono fun e w' ⟨x,y⟩=>⟨x,Nx.trans n1 y⟩
 have cells:∀ w1,Nx W w1→w1.cell? ⟨0,0,none⟩=some (num (-1))∧w1.cell? ⟨0,1,none⟩=some (num (-1))∧w1.cell? ⟨B,26,none⟩=some (num long) ∧
   w1.cell? ⟨w.heap.size,0,none⟩=some (num 0)∧w1.cell? ⟨w.heap.size,1,none⟩=some (num 0)∧w1.frozen? ⟨w.heap.size,0,none⟩=false∧w1.frozen? ⟨w.heap.size,1,none⟩=false:=by
  intro w1 n1;have hb:w.heap.size<W.heap.size:=by omega
  refine⟨(n1.cell (by show 0<_;omega)).trans ((nW.cell (by exact hgs)).trans hg0),(n1.cell (by show 0<_;omega)).trans ((nW.cell (by exact hgs)).trans hg1),(n1.cell (by exact hdW.dit.lt)).trans hdW.long,
   (n1.cell (by exact hb)).trans ?_,(n1.cell (by exact hb)).trans ?_,(n1.frozen (by exact hb)).trans ?_,(n1.frozen (by exact hb)).trans ?_⟩<;>simp [World.cell?,World.frozen?,hz]
 have nW0:Nx W W:=jqa _ _;by_cases hneg:h<0
 ·gi_enter Tryd.func44,Tryd.ntmps44
  obtain⟨c1,c2,c3,c4,c5,c6,c7⟩:=cells W nW0;clear key;gi_upto_region 1 with fail
  gi_wp2;obtain⟨r1,r2⟩:=set2 W w.heap.size (-1) (-1) 0 0 c4 c5;refine bodyPost_ret (zo9 _ _ w.heap.size (-1) (-1) rfl r1 r2) rfl ?_;exact⟨by simp [Dit.at,hneg],(nW.setCell (by exact jqb _) _).setCell (by exact jqb _) _⟩
 ·gi_enter Tryd.func44,Tryd.ntmps44
  gi_upto_region 1 with fail
  by_cases heq:d.ran h=d.ran (h+1)
  ·gi_wp2_with (gi_at_call 54;refine jqd (key _ _ (by assumption) (by omega)) ?_;rintro e w1 ⟨rfl,n1⟩;obtain⟨c1,c2,c3,c4,c5,c6,c7⟩:=cells _ n1)
   obtain⟨r1,r2⟩:=set2 w1 w.heap.size (-1) (-1) 0 0 c4 c5;refine bodyPost_ret (zo9 _ _ w.heap.size (-1) (-1) rfl r1 r2) rfl ?_;exact⟨by simp [Dit.at,heq],((Nx.trans nW n1).setCell (by exact jqb _) _).setCell (by exact jqb _) _⟩
  ·gi_wp2_with (gi_at_call 54;refine jqd (key _ _ (by assumption) (by omega)) ?_;rintro e w1 ⟨rfl,n1⟩;obtain⟨c1,c2,c3,c4,c5,c6,c7⟩:=cells _ n1)
   gi_loopw [6] (fun t wr=>∃ k:Nat,t=num k∧Nx W wr∧k<d.turns.length∧zei ends ((d.ran h).tmod long) (12-k) k=zei ends ((d.ran h).tmod long) 12 0) (fun t _=>12-(intOf t).toNat)
   case atStart=>exact⟨0,rfl,by assumption,by have:=hy.few;omega,rfl⟩
   case round =>
    obtain⟨k,rfl,n2,hk,hkt⟩:=hrel;have f:=hy.few;have g1:=(hdW.nx n2).ends k (by omega);obtain⟨c1,c2,c3,c4,c5,c6,c7⟩:=cells _ n2;have hsz:=hy.size;have hr:=(zeq (d.ran h) (b:=long) (by omega)).2;have hbd:=ht.ranTo_bd (h:=h) (by omega) d.feasts.length (jqb _);rw [d.ranTo_all] at hbd;have hm:=ht.many;have hn12:12-k=(12-(k+1))+1:=by omega
    rw [hn12] at hkt;have hl:¬ long=0:=by omega
    have hlb:(long == 0)=false:=by simpa using hl
    have hq:=zcg (d.ran h) long;clear key cells;by_cases hge:(d.ran h).tmod long≥ends k
    ·have hkl:k+1<d.turns.length:=by
      rcases Nat.lt_or_ge (k+1) d.turns.length with hx | hx
      ·exact hx
      ·have:k=d.turns.length-1:=by omega
       rw [this,hy.last] at hge;omega
     rw [zei,if_pos hge] at hkt;gi_upto_region 5 with fail
     gi_big_quiet_th (fail);gi_wp2;exact⟨⟨k+1,by simp,Nx.drewN n2 _,hkl,hkt⟩,by simp [intOf];omega⟩
    ·rw [zei,if_neg hge] at hkt
     have hkk:Hid (k=zei ends ((d.ran h).tmod long) 12 0):=hkt;clear hkt;gi_upto_region 5 with fail
     gi_big_quiet_th (fail);gi_wp2;obtain⟨r1,r2⟩:=set2 (wr.drewN nq) w.heap.size ((d.ran h).tdiv long) k 0 0 c4 c5;refine bodyPost_ret (zo9 _ _ w.heap.size ((d.ran h).tdiv long) k rfl r1 r2) rfl ?_;refine⟨?_,((Nx.drewN (Nx.trans nW n2) _).setCell (by exact jqb _) _).setCell (by exact jqb _) _⟩;have hkk' : k=zei ends ((d.ran h).tmod long) 12 0:=hkk;have:d.at ends long h=((d.ran h).tdiv long,(k:Int)):=by
      unfold Dit.at;rw [if_neg (by omega),← hkk']
     rw [this]
def za8:Value→Option (DataW Unit×List MemPlace)
 | .slice (some ⟨b,0,none⟩) n cap=>some (.agg [.lit (.int .i64 b),.lit (.int .i64 n),.lit (.int .i64 cap)],[])
 | .slice none 0 0=>some (.nil,[])
 | _=>none
theorem zcX {v:Value} {b n cap:Nat} {ps:List MemPlace} (h:za8 v=some (.agg [.lit (.int .i64 b),.lit (.int .i64 n),.lit (.int .i64 cap)],ps)):v=.slice (some ⟨b,0,none⟩) n cap:=by
 unfold za8 at h
 split at h
 ·simp at h
  obtain⟨⟨h1,h2,h3⟩,_⟩:=h;rw [Int.ofNat_inj.1 h1,Int.ofNat_inj.1 h2,Int.ofNat_inj.1 h3]
 ·simp at h
 ·cases h
theorem zgO:Maps.Keyed Tryd.prog 3:=Maps.int_keyed Tryd.underlying3
theorem zjU {c:Int} (h : -9223372036854775808≤c∧c≤9223372036854775807):keyOf Tryd.prog 3 (num c)=some (.int .i64 c):=Maps.keyOf_int_mk Tryd.underlying3 (by simp [Lit.wf,IntKind.min,IntKind.max,IntKind.bits,IntKind.signed];omega)
structure MapAt (w:World) (M:Nat) (keys:List Int) (oth:Int→List Int):Prop where
 lt:M<w.heap.size
 own:∃ (D:DataW Unit) (n:Nat),n≤100∧w.ownsMap Tryd.prog 3 za8 M n D∧∀ c,-9223372036854775808≤c∧c≤9223372036854775807→Maps.has D (.int .i64 c)=decide (c∈keys) ∧
  (c∈keys→∃ b cap:Nat,(∀ z,D.atKey (.int .i64 c) z=.agg [.lit (.int .i64 b),.lit (.int .i64 (oth c).length),.lit (.int .i64 cap)])∧b<w.heap.size∧∀ j x,(oth c)[j]?=some x→w.cell? ⟨b,j,none⟩=some (num x))
theorem MapAt.nx {w w' : World} {M:Nat} {keys:List Int} {oth:Int→List Int} (h:MapAt w M keys oth) (n:Nx w w'):MapAt w' M keys oth:=by
 obtain⟨D,k,hk,⟨es,clock,hb,F,hs,hD⟩,hc⟩:=h.own;refine⟨jqc h.lt n.size,D,k,hk,⟨es,clock,(n.block M h.lt).trans hb,F,hs,hD⟩,fun c hr=>⟨(hc c hr).1,fun hm=>?_⟩⟩;obtain⟨b,cap,h1,h2,h3⟩:=(hc c hr).2 hm;exact⟨b,cap,h1,jqc h2 n.size,fun j x hj=>(n.cell (by exact h2)).trans (h3 j x hj)⟩
theorem zoz (w:World):(zeroValue 48).run Tryd.prog w=.ok (.slice none 0 0) w:=by
 have e:Tryd.t48.zero=some (.slice none 0 0):=by kernel_rfl
 simp [zeroValue,go_sem,e]
theorem MapAt.look {w:World} {M:Nat} {keys:List Int} {oth:Int→List Int} (h:MapAt w M keys oth) {c:Int} (hr : -9223372036854775808≤c∧c≤9223372036854775807) :
  ∃ v,(Instr.lookup 116 (.map (some M)) (num c) true).run Tryd.prog w=.ok (.tuple #[v,.bool (decide (c∈keys))]) w ∧
   (c∈keys→∃ b cap,v=.slice (some ⟨b,0,none⟩) (oth c).length cap∧b<w.heap.size∧∀ j x,(oth c)[j]?=some x→w.cell? ⟨b,j,none⟩=some (num x)):=by
 obtain⟨D,n,_,hown,hc⟩:=h.own;obtain⟨v,ps,hrun,hR⟩:=hown.look_ok zgO (t:=116) (e:=48) Tryd.underlying116 (z:=.slice none 0 0) (zoz w) (zd:=.nil) (zp:=[]) rfl (zjU hr);refine⟨v,by rw [hrun,(hc c hr).1],fun hm=>?_⟩;obtain⟨b,cap,h1,h2,h3⟩:=(hc c hr).2 hm;rw [h1] at hR;exact⟨b,cap,zcX hR,h2,h3⟩
def whoS (usual:List Int) (keys:List Int) (oth:Int→List Int) (c t:Int):Int :=
 if c=-1∧t=-1 then -1 else ((if c∈keys then oth c else usual)[t.toNat]?).getD 0
theorem zo2 (B M:Nat) (v:Value) (usual keys:List Int) (oth:Int→List Int) (c t:Int) (w:World) (hB:B<w.heap.size) (hg0:w.cell? ⟨0,0,none⟩=some (num (-1))) (hg1:w.cell? ⟨0,1,none⟩=some (num (-1))) (hgs:0<w.heap.size)
  (h27:w.cell? ⟨B,27,none⟩=some v) (hv:Sl w v 1 (usual.map fun x=>[num x])) (h28:w.cell? ⟨B,28,none⟩=some (.map (some M))) (hM:MapAt w M keys oth) (hlen:∀ c∈keys,(oth c).length=usual.length)
  (hc : -9223372036854775808≤c∧c≤9223372036854775807) (hct:(c=-1∧t=-1)∨(0≤t∧t<usual.length)) (hk : -1∉keys) :
  CallsIn FL 0 Tryd.prog 45 #[.pointer (some ⟨B,0,none⟩),.agg #[num c,num t]] w fun e w'=>e=.returned (num (whoS usual keys oth c t))∧Nx w w':=by
 generalize hW:w.alloc (Obj.cells #[num c,num t] 102)=W;have nW:Nx w W:=by rw [← hW];exact (jqa _ _).alloc (jqb _) _
 have hz:W.heap[w.heap.size]?=some (Obj.cells #[num c,num t] 102):=by rw [← hW];exact heap_alloc_new w _
 have k0:W.cell? ⟨w.heap.size,0,none⟩=some (num c):=by simp [World.cell?,hz]
 have k1:W.cell? ⟨w.heap.size,1,none⟩=some (num t):=by simp [World.cell?,hz]
 have a0:=(nW.cell (p:=⟨0,0,none⟩) (by exact hgs)).trans hg0;have a1:=(nW.cell (p:=⟨0,1,none⟩) (by exact hgs)).trans hg1;have a2:=(nW.cell (p:=⟨B,27,none⟩) (by exact hB)).trans h27;have a3:=(nW.cell (p:=⟨B,28,none⟩) (by exact hB)).trans h28;obtain⟨u,hl,hin⟩:=(hM.nx (w':=W.drew) (Below.drew nW)).look hc;have hvW:=hv.nx nW;clear hM hv h27 h28 hg0 hg1;gi_enter Tryd.func45,Tryd.ntmps45;gi_upto_region 1 with fail
 gi_region
 have nd:Nx w W.drew:=Below.drew nW;by_cases hno:c=-1∧t=-1
 ·obtain⟨rfl,rfl⟩:=hno
  clear hin hvW;gi_wp2;go_ret;exact⟨by simp [whoS],nd⟩
 ·have htb:0≤t∧t<usual.length:=hct.resolve_left hno
  obtain⟨n,rfl⟩:=Int.eq_ofNat_of_zero_le htb.1;have hnl:n<usual.length:=by omega
  have hne:¬ ((n:Int)=-1):=by omega
  by_cases hck:c∈keys
  ·obtain⟨b,cap,rfl,hb,hcs⟩:=hin hck
   have hlo:=hlen c hck;have hx:(oth c)[n]?=some (oth c)[n]:=jqe (by omega);have hcell:=hcs n _ hx;simp only [World.cell?_drew] at hcell;have hnn:n<(oth c).length:=by omega
   clear hin hcs hvW hlen;have hcm:¬ c=-1:=fun h=>hk (h ▸ hck);have hr:whoS usual keys oth c n=(oth c)[n]:=by simp [whoS,hck,hcm,hx]
   generalize hxx:(oth c)[n]=x at hcell hr;gi_wp2;go_ret;exact⟨by rw [hr];rfl,nd⟩
  ·obtain⟨cap,⟨hn,_⟩ | ⟨b,off,rfl,hb,hcs⟩⟩:=hvW
   ·rw [jqf.1 hn] at hnl
    exact absurd hnl (Nat.not_lt_zero _)
   ·rw [List.length_map] at *
    have hx:usual[n]?=some usual[n]:=jqe hnl;have hcell:=hcs n 0 [num usual[n]] _ (by simp [hnl]) rfl;rw [Nat.mul_one,Nat.add_zero] at hcell;clear hin hcs hlen;have hr:whoS usual keys oth c n=usual[n]:=by simp [whoS,hck,hx,hne]
    generalize hxx:usual[n]=x at hcell hr;gi_wp2;gi_upto_region 6 with fail
    gi_big_quiet_th (fail);gi_wp2;go_ret;exact⟨by rw [hr];rfl,Nx.drewN nd _⟩
def sumS (f:Int→Int):List Int→Int
 | []=>0
 | x :: l=>f x+sumS f l
theorem zhp (f:Int→Int) {c:Int}:∀ {l:List Int},c∈l→sumS f l=f c+sumS f (l.erase c)
 | x :: l,h=>by
  by_cases hx:x=c
  ·subst hx;simp [sumS]
  ·have hm:c∈l:=by simpa [Ne.symm hx] using h
   have ih:=zhp f hm;have he:(x :: l).erase c=x :: l.erase c:=by simp [hx]
   rw [he];simp only [sumS];omega
theorem zf5 {f:Int→Int} {m:Nat} (hf:∀ x,(f x).natAbs≤m):∀ l:List Int,(sumS f l).natAbs≤m * l.length
 | []=>by simp [sumS]
 | x :: l=>by
  have:=zf5 hf l;have h1:=hf x;simp only [sumS,List.length_cons,Nat.mul_add,Nat.mul_one];omega
def addS (ends:Nat→Int) (long:Int) (usual:List Int) (oth:Int→List Int) (holder hours:Int) (c:Int):Int :=
 if min long (hours-c * long) > 0 then zaD ends (oth c) holder (min long (hours-c * long)) usual.length-zaD ends usual holder (min long (hours-c * long)) usual.length else 0
def hadS (ends:Nat→Int) (long:Int) (usual:List Int) (keys:List Int) (oth:Int→List Int) (holder hours:Int):Int :=
 hours.tdiv long * zaD ends usual holder long usual.length+zaD ends usual holder (hours.tmod long) usual.length+sumS (addS ends long usual oth holder hours) keys
structure Wtr (w:World) (B M:Nat) (d:Dit) (ends:Nat→Int) (long:Int) (keys:List Int) (oth:Int→List Int):Prop where
 wat:WatAt w B d ends long
 usual:∃ v,w.cell? ⟨B,27,none⟩=some v∧Sl w v 1 ((d.turns.map (·.1)).map fun x=>[num x])
 others:w.cell? ⟨B,28,none⟩=some (.map (some M))
 map:MapAt w M keys oth
theorem Wtr.nx {w w' : World} {B M:Nat} {d:Dit} {ends:Nat→Int} {long:Int} {keys:List Int} {oth:Int→List Int} (h:Wtr w B M d ends long keys oth) (n:Nx w w'):Wtr w' B M d ends long keys oth:=by
 obtain⟨v,h1,h2⟩:=h.usual;exact⟨h.wat.nx n,⟨v,(n.cell (by exact h.wat.dit.lt)).trans h1,h2.nx n⟩,(n.cell (by exact h.wat.dit.lt)).trans h.others,h.map.nx n⟩
structure Chg (d:Dit) (keys:List Int) (oth:Int→List Int):Prop where
 nodup:keys.Nodup
 few:keys.length≤16
 bd:∀ c∈keys,0≤c∧c≤999999999
 len:∀ c∈keys,(oth c).length=d.turns.length
theorem zku {w:World} {b cap:Nat} {l:List Int} (hb:b<w.heap.size) (h:∀ j x,l[j]?=some x→w.cell? ⟨b,j,none⟩=some (num x)):Sl w (.slice (some ⟨b,0,none⟩) l.length cap) 1 (l.map fun x=>[num x]):=by
 refine⟨cap,.inr ⟨b,0,by simp,hb,fun j k l1 x hj hk=>?_⟩⟩;rw [List.getElem?_map] at hj
 cases hl:l[j]? with
 | none=>rw [hl] at hj;cases hj
 | some y =>
  rw [hl] at hj;simp only [Option.map_some,Option.some.injEq] at hj;subst hj
  cases k with
  | zero=>simp at hk;subst hk;have:=h j y hl;simpa using this
  | succ k=>simp at hk
theorem zmr {ends:Nat→Int} {long:Int} {usual:List Int} {oth:Int→List Int} {holder hours:Int} (he:∀ i,i<12→0≤ends i∧ends i≤1200) (hu:usual.length≤12) (c:Int):(addS ends long usual oth holder hours c).natAbs≤14400:=by
 have h1:=zbA (l:=oth c) (holder:=holder) (hours:=min long (hours-c * long)) he usual.length hu;have h2:=zbA (l:=usual) (holder:=holder) (hours:=min long (hours-c * long)) he usual.length hu;unfold addS
 split<;>omega
theorem zoU (B M:Nat) (d:Dit) (ends:Nat→Int) (long:Int) (keys:List Int) (oth:Int→List Int) (holder hours:Int) (w:World) (hw:Wtr w B M d ends long keys oth) (hy:Cyc d ends long) (hg:Chg d keys oth) (hh : -100000000000000≤hours∧hours≤100000000000000) :
  CallsIn FL 0 Tryd.prog 53 #[.pointer (some ⟨B,0,none⟩),num holder,num hours] w fun e w'=>e=.returned (num (hadS ends long (d.turns.map (·.1)) keys oth holder hours))∧Nx w w':=by
 generalize hus:d.turns.map (·.1)=us;have hgl:∀ c∈keys,(oth c).length=us.length:=fun c hc=>by rw [hg.len c hc,← hus];simp
 have hu12:us.length≤12:=by rw [← hus];simpa using hy.few.2
 have hsz:=hy.size;have hr:=zeq hours (b:=long) (by omega);have hq:=zcg hours long;have hl0:¬ long=0:=by omega
 have hlb:(long == 0)=false:=by simpa using hl0
 have keyv:∀ (w1:World) (v:Value) (l:List Int) (k:Int),Nx w w1→Sl w1 v 1 (l.map fun x=>[num x])→l.length=us.length→-1200≤k∧k≤1200 →
   CallsIn FL 0 Tryd.prog 67 #[.pointer (some ⟨B,0,none⟩),v,num holder,num k] w1 fun e w'=>e=.returned (num (zaD ends l holder k us.length))∧w'=w1:=by
  intro w1 v l k n1 hv hl hk;have h1:=(hw.nx n1).wat;have:=zoj B ends v l holder k w1 h1.dit.lt h1.ends hy.bd hv (by omega) hk;rw [hl] at this;exact this
 obtain⟨v,c27,hv⟩:=hw.usual;rw [hus] at hv;have c28:=hw.others;have c26:=hw.wat.long;have n0:Nx w w:=jqa _ _;have key1:∀ (k:Int) (n:Nat),-1200≤k∧k≤1200→CallsIn FL 0 Tryd.prog 67 #[.pointer (some ⟨B,0,none⟩),v,num holder,num k] (w.drewN n) fun e w''=>e=.returned (num (zaD ends us holder k us.length))∧∃ m,w''=w.drewN m :=
  fun k n hk=>jqg (keyv _ v us k (Nx.drewN n0 n) (hv.nx (Nx.drewN n0 n)) rfl hk)
 have p1:=zbA (l:=us) (holder:=holder) (hours:=long) hy.bd us.length (by omega);have p2:=zbA (l:=us) (holder:=holder) (hours:=hours.tmod long) hy.bd us.length (by omega);have hpr:(hours.tdiv long * zaD ends us holder long us.length).natAbs≤100000000000000 * 14400:=zdK (by omega) (by omega);gi_enter Tryd.func53,Tryd.ntmps53;gi_upto_region 1 with fail
 gi_big_quiet_th (first | (gi_at_call 67;refine key1 _ _ ?_<;>omega));generalize hbase:hours.tdiv long * zaD ends us holder long us.length+zaD ends us holder (hours.tmod long) us.length=base;have hbb : -1440000000000014400≤base∧base≤1440000000000014400:=by omega
 obtain⟨D,nn,hnn,hown,hkeys⟩:=hw.map.own;have hML:=hw.map.lt;have n1:Nx w (w.drewN nq):=Nx.drewN n0 nq;have c28' : (w.drewN nq).cell? ⟨B,28,none⟩=some (.map (some M)):=c28;have sz1:(w.drewN nq).heap.size=w.heap.size:=rfl;generalize w.drewN nq=wa at n1 c28' sz1 ⊢;have hownA:wa.ownsMap Tryd.prog 3 za8 M nn D:=by
  obtain⟨es,clock,hb,x⟩:=hown;exact⟨es,clock,(n1.block M hML).trans hb,x⟩
 clear key1 c27 hv c26 c28 hpr p1 p2
 gi_wp2_with (first
  | (gi_at_range;refine wpListIn_range_own _ rfl _ 116 rfl 3 48 zgO Tryd.underlying116 _ M nn _ rfl hownA ?_;intro w0 hrg0 hg0 hs0)
  | gi_in)
 have hab:=zmr (ends:=ends) (long:=long) (usual:=us) (oth:=oth) (holder:=holder) (hours:=hours) hy.bd hu12;generalize hf:addS ends long us oth holder hours=f at hab;have n2:Nx w w0:=n1.grown hg0 (by omega) (fun j hj=>by cases hj);clear hownA c28' hs0 sz1
 go_frame
 gi_loopw [7] (fun n wr=>∃ (left:Lit→Bool) (cnt:Nat) (rs:List Int),wr.ranges Tryd.prog 3 za8 M wa.heap.size nn D left cnt∧rs.Nodup∧rs.length≤16∧(∀ c,-9223372036854775808≤c∧c≤9223372036854775807→left (.int .i64 c)=decide (c∈rs)) ∧
   (∀ c∈rs,c∈keys)∧n=num (base+sumS f keys-sumS f rs)∧Nx w wr) (fun _ wr=>wr.rangeLeft M wa.heap.size)
 case atStart=>exact⟨_,_,keys,hrg0,hg.nodup,hg.few,fun c hc=>(hkeys c hc).1,fun _ h=>h,by rw [show base+sumS f keys-sumS f keys=base by omega],n2⟩
 case round =>
  obtain⟨left,cnt,rs,hrg,hnd,hrl,hleft,hsub,rfl,n3⟩:=hrel
  gi_wp2_with (first
   | (gi_at_next;refine wpListIn_next_ranges _ rfl _ rfl 3 zgO za8 num id (fun key kl hk=>by obtain⟨x,hx,_⟩:=Maps.keyOf_int_inv Tryd.underlying3 hk;exact⟨x,hx⟩) (fun v y _=>⟨v,rfl⟩) M wa.heap.size nn _ _ _ rfl hrg ?_ ?_)
   | gi_in)
  ·intro hc0 hl0
   have hnil:rs=[]:=by
    cases rs with
    | nil=>rfl
    | cons c rs =>
     have hc:=hg.bd c (hsub c (List.mem_cons_self ..));have:=hleft c (by omega);rw [hl0] at this;simp at this
   subst hnil;gi_wp2;go_ret;refine⟨congrArg (fun n=>Ending.returned (num n)) ?_,n3⟩;unfold hadS;rw [hf,hbase];simp [sumS]
  ·intro x c kl yd yp w2 cnt2 hkey hlk hv hat hrg2 hlt hg2 hs2 hen
   obtain⟨x',ex,rfl,hwf⟩:=Maps.keyOf_int_inv Tryd.underlying3 hkey;obtain rfl:x=x':=by simpa using ex
   have hxr : -9223372036854775808≤x∧x≤9223372036854775807:=by
    simp [Lit.wf,IntKind.min,IntKind.max,IntKind.bits,IntKind.signed] at hwf;omega
   have hxm:x∈rs:=by have:=hleft x hxr;rw [hlk] at this;simpa using this.symm
   have hxk:=hsub x hxm;have hxb:=hg.bd x hxk;obtain⟨b,cap,hD,hb,hcs⟩:=(hkeys x hxr).2 hxk;have hyd:=(hat .nil).symm.trans (hD .nil);have hc:c=.slice (some ⟨b,0,none⟩) (oth x).length cap:=zcX (ps:=yp) (by rw [hv,hyd]);have n4:Nx w w2:=n3.grown hg2 n3.size (fun j hj=>by cases hj;exact n1.size);have hsl:Sl w2 c 1 ((oth x).map fun x=>[num x]):=by
    rw [hc];exact zku (jqc hb n4.size) fun j y hj=>(n4.cell (by exact hb)).trans (hcs j y hj)
   have hfx:f x=addS ends long us oth holder hours x:=by rw [hf]
   have hsum:=zhp f hxm;have hsb:=zf5 hab keys;have hsb2:=zf5 hab rs;have hfew:=hg.few;have hax:=hab x;have hle:=hgl x hxk;have r26:=(n4.cell (p:=⟨B,26,none⟩) (by exact hw.wat.dit.lt)).trans hw.wat.long;have hrgm:∀ m,(w2.drewN m).ranges Tryd.prog 3 za8 M wa.heap.size nn D (fun z=>left z && !z.sameKey (.int .i64 x)) cnt2:=fun m=>hrg2;have rel:∀ m,∃ (left' : Lit→Bool) (cnt' : Nat) (rs' : List Int),(w2.drewN m).ranges Tryd.prog 3 za8 M wa.heap.size nn D left' cnt'∧rs'.Nodup∧rs'.length≤16∧(∀ c,-9223372036854775808≤c∧c≤9223372036854775807→left' (.int .i64 c)=decide (c∈rs')) ∧
     (∀ c∈rs',c∈keys)∧num (base+sumS f keys-sumS f rs+f x)=num (base+sumS f keys-sumS f rs')∧Nx w (w2.drewN m):=by
    intro m;refine⟨_,cnt2,rs.erase x,hrgm m,hnd.erase x,Nat.le_trans (List.length_erase_le ..) hrl,fun c hc=>?_,fun c hc=>hsub c (List.mem_of_mem_erase hc),by rw [hsum];congr 1;omega,Nx.drewN n4 m⟩;rw [hleft c hc];by_cases hcx:c=x
    ·subst hcx
     simp [Lit.sameKey,hnd.mem_erase_iff]
    ·simp [Lit.sameKey,hnd.mem_erase_iff,hcx]
   have meas:∀ m,(w2.drewN m).rangeLeft M wa.heap.size<wr.rangeLeft M wa.heap.size:=by
    intro m;rw [hrg.left_eq,show (w2.drewN m).rangeLeft M wa.heap.size=cnt2 from (hrgm m).left_eq];exact hlt
   clear hrgm hkeys hD hat hcs hrg2 hrg hg2 hs2 hleft hrg0 hg0;have hslr:Sl w2 (.slice (some ⟨b,0,none⟩) us.length cap) 1 ((oth x).map fun x=>[num x]):=by rw [hc,hle] at hsl;exact hsl
   obtain⟨v',c27',hvW⟩:=(hw.nx n4).usual;rw [hus] at hvW;have keyq:∀ (u:Value) (l:List Int) (n:Nat) (k:Int),Sl w2 u 1 (l.map fun x=>[num x])→l.length=us.length→-1200≤k∧k≤1200 →
     CallsIn FL 0 Tryd.prog 67 #[.pointer (some ⟨B,0,none⟩),u,num holder,num k] (w2.drewN n) fun e w''=>e=.returned (num (zaD ends l holder k us.length))∧∃ m,w''=w2.drewN m :=
    fun u l n k hu hl hk=>jqg (keyv _ u l k (Nx.drewN n4 n) (hu.nx (Nx.drewN (jqa _ _) n)) hl hk)
   have q1:=fun k=>zbA (l:=oth x) (holder:=holder) (hours:=k) hy.bd us.length hu12;have q2:=fun k=>zbA (l:=us) (holder:=holder) (hours:=k) hy.bd us.length hu12;have hxl:0≤x * long∧x * long≤1199999998800:=by
    have h1:=zdK (a:=x) (b:=long) (m:=999999999) (n:=1200) (by omega) (by omega);have h2:0≤x * long:=Int.mul_nonneg (by omega) (by omega);omega
   clear hsl hsum;have hsb3 : -230400≤sumS f rs∧sumS f rs≤230400:=by omega
   have hsb4 : -230400≤sumS f keys∧sumS f keys≤230400:=by omega
   clear hsb hsb2;clear hkey hlk hv hyd hwf hxm hsub hnd hrl hbase hf hus;gi_upto_region 5 with fail
   gi_big_quiet_th (fail);simp only [zio];have hkb:min long (hours-x * long)≤1200:=by omega
   unfold addS at hfx;generalize min long (hours-x * long)=km at hkb hfx ⊢;have q1:=q1 km;have q2:=q2 km;by_cases hk:km > 0
   ·rw [if_pos hk] at hfx
    have n5:Nx w (w2.drewN nq):=Nx.drewN n4 nq;have s1:=hslr.nx (Nx.drewN (jqa _ _) nq);have s2:=hvW.nx (Nx.drewN (jqa _ _) nq);have c27'' : (w2.drewN nq).cell? ⟨B,27,none⟩=some v':=c27';have rel2:=fun m=>rel (nq+m);have meas2:=fun m=>meas (nq+m);simp only [← World.drewN_drewN] at rel2 meas2;clear rel meas keyq hslr hvW c27' r26 n4;generalize w2.drewN nq=w3 at n5 s1 s2 c27'' rel2 meas2 ⊢;have keyr:∀ (u:Value) (l:List Int) (n:Nat) (k:Int),Sl w3 u 1 (l.map fun x=>[num x])→l.length=us.length→-1200≤k∧k≤1200 →
      CallsIn FL 0 Tryd.prog 67 #[.pointer (some ⟨B,0,none⟩),u,num holder,num k] (w3.drewN n) fun e w''=>e=.returned (num (zaD ends l holder k us.length))∧∃ m,w''=w3.drewN m :=
     fun u l n k hu hl hk=>jqg (keyv _ u l k (Nx.drewN n5 n) (hu.nx (Nx.drewN (jqa _ _) n)) hl hk)
    have hkc : -1200≤km∧km≤1200:=by omega
    have keyA:=fun n=>keyr _ _ n km s1 hle hkc;have keyB:=fun n=>keyr _ _ n km s2 rfl hkc;clear hgl keyr keyv;gi_upto_region 7 with fail
    gi_big_quiet_th (first | with_reducible exact keyA _ | with_reducible exact keyB _);rw [← hfx];clear hfx;gi_wp2;exact⟨rel2 nq,meas2 nq⟩
   ·rw [if_neg hk] at hfx
    gi_wp2;exact⟨by have:=rel nq;rw [hfx,Int.add_zero] at this;exact this,meas nq⟩
end Go.Proofs.YtbbanmifdbeneaaDoor
