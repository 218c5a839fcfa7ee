import Derived.Test.YtolholkjeehamaaDoorE44
import Derived.Test.YtolholkjeehamaaDoorE40
import Derived.Test.YtolholkjeehamaaDoorD36
import Derived.Test.YtolholkjeehamaaDoorD38
import Derived.Test.YtolholkjeehamaaDoorD34
import Derived.Test.YtolholkjeehamaaDoorD09
import Derived.Test.YtolholkjeehamaaDoorProg
import Derived.Test.YtolholkjeehamaaDoorChecked
import Derived.Test.YtolholkjeehamaaDoorTie
import Derived.Test.YtolholkjeehamaaDoorCards
import Derived.WalkKit
import Derived.OwnWalkIn
import Derived.TacticsInMore
import Derived.RegionIn
import Derived.LoopNIn
import Derived.LoopIn
import Derived.RecoverIn
import Derived.Sort.BigQuietIn
import Derived.Sort.CutIn
import Derived.Handy
import Derived.Maps.OwnIn
import Derived.Maps.OwnSet
import Derived.Maps.RangeWalk
import Derived.Sort.MapsRangeIn
import Derived.Laws.IdiomStrings
import Derived.Lib.Hide
import Derived.Maps.AppendAt
import Derived.Lib.SliceRun
import Derived.RangeFuncNested
import Derived.RangeFuncBound
import Derived.RangeFuncCalls
import Derived.RangeFuncLeaves
import Derived.Shelf.Abstract
import Derived.Shelf.RegionOpen
import Derived.Stop.RegionWithIn
import Derived.Sort.QuietThIn
import Derived.StillTail
import Derived.Conc.SmallLaws
import Derived.Laws.MakeOwn
import Derived.Laws.EntriesVeiled
import Derived.ProofKit
import Derived.LaidMore
import Derived.OpenShut
import Derived.Stop.Joined
import Derived.Conc.LeavingOf
import Derived.SevenTiedAt
import Derived.Carry
import Derived.Orders
import Derived.Deep.Upon
set_option linter.all false
set_option maxRecDepth 100000
set_option maxHeartbeats 4000000
open Go renaming undef → zu
namespace Go.Proofs.YtolholkjeehamaaDoor
open Go.RowKit Go.Con Go.Conc
local instance zl_1:Lone:=zcG
section
variable {dst:Option Nat} {ty:TypeId} {pos:String} {af:Array Edge} {x y c:Nat} {w:World} {gd:Option (Nat×Bool)} (e:Operand→Value)
end
theorem zgU {d:Dit} {n:Nat} (h:zbG d n=false):d.Small:=by
 unfold zbG at h
 simp only [Bool.or_eq_false_iff,decide_eq_false_iff_not] at h
 obtain⟨⟨⟨⟨⟨⟨⟨h1,h2⟩,h3⟩,h4⟩,h5⟩,h6⟩,h7⟩,h8⟩:=h
 have mem:∀ (l:List Nat) (x:Nat),x∈l→x≤sumL l:=by
  intro l
  induction l with
  | nil=>intro x hx;cases hx
  | cons y l ih =>
   intro x hx
   simp only [sumL]
   rcases List.mem_cons.1 hx with rfl | hx
   ·omega
   ·have:=ih x hx;omega
 refine⟨by omega,by omega,by omega,by omega,by omega,by omega,fun s hs=>?_,fun p hp=>?_⟩
 ·have:=mem _ _ (List.mem_map.2 ⟨s,hs,rfl⟩:s.length∈d.holders.map (·.length))
  omega
 ·have:=mem _ _ (List.mem_map.2 ⟨p,hp,rfl⟩:p.name.length∈d.plots.map (·.name.length))
  omega
end Go.Proofs.YtolholkjeehamaaDoor

namespace Go.Proofs.YtolholkjeehamaaDoor
open Go.RowKit Go.Con Go.Conc
local instance zl_2:Lone:=zcG
section
variable {dst:Option Nat} {ty:TypeId} {pos:String} {af:Array Edge} {x y c b o:Nat} {w:World} {gd:Option (Nat×Bool)} (e:Operand→Value)
theorem yb3 {n m:Int} (h:e (.tmp x)=num n) (h2:e (.tmp y)=num m) (hn:n≤m) (τ:Tape):(execOp e ⟨dst,.binOp .leq 3 (.tmp x) (.tmp y) 3,ty,pos,af,gd⟩).run Tryd.prog { w with tape:=τ }=.ok (.value (.bool true)) { w with tape:=τ }:=by
 simp [execOp,go_sem,h,h2,hn]
theorem ycx {n m:Int} (h:e (.tmp x)=num n) (h2:e (.tmp y)=num m) (hn:m≤n) (τ:Tape):(execOp e ⟨dst,.binOp .geq 3 (.tmp x) (.tmp y) 3,ty,pos,af,gd⟩).run Tryd.prog { w with tape:=τ }=.ok (.value (.bool true)) { w with tape:=τ }:=by
 simp [execOp,go_sem,h,h2,hn]
theorem ycy {n m:Int} (h:e (.tmp x)=num n) (h2:e (.tmp y)=num m) (hn:n=m) (τ:Tape):(execOp e ⟨dst,.binOp .eql 3 (.tmp x) (.tmp y) 3,ty,pos,af,gd⟩).run Tryd.prog { w with tape:=τ }=.ok (.value (.bool true)) { w with tape:=τ }:=by
 simp [execOp,go_sem,h,h2,hn]
end
end Go.Proofs.YtolholkjeehamaaDoor

namespace Go.Proofs.YtolholkjeehamaaDoor
def ycb (loss x:Int):Int:=x-(x * loss).tdiv 1000
theorem ydb {loss x:Int} (hl:0≤loss∧loss≤1000) (hx:0≤x∧x≤100000):0≤ycb loss x∧ycb loss x≤x:=(zgP hl hx).2
theorem yci {l m x y:Int} (hl:0≤l∧l≤m∧m≤1000) (hx:0≤x∧x≤y∧y≤100000):ycb m x≤ycb l y:=by
 unfold ycb
 have h0:0≤x * m:=Int.mul_nonneg hx.1 (by omega)
 have h1:0≤y * l:=Int.mul_nonneg (by omega) hl.1
 rw [Int.tdiv_eq_ediv_of_nonneg h0,Int.tdiv_eq_ediv_of_nonneg h1]
 have h2:x * l≤x * m:=Int.mul_le_mul_of_nonneg_left hl.2.1 hx.1
 have h3:(y-x) * l≤(y-x) * 1000:=Int.mul_le_mul_of_nonneg_left (by omega) (by omega)
 rw [Int.sub_mul,Int.sub_mul] at h3
 omega
theorem ya1 (loss:Int):∀ (n:Nat) (x:Int),zbw loss (n+1) x=ycb loss (zbw loss n x)
 | 0,x=>rfl
 | n+1,x=>ya1 loss n (x-(x * loss).tdiv 1000)
end Go.Proofs.YtolholkjeehamaaDoor

namespace Go.Proofs.YtolholkjeehamaaDoor
open Go.RowKit
theorem ycj (a b n:Int) (w:World) (hab : -1000000000≤a∧a≤b∧b≤1000000000) (hn:0≤n∧n≤1000000) :
  CallsIn FL 0 Tryd.prog 28 #[.agg #[num a,num b],num n] w fun e w'=>e=.returned (num (a+n % (b-a+1)))∧Nx w w':=by
 generalize hW:w.alloc (.cells #[.int .i64 a,.int .i64 b] 28)=W
 have nW:Nx w W:=by rw [← hW];exact (Below.refl _ _).alloc (Nat.le_refl _) _
 have c0:W.cell? ⟨w.heap.size,0,none⟩=some (num a):=by rw [← hW];exact zaw _ _ _ _ _ rfl
 have c1:W.cell? ⟨w.heap.size,1,none⟩=some (num b):=by rw [← hW];exact zaw _ _ _ _ _ rfl
 have hm:0≤n % (b-a+1)∧n % (b-a+1)<b-a+1:=⟨Int.emod_nonneg _ (by omega),Int.emod_lt_of_pos _ (by omega)⟩
 have hz:b-a+1≠0:=by omega
 have hne:(b-a+1 == 0)=false:=by simpa using hz
 have h1 : -9223372036854775808≤b-a∧b-a≤9223372036854775807:=by omega
 have h2 : -9223372036854775808≤b-a+1∧b-a+1≤9223372036854775807:=by omega
 have h3 : -9223372036854775808≤n % (b-a+1)∧n % (b-a+1)≤9223372036854775807:=by omega
 have h4 : -9223372036854775808≤a+n % (b-a+1)∧a+n % (b-a+1)≤9223372036854775807:=by omega
 gi_enter Tryd.func28,Tryd.ntmps28
 gi_upto_region 1 with fail
 gi_big_quiet_th (fail)
 gi_wp2
 go_ret
 exact⟨rfl,Nx.drewN nW _⟩
end Go.Proofs.YtolholkjeehamaaDoor

namespace Go.Proofs.YtolholkjeehamaaDoor
open Go.RowKit Go.Con Go.Conc
local instance zl_3:Lone:=zcG
theorem yag {c c' : Code} {F:Fence} {n:Nat} {P:Program} {Q:Exit→Act→World→Prop} {a:Act} {w:World} (h:c=c') (H:c'.wpIn F n P Q a w):c.wpIn F n P Q a w:=h ▸ H
end Go.Proofs.YtolholkjeehamaaDoor

namespace Go.Con
open Go Go.Conc
def yai (ops:Array Oper) (i:Nat):Option Tmp:=(ops[i]?).bind (·.dst)
def ybn (ops:Array Oper) (i j:Nat):Bool:=((ops[i]?).map fun o=>o.after.any fun e=>Region.binds .any e && e.on == j).getD false
def yau (ops:Array Oper) (n:Nat):Bool :=
 (List.range ops.size).all fun i=>((yai ops i).any fun d=>decide (d<n) && (List.range i).all fun j=>yai ops j != some d) && ((ops[i]?).any fun o=>o.after.all fun e=>!Region.binds .any e || decide (e.on<i))
def ya2 (ops:Array Oper) (d:Tmp):Bool:=(List.range ops.size).all fun i=>yai ops i != some d
theorem yaz {ops:Array Oper} {i d:Nat} (h:yai ops i=some d):i<ops.size:=by
 unfold yai at h
 rcases Nat.lt_or_ge i ops.size with g | g
 ·exact g
 ·rw [Array.getElem?_eq_none g] at h;cases h
theorem ybw {ops:Array Oper} {d:Tmp} (h:ya2 ops d=true) (i:Nat):yai ops i≠some d:=by
 intro hi
 unfold ya2 at h
 rw [List.all_eq_true] at h
 have:=h i (List.mem_range.2 (yaz hi))
 simp [hi] at this
section
variable [Lone]
variable {P:Program} {maps:Bool} {E Arg:Nat→Prop} {W0:World} {f:FuncId} {k:List Item} {cs:List Frame}
variable {Q:(Nat→Prop)→(Nat→Prop)→Goroutine→World→Prop} {pend:List Nat}
theorem ya9 {ops:Array Oper} {n:Nat} (hn:yau ops n=true) {i:Nat} (hi:i<ops.size):∃ d,yai ops i=some d∧d<n∧∀ j,j<i→yai ops j≠some d:=by
 unfold yau at hn
 rw [List.all_eq_true] at hn
 have h1:=hn i (List.mem_range.2 hi)
 rw [Bool.and_eq_true] at h1
 have h2:=h1.1
 cases hd:yai ops i with
 | none=>rw [hd] at h2;cases h2
 | some d =>
  rw [hd,Option.any_some,Bool.and_eq_true,List.all_eq_true] at h2
  refine⟨d,rfl,by simpa using h2.1,fun j hj he=>?_⟩
  have:=h2.2 j (List.mem_range.2 hj)
  simp [he] at this
theorem ycz {ops:Array Oper} {n:Nat} (hn:yau ops n=true) {i j d:Nat} (hi:yai ops i=some d) (hj:yai ops j=some d):i=j:=by
 rcases Nat.lt_trichotomy i j with h | h | h
 ·obtain⟨d',h1,_,h2⟩:=ya9 hn (yaz hj)
  rw [hj] at h1
  cases h1
  exact absurd hi (h2 i h)
 ·exact h
 ·obtain⟨d',h1,_,h2⟩:=ya9 hn (yaz hi)
  rw [hi] at h1
  cases h1
  exact absurd hj (h2 j h)
end
end Go.Con

namespace Go.Proofs.YtolholkjeehamaaDoor
def Dit.plotAt (d:Dit) (k:Int):Option Plot:=if 0≤k then d.plots[k.toNat]? else none
def yae (d:Dit) (holder:Int):List Int→Int×Int×Int→Option (Int×Int×Int)
 | [],s=>some s
 | k :: l,s=>match d.plotAt k with
  | some p=>if s.1<k∧p.holder=holder∧(d.needs p).2=true then yae d holder l (k,s.2.1+(d.needs p).1,s.2.2+p.worth) else none
  | none=>none
def yad (d:Dit) (holder most:Int) (l:List Int):Int×Int×Bool:=match yae d holder l (-1,0,0) with | some s=>(s.2.1,s.2.2,decide (s.2.1≤most)) | none=>(0,0,false)
theorem yaf {d:Dit} {k:Int} {p:Plot} (h:d.plotAt k=some p):0≤k∧k<d.plots.length∧d.plots[k.toNat]?=some p:=by
 unfold Dit.plotAt at h
 split at h
 ·have:=(List.getElem?_eq_some_iff.1 h).1
  exact⟨by omega,by omega,h⟩
 ·cases h
theorem ya6 {d:Dit} (k:Nat):d.plotAt k=d.plots[k]?:=by
 unfold Dit.plotAt
 rw [if_pos (by omega),Int.toNat_natCast]
theorem yah (d:Dit) (holder:Int):∀ (l m:List Int) s,yae d holder (l++m) s=(yae d holder l s).bind (yae d holder m)
 | [],m,s=>rfl
 | k :: l,m,s=>by
  simp only [List.cons_append,yae]
  cases d.plotAt k with
  | none=>rfl
  | some p =>
   dsimp only
   split
   ·exact yah d holder l m _
   ·rfl
theorem yck {d:Dit} (hO:d.Ok) {k:Int} {p:Plot} (hp:d.plotAt k=some p):0≤(d.needs p).1:=by
 obtain⟨_,_,h⟩:=yaf hp
 have:=(hO.pl _ p h).2.2.2.2.1
 exact (zos hO (p:=p) (by omega)).1
theorem ybo {d:Dit} (hO:d.Ok) (holder:Int):∀ (l:List Int) s t,yae d holder l s=some t→s.2.1≤t.2.1
 | [],s,t,h=>by cases h;exact Int.le_refl _
 | k :: l,s,t,h=>by
  simp only [yae] at h
  cases hp:d.plotAt k with
  | none=>rw [hp] at h;cases h
  | some p =>
   rw [hp] at h
   dsimp only at h
   split at h
   ·have:=ybo hO holder l _ t h
    have:=yck hO hp
    dsimp only at *
    omega
   ·cases h
def leC (x y:Int×Int):Prop:=x.2<y.2∨(x.2=y.2∧y.1≤x.1)
theorem leC.trans {x y z:Int×Int} (h:leC x y) (h2:leC y z):leC x z:=by unfold leC at *;omega
theorem leC.refl (x:Int×Int):leC x x:=by unfold leC;omega
theorem ycl {c b:Choice} (h:c.better b=true):leC (b.hours,b.worth) (c.hours,c.worth):=by
 unfold Choice.better at h
 unfold leC
 dsimp only
 split at h
 ·have:=of_decide_eq_true h;omega
 ·split at h
  ·have:=of_decide_eq_true h;omega
  ·omega
theorem ycc {c b:Choice} (h:c.better b=false):leC (c.hours,c.worth) (b.hours,b.worth):=by
 unfold Choice.better at h
 unfold leC
 dsimp only
 split at h
 ·have:=of_decide_eq_false h;omega
 ·split at h
  ·have:=of_decide_eq_false h;omega
  ·omega
theorem ycm (c b:Choice):leC (b.hours,b.worth) ((if c.better b then c else b).hours,(if c.better b then c else b).worth)∧leC (c.hours,c.worth) ((if c.better b then c else b).hours,(if c.better b then c else b).worth):=by
 cases h:c.better b with
 | true=>exact⟨ycl h,leC.refl _⟩
 | false=>exact⟨leC.refl _,ycc h⟩
structure ChOk (d:Dit) (holder most:Int) (c:Choice) (k:Int):Prop where
 st:∃ q,q<k∧yae d holder c.plots (-1,0,0)=some (q,c.hours,c.worth)
 most:c.hours≤most
theorem ChOk.add {d:Dit} {holder most:Int} {c:Choice} {k:Int} (h:ChOk d holder most c k) {p:Plot} (hp:d.plotAt k=some p) (hf:d.fits holder most c p=true):ChOk d holder most (c.add d k p) (k+1):=by
 obtain⟨⟨q,hq,hs⟩,hm⟩:=h
 unfold Dit.fits at hf
 simp only [Bool.and_eq_true,decide_eq_true_eq] at hf
 refine⟨⟨k,by omega,?_⟩,hf.2.2⟩
 unfold Choice.add
 dsimp only
 rw [yah,hs]
 simp only [Option.bind_some,yae,hp]
 rw [if_pos ⟨hq,hf.2.1,hf.1⟩]
theorem ChOk.up {d:Dit} {holder most:Int} {c:Choice} {k m:Int} (h:ChOk d holder most c k) (hk:k≤m):ChOk d holder most c m:=⟨let ⟨q,hq,hs⟩:=h.st;⟨q,by omega,hs⟩,h.most⟩
theorem ya0 {d:Dit} (hO:d.Ok) (holder most:Int):∀ (ps:List Plot) (c:Choice) (k:Nat) (b:Choice),ps=d.plots.drop k→ChOk d holder most c k→ChOk d holder most b d.plots.length →
  ChOk d holder most (goS d holder most ps c k b) d.plots.length∧leC (b.hours,b.worth) ((goS d holder most ps c k b).hours,(goS d holder most ps c k b).worth) ∧
  ∀ (x:Int) (l:List Int) (q:Int) t,(k:Int)≤x→q<k→yae d holder (x :: l) (q,c.hours,c.worth)=some t→t.2.1≤most→leC (t.2.1,t.2.2) ((goS d holder most ps c k b).hours,(goS d holder most ps c k b).worth)
 | [],c,k,b,hps,hc,hb=>by
  refine⟨hb,leC.refl _,fun x l q t hx hq ht hm=>?_⟩
  simp only [yae] at ht
  cases hp:d.plotAt x with
  | none=>rw [hp] at ht;cases ht
  | some p =>
   obtain⟨h1,h2,_⟩:=yaf hp
   have:=congrArg List.length hps
   simp only [List.length_nil,List.length_drop] at this
   omega
 | p :: ps,c,k,b,hps,hc,hb=>by
  have hk:d.plots[k]?=some p:=by
   have:(d.plots.drop k)[0]?=some p:=by rw [← hps];rfl
   simpa using this
  have hkl:=(List.getElem?_eq_some_iff.1 hk).1
  have hps' : ps=d.plots.drop (k+1):=by
   have:=congrArg List.tail hps
   simpa [List.tail_drop] using this
  have hpa:d.plotAt (k:Int)=some p:=by rw [ya6];exact hk
  unfold goS
  have e1:((k:Int)+1)=((k+1:Nat):Int):=by omega
  rw [e1]
  cases hf:d.fits holder most c p with
  | false =>
   simp only [Bool.false_eq_true,if_false]
   obtain⟨r1,r2,r3⟩:=ya0 hO holder most ps c (k+1) b hps' (hc.up (by omega)) hb
   refine⟨r1,r2,fun x l q t hx hq ht hm=>?_⟩
   by_cases hxk:x=k
   ·subst hxk
    exfalso
    simp only [yae,hpa] at ht
    split at ht
    ·rename_i hh
     have h2:=ybo hO holder l _ t ht
     dsimp only at h2
     unfold Dit.fits at hf
     rw [hh.2.2,decide_eq_true hh.2.1,decide_eq_true (show c.hours+(d.needs p).1≤most by omega)] at hf
     cases hf
    ·cases ht
   ·exact r3 x l q t (by omega) (by omega) ht hm
  | true =>
   simp only [if_true]
   have hadd:=hc.add hpa hf
   have hb1:ChOk d holder most (if (c.add d k p).better b then c.add d k p else b) d.plots.length:=by
    split
    ·exact hadd.up (by omega)
    ·exact hb
   obtain⟨p1,p2⟩:=ycm (c.add d k p) b
   obtain⟨s1,s2,s3⟩:=ya0 hO holder most ps (c.add d k p) (k+1) (if (c.add d k p).better b then c.add d k p else b) hps' (by rw [← e1];exact hadd) hb1
   obtain⟨r1,r2,r3⟩:=ya0 hO holder most ps c (k+1) _ hps' (hc.up (by omega)) s1
   refine⟨r1,p1.trans (s2.trans r2),fun x l q t hx hq ht hm=>?_⟩
   by_cases hxk:x=k
   ·subst hxk
    simp only [yae,hpa] at ht
    split at ht
    ·cases l with
     | nil =>
      cases ht
      exact p2.trans (s2.trans r2)
     | cons y l =>
      have hy:((k:Nat):Int)<y:=by
       simp only [yae] at ht
       cases hp2:d.plotAt y with
       | none=>rw [hp2] at ht;cases ht
       | some p2 =>
        rw [hp2] at ht
        dsimp only at ht
        split at ht
        ·rename_i hh;exact hh.1
        ·cases ht
      exact (s3 y l k t (by omega) (by omega) ht hm).trans r2
    ·cases ht
   ·exact r3 x l q t (by omega) (by omega) ht hm
theorem yb4 {d:Dit} (hO:d.Ok) (holder most:Int) (h0:0≤most):∃ q,yae d holder (tryS d holder most ⟨[],0,0⟩ 0 ⟨[],0,0⟩).plots (-1,0,0)=some (q,(tryS d holder most ⟨[],0,0⟩ 0 ⟨[],0,0⟩).hours,(tryS d holder most ⟨[],0,0⟩ 0 ⟨[],0,0⟩).worth) ∧
  (tryS d holder most ⟨[],0,0⟩ 0 ⟨[],0,0⟩).hours≤most ∧
  ∀ l t,yae d holder l (-1,0,0)=some t→t.2.1≤most→leC (t.2.1,t.2.2) ((tryS d holder most ⟨[],0,0⟩ 0 ⟨[],0,0⟩).hours,(tryS d holder most ⟨[],0,0⟩ 0 ⟨[],0,0⟩).worth):=by
 have hc0:∀ k:Int,0≤k→ChOk d holder most ⟨[],0,0⟩ k:=fun k hk=>⟨⟨-1,by omega,rfl⟩,h0⟩
 have e:(if Choice.better ⟨[],0,0⟩ ⟨[],0,0⟩ then (⟨[],0,0⟩:Choice) else ⟨[],0,0⟩)=⟨[],0,0⟩:=by split<;>rfl
 unfold tryS
 rw [e]
 obtain⟨r1,r2,r3⟩:=ya0 hO holder most (d.plots.drop 0) ⟨[],0,0⟩ 0 ⟨[],0,0⟩ rfl (hc0 _ (by omega)) (hc0 _ (by omega))
 obtain⟨q,_,hq⟩:=r1.st
 refine⟨q,hq,r1.most,fun l t ht hm=>?_⟩
 cases l with
 | nil=>cases ht;exact r2
 | cons x l =>
  refine r3 x l (-1) t ?_ (by omega) ht hm
  simp only [yae] at ht
  cases hp:d.plotAt x with
  | none=>rw [hp] at ht;cases ht
  | some p=>have:=(yaf hp).1;omega
def ybp (d:Dit) (holder price:Int):List Plot→Int→Int
 | [],n=>n
 | p :: ps,n=>ybp d holder price ps (if (d.needs p).2 && decide (p.holder=holder) then n+max 0 (p.worth-price * (d.needs p).1) else n)
def yat (d:Dit) (holder a b price:Int):Int×Int:=if askS d holder a b≠0 then (0,askS d holder a b) else if 0≤price∧price≤10000 then (ybp d holder price d.plots (price * d.hoursW holder a b),0) else (0,1)
def ych (d:Dit) (holder price:Int) (p:Plot):Int:=if (d.needs p).2 && decide (p.holder=holder) then max 0 (p.worth-price * (d.needs p).1) else 0
def yav (d:Dit) (holder price:Int):List Plot→Int
 | []=>0
 | p :: ps=>ych d holder price p+yav d holder price ps
theorem ybx (d:Dit) (holder price:Int):∀ (ps:List Plot) (n:Int),ybp d holder price ps n=n+yav d holder price ps
 | [],n=>by simp [ybp,yav]
 | p :: ps,n=>by
  unfold ybp yav ych
  rw [ybx d holder price ps]
  split<;>omega
theorem yba (d:Dit) (holder price:Int) (p:Plot):0≤ych d holder price p:=by unfold ych;split<;>omega
theorem yb5 (d:Dit) (holder price:Int):∀ ps:List Plot,0≤yav d holder price ps
 | []=>Int.le_refl _
 | p :: ps=>by
  have:=yba d holder price p
  have:=yb5 d holder price ps
  unfold yav
  omega
theorem ybq (d:Dit) (holder price:Int):∀ (ps:List Plot) (k:Nat),yav d holder price (ps.drop k)≤yav d holder price ps
 | [],k=>by simp
 | p :: ps,0=>Int.le_refl _
 | p :: ps,k+1=>by
  have:=ybq d holder price ps k
  have:=yba d holder price p
  simp only [List.drop_succ_cons]
  show _≤ych d holder price p+yav d holder price ps
  omega
theorem ya7 (d:Dit) (holder price:Int) (hp0:0≤price):∀ (l:List Int) (q h w:Int) t,-1≤q→yae d holder l (q,h,w)=some t→t.2.2-w≤price * (t.2.1-h)+yav d holder price (d.plots.drop (q+1).toNat)
 | [],q,h,w,t,hq,ht=>by
  cases ht
  have:=yb5 d holder price (d.plots.drop (q+1).toNat)
  simp
  omega
 | k :: l,q,h,w,t,hq,ht=>by
  simp only [yae] at ht
  cases hp:d.plotAt k with
  | none=>rw [hp] at ht;cases ht
  | some p =>
   rw [hp] at ht
   dsimp only at ht
   split at ht
   ·rename_i hh
    obtain⟨k0,k1,k2⟩:=yaf hp
    have ih:=ya7 d holder price hp0 l k _ _ t (by omega) ht
    have hd:d.plots.drop (q+1).toNat=(d.plots.drop (q+1).toNat).take (k.toNat-(q+1).toNat)++d.plots.drop k.toNat:=by
     conv=>lhs;rw [← List.take_append_drop (k.toNat-(q+1).toNat) (d.plots.drop (q+1).toNat)]
     rw [List.drop_drop]
     congr 2
     omega
    have h1:yav d holder price (d.plots.drop k.toNat)≤yav d holder price (d.plots.drop (q+1).toNat):=by
     have:=ybq d holder price (d.plots.drop (q+1).toNat) (k.toNat-(q+1).toNat)
     rw [List.drop_drop,show (q+1).toNat+(k.toNat-(q+1).toNat)=k.toNat by omega] at this
     exact this
    have h2:d.plots.drop k.toNat=p :: d.plots.drop (k+1).toNat:=by
     have hl:=(List.getElem?_eq_some_iff.1 k2).1
     rw [List.drop_eq_getElem_cons hl,(List.getElem?_eq_some_iff.1 k2).2]
     congr 2
     omega
    rw [h2] at h1
    have h3:ych d holder price p=max 0 (p.worth-price * (d.needs p).1):=by
     unfold ych
     rw [hh.2.2,decide_eq_true hh.2.1]
     rfl
    simp only [yav] at h1
    have e:price * (t.2.1-h)=price * (t.2.1-(h+(d.needs p).1))+price * (d.needs p).1:=by rw [← Int.mul_add];congr 1;omega
    rw [e]
    omega
   ·cases ht
theorem ybr {d:Dit} (holder price most:Int) (hp0:0≤price) {l:List Int} {t:Int×Int×Int} (ht:yae d holder l (-1,0,0)=some t) (hm:t.2.1≤most):t.2.2≤ybp d holder price d.plots (price * most):=by
 have h:=ya7 d holder price hp0 l (-1) 0 0 t (by omega) ht
 simp only [show ((-1:Int)+1).toNat=0 from rfl,List.drop_zero] at h
 rw [ybx]
 have h2:price * t.2.1≤price * most:=Int.mul_le_mul_of_nonneg_left hm hp0
 simp only [Int.sub_zero] at h
 omega
end Go.Proofs.YtolholkjeehamaaDoor

namespace Go.Proofs.YtolholkjeehamaaDoor
open Go.RowKit
theorem ya3 (d:Dit) (holder price:Int):∀ l m:List Plot,yav d holder price (l++m)=yav d holder price l+yav d holder price m
 | [],m=>by simp [yav]
 | p :: l,m=>by
  have:=ya3 d holder price l m
  simp only [List.cons_append,yav]
  omega
theorem ybs {d:Dit} (holder price:Int) {k:Nat} {p:Plot} (hp:d.plots[k]?=some p):yav d holder price (d.plots.take (k+1))=yav d holder price (d.plots.take k)+ych d holder price p:=by
 rw [List.take_add_one,hp,ya3]
 simp [yav]
theorem ycn {d:Dit} (hO:d.Ok) {holder price:Int} (hp0:0≤price) {k:Nat} {p:Plot} (hp:d.plots[k]?=some p):ych d holder price p≤10000:=by
 obtain⟨_,_,_,_,hph,hw⟩:=hO.pl k p hp
 have hn:=(zos hO (p:=p) (by omega)).1
 have:=Int.mul_nonneg hp0 hn
 unfold ych
 split<;>omega
theorem yco {d:Dit} (hO:d.Ok) {holder price:Int} (hp0:0≤price):∀ k:Nat,k≤d.plots.length→0≤yav d holder price (d.plots.take k)∧yav d holder price (d.plots.take k)≤10000 * (k:Int)
 | 0,_=>by simp [yav]
 | k+1,h=>by
  have ih:=yco hO (holder:=holder) hp0 k (by omega)
  have hk:d.plots[k]?=some d.plots[k]:=List.getElem?_eq_getElem (by omega)
  have h1:=ycn hO (holder:=holder) hp0 hk
  have h2:=yba d holder price d.plots[k]
  rw [ybs holder price hk]
  omega
theorem ybb (n:Int) (w:World):(Builtin.max_ #[3,3] 3 #[.int .i64 0,.int .i64 n]).run Tryd.prog w=.ok (.int .i64 (max 0 n)) w:=by
 rw [show max 0 n=if 0<n then n else 0 by omega]
 by_cases h:0<n<;>simp [Builtin.max_,Builtin.max2,go_sem,h]
theorem ycp (d:Dit) (r:zaR) (holder a b price:Int) (w:World) (hd:DitSl w d r) (hs:d.Small) (hg:Glob w) (hm:askS d holder a b=0→0≤d.hoursW holder a b∧d.hoursW holder a b≤1000000000) :
  CallsIn FL 0 Tryd.prog 50 #[d.val r,num holder,num a,num b,num price] w fun e w'=>e=.returned (.tuple #[num (yat d holder a b price).1,num (yat d holder a b price).2])∧Nx w w':=by
 obtain⟨W,hW,n0,hWs,cW⟩:=boxed w d r
 have nW:Nx W W:=Below.refl _ _
 obtain⟨c0,c1,c2,c3,c4,c5,c6,c7,c8,c9,c10,c11,c12,c13⟩:=zaS (cW _ nW)
 have k56:=zjG d r holder a b W (hd.nx n0) hs (hg.nx n0)
 by_cases hc:askS d holder a b=0
 ·obtain⟨hck,hhold,ha,hb,hab⟩:=ziU hc
  have k56' : CallsIn FL 0 Tryd.prog 56 _ W fun e w'=>d.Ok∧zf6 W d 0 e w':=k56.mono fun e w' ⟨v,_,_,h⟩=>h hc
  clear k56
  by_cases hp:0≤price∧price≤10000
  ·have HA:Hid (yat d holder a b price=(ybp d holder price d.plots (price * d.hoursW holder a b),0)):=by show _=_;unfold yat;rw [if_neg (by simp [hc]),if_pos hp]
   have k67:=fun w1=>zaQ hp w1
   obtain⟨hm0,hm1⟩:=hm hc
   obtain⟨ap,capp,ep⟩:=hd.plots.cases
   rw [List.length_map] at ep
   have hpl:=hd.plots
   rw [ep] at hpl
   have h13:=Lib.hid (fun w1 (nx:Nx W w1)=>show w1.cell? ⟨w.heap.size,13,none⟩=some (.slice ap d.plots.length capp) from (cW w1 nx 13 r.p rfl).trans (by rw [ep]))
   have HPL:=Lib.hid hpl
   have hmul1:0≤price * d.hoursW holder a b:=Int.mul_nonneg hp.1 hm0
   have hmul2:price * d.hoursW holder a b≤10000 * 1000000000:=Int.mul_le_mul hp.2 hm1 hm0 (by omega)
   clear hc ep cW hpl hm
   gi_enter Tryd.func50,Tryd.ntmps50
   gi_upto_region 7 with (first
    | (gi_at_call 56;refine CallsIn.mono k56' ?_;rintro e w1 ⟨hO,B,M,rfl,n1,hB,hw⟩;have HW:=Lib.hid hw;have HO:=Lib.hid hO;have k57:=zmV (holder:=holder) hw hO (a:=a) (b:=b) (by omega) (by omega);clear hw hO)
    | (gi_at_call 67;refine CallsIn.mono (k67 _) ?_;rintro e w1 ⟨rfl,rfl⟩)
    | (gi_at_call 57;refine CallsIn.mono k57 ?_;rintro e w2 ⟨rfl,n2⟩)
    | gi_in)
   generalize hH:d.hoursW holder a b=H at *
   have hO:=HO.out
   have hp8:=hO.p8
   have HBD:=Lib.hid (fun k h=>yco hO (holder:=holder) hp.1 k h)
   have nw1:Nx w w1:=Nx.trans n0 n1
   have nw2:Nx w w2:=Nx.trans nw1 n2
   clear c0 c1 c2 c3 c4 c5 c6 c7 c8 c9 c10 c11 c12 c13 k57 k56' k67
   have c13:=h13.out w2 (Nx.trans n1 n2)
   gi_wp2
   clear c13
   gi_loopw [14,47] (fun n i wr=>∃ k:Nat,k≤d.plots.length∧i=num k∧n=num (price * H+yav d holder price (d.plots.take k))∧Nx w1 wr) (fun _ i _=>d.plots.length-(intOf i).toNat)
   case atStart=>exact⟨0,Nat.zero_le _,rfl,by simp [yav],n2⟩
   case round =>
    obtain⟨k,hk,rfl,rfl,n3⟩:=hrel
    by_cases hlt:k<d.plots.length
    ·obtain⟨b0,off,ha0,hbl,hcl⟩:=HPL.out.get (by simp;omega)
     subst ha0
     have hx:d.plots[k]?=some d.plots[k]:=List.getElem?_eq_getElem hlt
     generalize hxk:d.plots[k]=x at hx
     clear hxk
     obtain⟨g0,g1,g2,g3,g4,g5⟩:=Sl.at6 hcl (Nx.trans nw1 n3) hbl hx
     have hpx:=hO.pl k x hx
     have hbk:=HBD.out k (by omega)
     have h1:=ycn hO (holder:=holder) hp.1 hx
     have htk:=ybs holder price hx
     have hnb:=zos hO (p:=x) (by omega)
     generalize hW2:wr.alloc (.cells #[str x.name,num x.holder,num x.far,num x.low,num x.high,num x.worth] 91)=V
     have n3V:Nx w1 V:=by rw [← hW2];exact n3.alloc (by exact n3.size) _
     have hz:V.heap[wr.heap.size]?=some (.cells #[str x.name,num x.holder,num x.far,num x.low,num x.high,num x.worth] 91):=by rw [← hW2];exact heap_alloc_new wr _
     have hVs:wr.heap.size<V.heap.size:=by rw [← hW2];simp
     have cN:∀ w3,Nx V w3→w3.cell? ⟨wr.heap.size,1,none⟩=some (num x.holder)∧w3.cell? ⟨wr.heap.size,5,none⟩=some (num x.worth):=by
      intro w3 nx
      refine⟨(nx.cell (by exact hVs)).trans ?_,(nx.cell (by exact hVs)).trans ?_⟩<;>simp [World.cell?,hz]
     have kn:=zm3 B d k x V (HW.out.wat.dit.nx n3V) hO hx
     have hb1:ych d holder price x=if (d.needs x).2 && decide (x.holder=holder) then max 0 (x.worth-price * (d.needs x).1) else 0:=rfl
     have HB1:=Lib.hid hb1
     have HTK:=Lib.hid htk
     have hmn:price * (d.needs x).1≤10000 * 2000000000:=Int.mul_le_mul hp.2 (by omega) (by omega) (by omega)
     have hmn0:0≤price * (d.needs x).1:=Int.mul_nonneg hp.1 (by omega)
     have hwx:=hpx.2.2.2.2.2
     clear hb1 htk hpx hcl hbl hx
     generalize (d.needs x).1=h at *
     generalize (d.needs x).2=ok at *
     generalize ych d holder price x=z1 at *
     generalize yav d holder price (d.plots.take k)=z2 at *
     cases ok with
     | false =>
      gi_wp2_with (first
       | (gi_at_call 84;refine CallsIn.mono kn ?_;rintro e w3 ⟨rfl,n4⟩;obtain⟨e1,e5⟩:=cN w3 n4;have mx:=ybb (x.worth-price * h) w3)
       | gi_in)
      have e:=HB1.out
      simp only [Bool.false_and,Bool.false_eq_true,if_false] at e
      exact⟨⟨k+1,hlt,by simp,by rw [HTK.out,e];simp,Nx.trans n3V n4⟩,by simp [intOf];omega⟩
     | true =>
      by_cases hh:x.holder=holder
      ·subst hh
       have bh:(x.holder == x.holder)=true:=by simp
       gi_wp2_with (first
        | (gi_at_call 84;refine CallsIn.mono kn ?_;rintro e w3 ⟨rfl,n4⟩;obtain⟨e1,e5⟩:=cN w3 n4;have mx:=ybb (x.worth-price * h) w3)
        | gi_in)
       have e:=HB1.out
       simp only [Bool.true_and,decide_true,if_true] at e
       exact⟨⟨k+1,hlt,by simp,by rw [HTK.out,e];congr 1;omega,Nx.trans n3V n4⟩,by simp [intOf];omega⟩
      ·have bh:(x.holder == holder)=false:=by simpa using hh
       gi_wp2_with (first
        | (gi_at_call 84;refine CallsIn.mono kn ?_;rintro e w3 ⟨rfl,n4⟩;obtain⟨e1,e5⟩:=cN w3 n4;have mx:=ybb (x.worth-price * h) w3)
        | gi_in)
       have e:=HB1.out
       simp only [Bool.true_and,hh,decide_false,Bool.false_eq_true,if_false] at e
       exact⟨⟨k+1,hlt,by simp,by rw [HTK.out,e];simp,Nx.trans n3V n4⟩,by simp [intOf];omega⟩
    ·obtain rfl:k=d.plots.length:=by omega
     have he:ybp d holder price d.plots (price * H)=price * H+yav d holder price (d.plots.take d.plots.length):=by rw [ybx,List.take_length]
     have HE:=Lib.hid he
     clear he
     generalize yav d holder price (d.plots.take d.plots.length)=z at *
     gi_wp2
     refine bodyPost_ret (v:=.tuple #[num (price * H+z),num 0]) (by simp [results,Tryd.results50,go_sem]) rfl ?_
     exact⟨by rw [HA.out,HE.out],Nx.trans nw1 n3⟩
  ·have HA:Hid (yat d holder a b price=(0,1)):=by show _=_;unfold yat;rw [if_neg (by simp [hc]),if_neg hp]
   have k67:=fun w1=>zbS hp w1
   clear hc cW hm
   gi_enter Tryd.func50,Tryd.ntmps50
   gi_wp2_with (first
    | (gi_at_call 56;refine CallsIn.mono k56' ?_;rintro e w1 ⟨hO,B,M,rfl,n1,hB,hw⟩;clear hw hO)
    | (gi_at_call 67;refine CallsIn.mono (k67 _) ?_;rintro e w1 ⟨rfl,rfl⟩)
    | gi_in)
   refine bodyPost_ret (v:=.tuple #[num 0,num 1]) (by simp [results,Tryd.results50,go_sem]) rfl ?_
   exact⟨by rw [HA.out],Nx.trans n0 n1⟩
 ·have HA:Hid (yat d holder a b price=(0,askS d holder a b)):=by show _=_;unfold yat;rw [if_pos hc]
  have hb:(askS d holder a b != 0)=true:=by simpa using hc
  have hb2:(askS d holder a b == 0)=false:=by simpa using hc
  have k56' : CallsIn FL 0 Tryd.prog 56 _ W fun e w'=>∃ v,e=.returned (.tuple #[.pointer v,num (askS d holder a b)])∧Nx W w':=k56.mono fun e w' ⟨v,h1,h2,h⟩=>⟨v,h1,h2⟩
  clear k56 cW hc hm
  generalize askS d holder a b=f at *
  gi_enter Tryd.func50,Tryd.ntmps50
  gi_wp2_with (first
   | (gi_at_call 56;refine CallsIn.mono k56' ?_;rintro e w1 ⟨v,rfl,n1⟩)
   | gi_in)
  refine bodyPost_ret (v:=.tuple #[num 0,num f]) (by simp [results,Tryd.results50,go_sem]) rfl ?_
  exact⟨by rw [HA.out],Nx.trans n0 n1⟩
end Go.Proofs.YtolholkjeehamaaDoor

namespace Go.Proofs.YtolholkjeehamaaDoor
open Go.RowKit
theorem ycd (ps:List Int) (pv:Value) (k:Nat) (w:World) (hp:Sl w pv 1 (ps.map fun x=>[Value.int .u16 x])) (hb:∀ x∈ps,0≤x∧x≤65535) (hl:ps.length≤281474976710656) (hk:k≤1000) :
  CallsIn FL 0 Tryd.prog 48 #[pv,num k] w fun e w'=>∃ z:Int,e=.returned (num z)∧(0≤z∧z≤65535)∧w'=w:=by
 obtain⟨a,cap,rfl⟩:=hp.cases
 rw [List.length_map] at hp ⊢
 by_cases hlt:k<ps.length
 ·obtain⟨b,off,rfl,hbl,hcl⟩:=hp.get (by simp;omega)
  have hx:ps[k]?=some ps[k]:=List.getElem?_eq_getElem hlt
  have hz:=hb ps[k] (List.getElem_mem _)
  generalize ps[k]=x at hx hz
  have e0:w.cell? ⟨b,off+k,none⟩=some (.int .u16 x):=by have:=hcl k 0 [.int .u16 x] (.int .u16 x) (by simp [hx]) rfl;simpa using this
  clear hcl hp hb hx
  gi_enter Tryd.func48,Tryd.ntmps48
  gi_wp2
  go_ret
  exact⟨x,rfl,hz,rfl⟩
 ·clear hp hb
  have hlt2:¬ (k:Int)<(ps.length:Int):=by omega
  gi_enter Tryd.func48,Tryd.ntmps48
  gi_wp2
  go_ret
  exact⟨0,rfl,by omega,rfl⟩
end Go.Proofs.YtolholkjeehamaaDoor

namespace Go.Proofs.YtolholkjeehamaaDoor
open Go.RowKit
structure ydn (t e:TypeId) (z:Value) (sz by_:Nat):Prop where
 und:Tryd.prog.underlying t=some (.slice e)
 info:∃ i:TypeInfo,Tryd.prog.info? e=some i∧i.zero=some z∧i.size=sz∧i.bytes=by_
 zs:z.cells.size=sz
 pos:0<sz
section
variable {t e:TypeId} {z:Value} {sz by_:Nat} (T:ydn t e z sz by_)
include T
end
end Go.Proofs.YtolholkjeehamaaDoor

namespace Go.Proofs.YtolholkjeehamaaDoor
open Go.RowKit Go.Con Go.Conc
local instance zl_4:Lone:=zcG
noncomputable def yda:Code:=match Tryd.f14.body with | some c=>c | none=>.skip
noncomputable def q0:Code:=seqL yda
noncomputable def qp1:Code:=seqR yda
noncomputable def q1:Code:=seqL qp1
noncomputable def qp2:Code:=seqR qp1
noncomputable def q2:Code:=seqL qp2
noncomputable def qp3:Code:=seqR qp2
noncomputable def q3:Code:=seqL (seqL qp3)
noncomputable def q4:Code:=match seqR (seqL qp3) with | .cond _ x _=>seqL x | c=>c
noncomputable def qp4:Code:=seqR qp3
noncomputable def q5:Code:=seqL qp4
noncomputable def qp5:Code:=seqR qp4
noncomputable def q6:Code:=seqL qp5
noncomputable def qp6:Code:=seqR qp5
noncomputable def q13:Code:=seqL qp6
end Go.Proofs.YtolholkjeehamaaDoor

namespace Go.Proofs.YtolholkjeehamaaDoor
theorem ydc {h l h' l' : Int} (hl:1≤l) (hll:l≤l') (h0:0≤h') (hhh:h'≤h):(h' + l' - 1).tdiv l'≤(h+l-1).tdiv l:=by
 rw [Int.tdiv_eq_ediv_of_nonneg (by omega),Int.tdiv_eq_ediv_of_nonneg (by omega)]
 have h1:h+l-1<((h+l-1) / l+1) * l:=Int.lt_ediv_add_one_mul_self _ (by omega)
 generalize (h+l-1) / l=c at *
 have hc0:0≤c:=by
  by_cases h2:0≤c
  ·exact h2
  ·have:(c+1) * l≤0:=Int.mul_nonpos_of_nonpos_of_nonneg (by omega) (by omega)
   omega
 have h2:c * l≤c * l':=Int.mul_le_mul_of_nonneg_left hll hc0
 rw [Int.add_mul,Int.one_mul] at h1
 have h3:h' + l' - 1<(c+1) * l':=by rw [Int.add_mul,Int.one_mul];omega
 have:=Int.ediv_lt_of_lt_mul (by omega) h3
 omega
theorem ycq {h l n x:Int} (hl:1≤l) (hlx:l≤x) (h0:0≤n) (hhh:n≤h):(n+x-1).tdiv x≤(h+l-1).tdiv l:=ydc hl hlx h0 hhh
section
variable {d o:Dit} {x y z:Int}
end
end Go.Proofs.YtolholkjeehamaaDoor

namespace Go.Proofs.YtolholkjeehamaaDoor
open Go.RowKit Go.Con Go.Conc
local instance zl_5:Lone:=zcG
theorem yd0 {t:Array Value} {g:(Nat→Value)→Array Value} (h:t=g fun i=>t.getD i zu):∃ f,t=g f:=⟨_,h⟩
end Go.Proofs.YtolholkjeehamaaDoor

namespace Go.Proofs.YtolholkjeehamaaDoor
open Go.RowKit
theorem ya4 (x:Int) (n:Nat) (loss:Int) (w:World) (hx:0≤x∧x≤100000) (hn:n≤20) (hl:0≤loss∧loss≤1000) :
  CallsIn FL 0 Tryd.prog 107 #[num x,num n,num loss] w fun e w'=>e=.returned (num (zbw loss n x))∧w'=w:=by
 gi_enter Tryd.func107,Tryd.ntmps107
 gi_wp2
 gi_loopw [0,7] (fun y i wr=>∃ (k:Nat) (z:Int),k≤n∧i=num k∧y=num z∧(0≤z∧z≤100000)∧zbw loss n x=zbw loss (n-k) z∧wr=w) (fun _ i _=>n-(intOf i).toNat)
 case atStart=>exact⟨0,x,Nat.zero_le _,rfl,rfl,hx,rfl,rfl⟩
 case round =>
  obtain⟨k,z,hk,rfl,rfl,hz,he,rfl⟩:=hrel
  have HE:=Lib.hid he
  clear he
  by_cases hlt:k<n
  ·obtain⟨h1,h2⟩:=zgP hl hz
   gi_wp2
   refine⟨⟨k+1,z-(z * loss).tdiv 1000,hlt,by simp,?_,by omega,?_,trivial⟩,by simp [intOf];omega⟩
   ·refine congrArg (Value.int IntKind.i64) ?_
    rw [Int.tdiv_eq_ediv_of_nonneg h1.1]
   ·rw [HE.out,show n-k=(n-(k+1))+1 by omega,zbw]
  ·obtain rfl:k=n:=by omega
   gi_wp2
   go_ret
   exact⟨by rw [HE.out,Nat.sub_self];rfl,rfl⟩
theorem ydo (tmps:Array Value) (W:World) (b:Nat) (x y:Int) (hp:tmps.getD 4 zu=.pointer (some ⟨b,0,none⟩)) (h0:W.cell? ⟨b,0,none⟩=some (num x)) (h1:W.cell? ⟨b,1,none⟩=some (num y)) :
  (results Tryd.f87 tmps).run Tryd.prog W=.ok (.agg #[num x,num y]) W:=by
 have hp' : tmps[4]?.getD zu=.pointer (some ⟨b,0,none⟩):=by simpa using hp
 simp [results,Tryd.results87,go_sem,hp',h0,h1]
theorem yce (d:Dit) (r:zaR) (p:Plot) (w:World) (hO:d.Ok) (hpf:0≤p.far∧p.far≤20) :
  CallsIn FL 0 Tryd.prog 87 #[d.val r,p.val] w fun e w'=>e=.returned (.agg #[num (d.gets p).1,num (d.gets p).2])∧Nx w w':=by
 obtain⟨nm,ph,pf,pl,pg,pw⟩:=p
 dsimp only at hpf
 obtain⟨n,rfl⟩:=Int.eq_ofNat_of_zero_le hpf.1
 have HG:Hid (d.gets ⟨nm,ph,n,pl,pg,pw⟩=(zbw d.loss.2 n d.flow.1,zbw d.loss.1 n d.flow.2)):=rfl
 have hval:Plot.val ⟨nm,ph,n,pl,pg,pw⟩=.agg #[str nm,num ph,num n,num pl,num pg,num pw]:=rfl
 rw [hval]
 clear hval
 obtain⟨W0,hW,n0,hWs,cW⟩:=boxed w d r
 generalize hY:W0.alloc (.cells #[str nm,num ph,num n,num pl,num pg,num pw] 91)=Y
 generalize hV:Y.alloc (.cells #[.int .i64 0,.int .i64 0] 28)=V
 have sY:Y.heap.size=w.heap.size+1+1:=by rw [← hY];simp [hWs]
 have nY:Nx W0 Y:=by rw [← hY];exact zaG (Below.refl _ _) _
 have nV:Nx Y V:=by rw [← hV];exact zaG (Below.refl _ _) _
 have hz:V.heap[w.heap.size+1+1]?=some (Obj.cells #[Value.int IntKind.i64 0,Value.int IntKind.i64 0] 28):=by rw [← hV,← sY];exact heap_alloc_new Y _
 have g2:V.cell? ⟨w.heap.size+1,2,none⟩=some (num n):=(nV.cell (p:=⟨w.heap.size+1,2,none⟩) (by show w.heap.size+1<_;omega)).trans (by rw [← hY,← hWs];exact zaw _ _ _ _ _ rfl)
 obtain⟨c0,c1,c2,c3,c4,c5,c6,c7,c8,c9,c10,c11,c12,c13⟩:=zaS (cW V (Nx.trans nY nV))
 have hf:=hO.flow
 have hl:=hO.loss
 have hn20:n≤20:=by omega
 have e4:V.cell? ⟨w.heap.size+1+1,0,none⟩=some (num 0):=by simp [World.cell?,hz]
 have e5:V.cell? ⟨w.heap.size+1+1,1,none⟩=some (num 0):=by simp [World.cell?,hz]
 have e6:V.frozen? ⟨w.heap.size+1+1,0,none⟩=false:=by simp [World.frozen?,hz]
 have e7:V.frozen? ⟨w.heap.size+1+1,1,none⟩=false:=by simp [World.frozen?,hz]
 have kA:∀ m,CallsIn FL 0 Tryd.prog 107 #[num d.flow.1,num n,num d.loss.2] (V.drewN m) fun e w''=>e=.returned (num (zbw d.loss.2 n d.flow.1))∧∃ m,w''=V.drewN m:=fun m=>CallsIn.quiet_of_same (ya4 d.flow.1 n d.loss.2 _ (by omega) hn20 (by omega))
 have kB:∀ m,CallsIn FL 0 Tryd.prog 107 #[num d.flow.2,num n,num d.loss.1] (V.drewN m) fun e w''=>e=.returned (num (zbw d.loss.1 n d.flow.2))∧∃ m,w''=V.drewN m:=fun m=>CallsIn.quiet_of_same (ya4 d.flow.2 n d.loss.1 _ (by omega) hn20 (by omega))
 have HN:=Lib.hid (Nx.trans n0 (Nx.trans nY nV))
 clear cW hz nY nV n0 c0 c1 c2 c3 c4 c5 c6 c7 c8 c13
 gi_enter Tryd.func87,Tryd.ntmps87
 gi_upto_region 1 with fail
 refine zfI 19 rfl (by kernel_rfl) (by kernel_rfl) ?_
 simp only [List.take_succ_cons,List.take_zero,List.drop_succ_cons,List.drop_zero]
 repeat (gi_big_quiet_step (first | (gi_at_call 107;first | with_reducible exact kA _ | with_reducible exact kB _)))
 refine wpQuietIn_nil ?_
 intro w' hw'
 obtain⟨nq,hw''⟩:=hw'
 subst hw''
 gi_wp2
 obtain⟨r1,r2⟩:=set2 (V.drewN nq) (w.heap.size+1+1) (zbw d.loss.2 n d.flow.1) (zbw d.loss.1 n d.flow.2) 0 0 e4 e5
 refine bodyPost_ret (ydo _ _ (w.heap.size+1+1) (zbw d.loss.2 n d.flow.1) (zbw d.loss.1 n d.flow.2) rfl r1 r2) rfl ?_
 exact⟨by rw [HG.out],((Nx.drewN HN.out _).setCell (by show w.heap.size≤w.heap.size+1+1;omega) _).setCell (by show w.heap.size≤w.heap.size+1+1;omega) _⟩
theorem yby (d:Dit) (r:zaR) (k:Nat) (p:Plot) (w:World) (hd:DitSl w d r) (hO:d.Ok) (hp:d.plots[k]?=some p) :
  CallsIn FL 0 Tryd.prog 86 #[d.val r,num k] w fun e w'=>e=.returned (.tuple #[num (d.needs p).1,.bool (d.needs p).2])∧Nx w w':=by
 obtain⟨W,hW,n0,hWs,cW⟩:=boxed w d r
 have nW:Nx W W:=Below.refl _ _
 have hpl:=hO.pl k p hp
 have h8:=hO.p8
 have hlt:=(List.getElem?_eq_some_iff.1 hp).1
 obtain⟨ap,capp,ep⟩:=hd.plots.cases
 rw [List.length_map] at ep
 have hps:=hd.plots
 rw [ep] at hps
 obtain⟨b,off,ha,hbl,hcl⟩:=hps.get (by simp;omega)
 subst ha
 obtain⟨g0,g1,g2,g3,g4,g5⟩:=Sl.at6 hcl n0 hbl hp
 have q13:W.cell? ⟨w.heap.size,13,none⟩=some (.slice (some ⟨b,off,none⟩) d.plots.length capp):=(cW W nW 13 r.p rfl).trans (by rw [ep])
 generalize hY:W.alloc (.cells #[str p.name,num p.holder,num p.far,num p.low,num p.high,num p.worth] 91)=Y
 have nY:Nx W Y:=by rw [← hY];exact zaG (Below.refl _ _) _
 have hz:Y.heap[w.heap.size+1]?=some (.cells #[str p.name,num p.holder,num p.far,num p.low,num p.high,num p.worth] 91):=by rw [← hY,← hWs];exact heap_alloc_new W _
 have hYs:w.heap.size+1<Y.heap.size:=by rw [← hY];simp [hWs]
 have cN:∀ w1,Nx Y w1→w1.cell? ⟨w.heap.size+1,0,none⟩=some (str p.name)∧w1.cell? ⟨w.heap.size+1,1,none⟩=some (num p.holder)∧w1.cell? ⟨w.heap.size+1,2,none⟩=some (num p.far)∧w1.cell? ⟨w.heap.size+1,3,none⟩=some (num p.low)∧w1.cell? ⟨w.heap.size+1,4,none⟩=some (num p.high)∧w1.cell? ⟨w.heap.size+1,5,none⟩=some (num p.worth):=by
  intro w1 n1
  refine⟨(n1.cell (by exact hYs)).trans ?_,(n1.cell (by exact hYs)).trans ?_,(n1.cell (by exact hYs)).trans ?_,(n1.cell (by exact hYs)).trans ?_,(n1.cell (by exact hYs)).trans ?_,(n1.cell (by exact hYs)).trans ?_⟩<;>simp [World.cell?,hz]
 have kg:=yce d r p Y hO hpl.2.2.2.1
 have hgb:=zmU hO (p:=p)
 have HN:Hid (d.needs p=if p.high=0 then (0,true) else if (d.gets p).1=0 then (0,false) else ((p.high+(d.gets p).1-1).tdiv (d.gets p).1,true)):=rfl
 have hph:=hpl.2.2.2.2.1
 have HX:=Lib.hid (Nx.trans n0 nY)
 have HC:=Lib.hid (zaS (cW Y nY))
 clear hcl hps hd cW hpl hz hp nY nW ep n0
 gi_enter Tryd.func86,Tryd.ntmps86
 gi_upto_region 2 with fail
 clear g0 g1 g2 g3 g4 g5 q13
 obtain⟨c0,c1,c2,c3,c4,c5,c6,c7,c8,c9,c10,c11,c12,c13⟩:=HC.out
 obtain⟨e0,e1,e2,e3,e4,e5⟩:=cN Y (Below.refl _ _)
 generalize (d.gets p).1=g at kg hgb HN
 generalize (d.gets p).2=g' at kg
 have hfd:=fun w1=>(zkU g g' w1).1
 by_cases h0:p.high=0
 ·have HD:Hid (d.needs p=(0,true)):=by show _=_;rw [HN.out,if_pos h0]
  have hb:(p.high == 0)=true:=by simpa using h0
  clear h0
  gi_wp2_with (first
   | (gi_at_call 87;refine CallsIn.mono kg ?_;rintro e w1 ⟨rfl,n1⟩;clear c0 c1 c2 c3 c4 c5 c6 c7 c8 c9 c10 c11 c12 c13 e0 e1 e2 e3 e4 e5;obtain⟨e0,e1,e2,e3,e4,e5⟩:=cN w1 n1)
   | gi_in)
  refine bodyPost_ret (v:=.tuple #[num 0,.bool true]) (by simp [results,Tryd.results86,go_sem]) rfl ?_
  exact⟨by rw [HD.out],Nx.trans HX.out n1⟩
 ·have hb:(p.high == 0)=false:=by simpa using h0
  by_cases hg0:g=0
  ·have HD:Hid (d.needs p=(0,false)):=by show _=_;rw [HN.out,if_neg h0,if_pos hg0]
   have hb2:(g == 0)=true:=by simpa using hg0
   clear h0 hg0
   gi_wp2_with (first
    | (gi_at_call 87;refine CallsIn.mono kg ?_;rintro e w1 ⟨rfl,n1⟩;clear c0 c1 c2 c3 c4 c5 c6 c7 c8 c9 c10 c11 c12 c13 e0 e1 e2 e3 e4 e5;obtain⟨e0,e1,e2,e3,e4,e5⟩:=cN w1 n1)
    | gi_in)
   refine bodyPost_ret (v:=.tuple #[num 0,.bool false]) (by simp [results,Tryd.results86,go_sem]) rfl ?_
   exact⟨by rw [HD.out],Nx.trans HX.out n1⟩
  ·have HD:Hid (d.needs p=((p.high+g-1).tdiv g,true)):=by show _=_;rw [HN.out,if_neg h0,if_neg hg0]
   have hb2:(g == 0)=false:=by simpa using hg0
   have hta:=zcg (p.high+g-1) g
   have hgn:¬ g=0:=hg0
   gi_wp2_with (first
    | (gi_at_call 87;refine CallsIn.mono kg ?_;rintro e w1 ⟨rfl,n1⟩;clear c0 c1 c2 c3 c4 c5 c6 c7 c8 c9 c10 c11 c12 c13 e0 e1 e2 e3 e4 e5;obtain⟨e0,e1,e2,e3,e4,e5⟩:=cN w1 n1)
    | gi_in)
   refine bodyPost_ret (v:=.tuple #[num ((p.high+g-1).tdiv g),.bool true]) (by simp [results,Tryd.results86,go_sem]) rfl ?_
   exact⟨by rw [HD.out],Nx.trans HX.out n1⟩
end Go.Proofs.YtolholkjeehamaaDoor

namespace Go.Proofs.YtolholkjeehamaaDoor
theorem ya8 {d:Dit} {holder most:Int} {l:List Int} {q h w:Int} (hs:yae d holder l (-1,0,0)=some (q,h,w)):yad d holder most l=(h,w,decide (h≤most)):=by
 unfold yad
 rw [hs]
end Go.Proofs.YtolholkjeehamaaDoor

namespace Go.Proofs.YtolholkjeehamaaDoor
open Go.RowKit
theorem ybz {d:Dit} (hO:d.Ok) (holder:Int):∀ (l:List Int) (s t:Int×Int×Int),yae d holder l s=some t→-1≤s.1→s.1≤7→(s.1≤t.1∧t.1≤7)∧(s.2.1≤t.2.1∧t.2.1-s.2.1≤2000000000 * (t.1-s.1))∧(s.2.2≤t.2.2∧t.2.2-s.2.2≤10000 * (t.1-s.1))
 | [],s,t,h,h0,h7=>by cases h;omega
 | k :: l,s,t,h,h0,h7=>by
  simp only [yae] at h
  cases hp:d.plotAt k with
  | none=>rw [hp] at h;cases h
  | some p =>
   rw [hp] at h
   dsimp only at h
   split at h
   ·rename_i hh
    obtain⟨k0,k1,k2⟩:=yaf hp
    have hpl:=hO.pl _ p k2
    have hnb:=zos hO (p:=p) (by omega)
    have h8:=hO.p8
    have ih:=ybz hO holder l _ t h (by dsimp only;omega) (by dsimp only;omega)
    dsimp only at ih
    omega
   ·cases h
theorem ya5 {l:List Int} {i:Nat} {x:Int} (hx:l[i]?=some x) (d:Dit) (holder:Int) (s:Int×Int×Int):yae d holder (l.take (i+1)) s=(yae d holder (l.take i) s).bind (yae d holder [x]):=by
 rw [List.take_add_one,hx,Option.toList_some,yah]
theorem yb7 {l:List Int} {i:Nat} {x:Int} (hx:l[i]?=some x) {d:Dit} {holder:Int} {s t:Int×Int×Int} (hs:yae d holder (l.take i) s=some t) (hn:yae d holder [x] t=none):yae d holder l s=none:=by
 have e:l=l.take i++x :: l.drop (i+1):=by
  have hl:=(List.getElem?_eq_some_iff.1 hx)
  obtain⟨h1,h2⟩:=hl
  conv=>lhs;rw [← List.take_append_drop i l]
  rw [List.drop_eq_getElem_cons h1,h2]
 rw [e,yah,hs,Option.bind_some]
 simp only [yae] at hn ⊢
 cases hp:d.plotAt x with
 | none=>rfl
 | some p =>
  rw [hp] at hn
  dsimp only at hn ⊢
  split at hn
  ·cases hn
  ·rename_i h;rw [if_neg h]
theorem yc0 {d:Dit} {holder:Int} {t:Int×Int×Int} {x:Int} (h:∀ p,d.plotAt x=some p→¬ (t.1<x∧p.holder=holder∧(d.needs p).2=true)):yae d holder [x] t=none:=by
 simp only [yae]
 cases hp:d.plotAt x with
 | none=>rfl
 | some p=>dsimp only;rw [if_neg (h p hp)]
theorem yb8 {d:Dit} {holder:Int} {t:Int×Int×Int} {x:Int} {p:Plot} (hp:d.plotAt x=some p) (h1:t.1<x) (h2:p.holder=holder) (h3:(d.needs p).2=true):yae d holder [x] t=some (x,t.2.1+(d.needs p).1,t.2.2+p.worth):=by
 simp only [yae,hp]
 rw [if_pos ⟨h1,h2,h3⟩]
theorem yay (d:Dit) (r:zaR) (holder most:Int) (l:List Int) (lv:Value) (w:World) (hd:DitSl w d r) (hO:d.Ok) (hl:Sl w lv 1 (l.map fun x=>[num x])) (hn:l.length≤1000000) :
  CallsIn FL 0 Tryd.prog 51 #[d.val r,num holder,num most,lv] w fun e w'=>e=.returned (.tuple #[num (yad d holder most l).1,num (yad d holder most l).2.1,.bool (yad d holder most l).2.2])∧Nx w w':=by
 obtain⟨W,hW,n0,hWs,cW⟩:=boxed w d r
 have nW:Nx W W:=Below.refl _ _
 have h8:=hO.p8
 obtain⟨al,cap,rfl⟩:=hl.cases
 rw [List.length_map] at hl ⊢
 obtain⟨ap,capp,ep⟩:=hd.plots.cases
 rw [List.length_map] at ep
 have hps:=hd.plots
 rw [ep] at hps
 have H13:=Lib.hid (fun w1 (nx:Nx W w1)=>show w1.cell? ⟨w.heap.size,13,none⟩=some (.slice ap d.plots.length capp) from (cW w1 nx 13 r.p rfl).trans (by rw [ep]))
 have HCW:=Lib.hid cW
 have HPS:=Lib.hid hps
 have HL:=Lib.hid hl
 have HD:=Lib.hid hd
 have HOO:=Lib.hid hO
 clear hps hl cW ep hd hO
 gi_enter Tryd.func51,Tryd.ntmps51
 gi_wp2
 gi_loopw [11,12,13] (fun hv wv i wr=>∃ (k:Nat) (q h v:Int),k≤l.length∧i=num k∧hv=num h∧wv=num v∧yae d holder (l.take k) (-1,0,0)=some (q,h,v)∧(k=0→q=-1)∧(0<k→l[k-1]?=some q)∧Nx W wr) (fun _ _ i _=>l.length-(intOf i).toNat)
 case atStart=>exact⟨0,-1,0,0,Nat.zero_le _,rfl,rfl,rfl,by simp [yae],fun _=>rfl,fun h=>absurd h (Nat.lt_irrefl _),nW⟩
 case round =>
  obtain⟨k,q,h,v,hk,rfl,rfl,rfl,hch,hq0,hq1,n2⟩:=hrel
  have hO:=HOO.out
  have hbd:=ybz hO holder _ _ _ hch (by simp) (by simp)
  simp only [Int.sub_neg,Int.sub_zero] at hbd
  have HCH:=Lib.hid hch
  have HQ0:=Lib.hid hq0
  clear hch hq0
  by_cases hlt:k<l.length
  ·obtain⟨bl,offl,hal,hbll,hcll⟩:=HL.out.get (by simp;omega)
   subst hal
   have hx:l[k]?=some l[k]:=List.getElem?_eq_getElem hlt
   generalize l[k]=x at hx
   have nw2:=Nx.trans n0 n2
   have ex:wr.cell? ⟨bl,offl+k,none⟩=some (num x):=(nw2.cell (p:=⟨bl,offl+k,none⟩) hbll).trans (by have:=hcll k 0 [num x] (num x) (by simp [hx]) rfl;simpa using this)
   have HCL:=Lib.hid hcll
   clear hcll
   have HOUT:=Lib.hid (fun (hh:∀ p,d.plotAt x=some p→¬ (q<x∧p.holder=holder∧(d.needs p).2=true))=>show yad d holder most l=(0,0,false) by
    unfold yad
    rw [yb7 hx HCH.out (yc0 hh)])
   have q13:=H13.out wr n2
   by_cases hin:0≤x∧x≤(d.plots.length:Int)-1
   ·have k71:=zbK (zby x 0 ((d.plots.length:Int)-1) wr) hin
    obtain⟨m,rfl⟩:=Int.eq_ofNat_of_zero_le hin.1
    have hml:m<d.plots.length:=by omega
    have hp:d.plots[m]?=some d.plots[m]:=List.getElem?_eq_getElem hml
    generalize d.plots[m]=p at hp
    have hpa:d.plotAt (m:Int)=some p:=by rw [ya6];exact hp
    obtain⟨bp,offp,hap,hblp,hclp⟩:=HPS.out.get (by simp;omega)
    subst hap
    have AT:=Lib.hid (fun w1 (nx:Nx w w1)=>Sl.at6 hclp nx hblp hp)
    obtain⟨g0,g1,g2,g3,g4,g5⟩:=AT.out wr nw2
    have kn:=yby d r m p wr (HD.out.nx nw2) hO hp
    have hpl:=hO.pl m p hp
    have hnb:=zos hO (p:=p) (by omega)
    have HPA:=Lib.hid hpa
    have hpw:=hpl.2.2.2.2.2
    have H71:=Lib.hid k71
    have k71:=H71.out
    have HC0:=Lib.hid (zaS (HCW.out wr n2))
    clear hclp hp hpa hpl
    generalize hnh:(d.needs p).1=nh at *
    generalize hno:(d.needs p).2=no at *
    have HNO:=Lib.hid hno
    have HNH:=Lib.hid hnh
    clear hno hnh
    by_cases hk0:k=0
    ·subst hk0
     have hqm:q<(m:Int):=by have:=HQ0.out rfl;omega
     have ex0:wr.cell? ⟨bl,offl,none⟩=some (num m):=by simpa using ex
     clear ex
     by_cases hho:p.holder=holder
     ·have bho:(p.holder != holder)=false:=by simpa using hho
      cases no with
      | false =>
       have HZ:=HOUT.out (fun p' hp' hh=>by
        have e:=HPA.out.symm.trans hp'
        obtain rfl:=Option.some.inj e
        rw [HNO.out] at hh
        exact absurd hh.2.2 (by simp))
       gi_upto_region 8 with (first
        | (gi_at_call 71;refine CallsIn.mono k71 ?_;rintro e w1 ⟨rfl,rfl⟩)
        | gi_in)
       clear q13 g0 g1 g2 g3 g4 g5
       obtain⟨c0,c1,c2,c3,c4,c5,c6,c7,c8,c9,c10,c11,c12,c13⟩:=HC0.out
       gi_wp2_with (first
        | (gi_at_call 86;refine CallsIn.mono kn ?_;rintro e w1 ⟨rfl,n3⟩)
        | gi_in)
       refine bodyPost_ret (v:=.tuple #[num 0,num 0,.bool false]) (by simp [results,Tryd.results51,go_sem]) rfl ?_
       exact⟨by rw [HZ],Nx.trans nw2 n3⟩
      | true =>
       have HST:Hid (yae d holder (l.take 1) (-1,0,0)=some ((m:Int),h+nh,v+p.worth)):=by
        show _=_
        rw [show (1:Nat)=0+1 from rfl,ya5 hx,HCH.out,Option.bind_some,yb8 HPA.out hqm hho HNO.out,HNH.out]
       gi_upto_region 8 with (first
        | (gi_at_call 71;refine CallsIn.mono k71 ?_;rintro e w1 ⟨rfl,rfl⟩)
        | gi_in)
       clear q13 g0 g1 g2 g3 g4 g5
       obtain⟨c0,c1,c2,c3,c4,c5,c6,c7,c8,c9,c10,c11,c12,c13⟩:=HC0.out
       gi_upto_region 11 with (first
        | (gi_at_call 86;refine CallsIn.mono kn ?_;rintro e w1 ⟨rfl,n3⟩)
        | gi_in)
       clear c0 c1 c2 c3 c4 c5 c6 c7 c8 c9 c10 c11 c12 c13
       have q13:=H13.out w1 (Nx.trans n2 n3)
       obtain⟨g0,g1,g2,g3,g4,g5⟩:=AT.out w1 (Nx.trans nw2 n3)
       gi_big_quiet_th (fail)
       gi_wp2
       exact⟨⟨1,m,h+nh,v+p.worth,hlt,by simp,rfl,rfl,HST.out,fun e=>absurd e (by omega),fun _=>by simpa using hx,Nx.drewN (Nx.trans n2 n3) _⟩,by simp [intOf];omega⟩
     ·have bho:(p.holder != holder)=true:=by simpa using hho
      have HZ:=HOUT.out (fun p' hp' hh=>by
       have e:=HPA.out.symm.trans hp'
       obtain rfl:=Option.some.inj e
       exact hho hh.2.1)
      gi_wp2_with (first
       | (gi_at_call 71;refine CallsIn.mono k71 ?_;rintro e w1 ⟨rfl,rfl⟩)
       | gi_in)
      refine bodyPost_ret (v:=.tuple #[num 0,num 0,.bool false]) (by simp [results,Tryd.results51,go_sem]) rfl ?_
      exact⟨by rw [HZ],nw2⟩
    ·have hkp:0<k:=by omega
     have hqq:=hq1 hkp
     have eq1:wr.cell? ⟨bl,offl+(k-1),none⟩=some (num q):=(nw2.cell (p:=⟨bl,offl+(k-1),none⟩) hbll).trans (by have:=HCL.out (k-1) 0 [num q] (num q) (by simp [hqq]) rfl;simpa using this)
     have ek1:((k:Int)-1).toNat=k-1:=by omega
     have hk1:(0:Int)≤(k:Int)-1∧(k:Int)-1<l.length:=by omega
     by_cases hqm:q<(m:Int)
     ·have bq:¬ ((m:Int)≤q):=by omega
      by_cases hho:p.holder=holder
      ·have bho:(p.holder != holder)=false:=by simpa using hho
       cases no with
       | false =>
        have HZ:=HOUT.out (fun p' hp' hh=>by
         have e:=HPA.out.symm.trans hp'
         obtain rfl:=Option.some.inj e
         rw [HNO.out] at hh
         exact absurd hh.2.2 (by simp))
        gi_upto_region 8 with (first
         | (gi_at_call 71;refine CallsIn.mono k71 ?_;rintro e w1 ⟨rfl,rfl⟩)
         | gi_in)
        clear q13 g0 g1 g2 g3 g4 g5
        obtain⟨c0,c1,c2,c3,c4,c5,c6,c7,c8,c9,c10,c11,c12,c13⟩:=HC0.out
        gi_wp2_with (first
         | (gi_at_call 86;refine CallsIn.mono kn ?_;rintro e w1 ⟨rfl,n3⟩)
         | gi_in)
        refine bodyPost_ret (v:=.tuple #[num 0,num 0,.bool false]) (by simp [results,Tryd.results51,go_sem]) rfl ?_
        exact⟨by rw [HZ],Nx.trans nw2 n3⟩
       | true =>
        have HST:Hid (yae d holder (l.take (k+1)) (-1,0,0)=some ((m:Int),h+nh,v+p.worth)):=by
         show _=_
         rw [ya5 hx,HCH.out,Option.bind_some,yb8 HPA.out hqm hho HNO.out,HNH.out]
        gi_upto_region 8 with (first
         | (gi_at_call 71;refine CallsIn.mono k71 ?_;rintro e w1 ⟨rfl,rfl⟩)
         | gi_in)
        clear q13 g0 g1 g2 g3 g4 g5
        obtain⟨c0,c1,c2,c3,c4,c5,c6,c7,c8,c9,c10,c11,c12,c13⟩:=HC0.out
        gi_upto_region 11 with (first
         | (gi_at_call 86;refine CallsIn.mono kn ?_;rintro e w1 ⟨rfl,n3⟩)
         | gi_in)
        clear c0 c1 c2 c3 c4 c5 c6 c7 c8 c9 c10 c11 c12 c13
        have q13:=H13.out w1 (Nx.trans n2 n3)
        obtain⟨g0,g1,g2,g3,g4,g5⟩:=AT.out w1 (Nx.trans nw2 n3)
        gi_big_quiet_th (fail)
        gi_wp2
        exact⟨⟨k+1,m,h+nh,v+p.worth,hlt,by simp,rfl,rfl,HST.out,fun e=>absurd e (by omega),fun _=>by simpa using hx,Nx.drewN (Nx.trans n2 n3) _⟩,by simp [intOf];omega⟩
      ·have bho:(p.holder != holder)=true:=by simpa using hho
       have HZ:=HOUT.out (fun p' hp' hh=>by
        have e:=HPA.out.symm.trans hp'
        obtain rfl:=Option.some.inj e
        exact hho hh.2.1)
       gi_wp2_with (first
        | (gi_at_call 71;refine CallsIn.mono k71 ?_;rintro e w1 ⟨rfl,rfl⟩)
        | gi_in)
       refine bodyPost_ret (v:=.tuple #[num 0,num 0,.bool false]) (by simp [results,Tryd.results51,go_sem]) rfl ?_
       exact⟨by rw [HZ],nw2⟩
     ·have bq:(m:Int)≤q:=by omega
      have HZ:=HOUT.out (fun p' hp' hh=>by
       have e:=HPA.out.symm.trans hp'
       obtain rfl:=Option.some.inj e
       exact hqm hh.1)
      gi_wp2_with (first
       | (gi_at_call 71;refine CallsIn.mono k71 ?_;rintro e w1 ⟨rfl,rfl⟩)
       | gi_in)
      refine bodyPost_ret (v:=.tuple #[num 0,num 0,.bool false]) (by simp [results,Tryd.results51,go_sem]) rfl ?_
      exact⟨by rw [HZ],nw2⟩
   ·have k71:=zbF (zby x 0 ((d.plots.length:Int)-1) wr) hin
    have HZ:=HOUT.out (fun p hp=>by
     obtain⟨k0,k1,_⟩:=yaf hp
     omega)
    gi_wp2_with (first
     | (gi_at_call 71;refine CallsIn.mono k71 ?_;rintro e w1 ⟨rfl,rfl⟩)
     | gi_in)
    refine bodyPost_ret (v:=.tuple #[num 0,num 0,.bool false]) (by simp [results,Tryd.results51,go_sem]) rfl ?_
    exact⟨by rw [HZ],nw2⟩
  ·obtain rfl:k=l.length:=by omega
   have HE:Hid (yad d holder most l=(h,v,decide (h≤most))):=by
    show _=_
    have:=HCH.out
    rw [List.take_length] at this
    exact ya8 this
   have HDM:=Lib.hid (show decide (h≤most)=decide (h≤most) from rfl)
   gi_wp2
   refine bodyPost_ret (v:=.tuple #[num h,num v,.bool (decide (h≤most))]) (by simp [results,Tryd.results51,go_sem]) rfl ?_
   exact⟨by rw [HE.out],Nx.trans n0 n2⟩
end Go.Proofs.YtolholkjeehamaaDoor

namespace Go.Proofs.YtolholkjeehamaaDoor
open Go.RowKit Go.Con Go.Conc
local instance zl_6:Lone:=zcG
def Hp (w w' : World):Prop:=w.heap.size≤w'.heap.size∧∀ b,b<w.heap.size→w'.heap[b]?=w.heap[b]?
theorem Hp.refl (w:World):Hp w w:=⟨Nat.le_refl _,fun _ _=>rfl⟩
theorem Hp.trans {a b c:World} (h:Hp a b) (k:Hp b c):Hp a c:=⟨Nat.le_trans h.1 k.1,fun x hx=>(k.2 x (Nat.lt_of_lt_of_le hx h.1)).trans (h.2 x hx)⟩
theorem Hp.nx {w w' : World} (n:Nx w w'):Hp w w':=⟨n.size,fun b hb=>n.block b hb⟩
theorem Hp.same {w w' : World} (e:w'.heap=w.heap):Hp w w':=⟨by rw [e];exact Nat.le_refl _,fun b _=>by rw [e]⟩
theorem Hp.old {w w' : World} (h:Hp w w'):Old w w':=.heap h.1 h.2
end Go.Proofs.YtolholkjeehamaaDoor

namespace Go.Con
open Go Go.Conc
section
variable [Lone]
variable {P:Program} {maps:Bool} {E Fz Arg:Nat→Prop} {W0:World} {f:FuncId} {t:Array Value} {k:List Item} {cs:List Frame} {W:World}
variable {Q:(Nat→Prop)→(Nat→Prop)→Goroutine→World→Prop} {φ:Ph} {pend:List Nat}
theorem Gm.pass {ops:Array Oper} {i:Nat} {rest:List Nat} {o:Oper} (ho:ops[i]?=some o) (hw:Region.wanted o (yielded ops t)=false) (hop:okOp P maps o.op=true) (hv:zgZ P (Fr f t []).eval o.op=true)
  (hg:GoM P maps E Fz Arg W0 Q φ pend (Fr f (putD t o.dst zu) (.inRegion ops rest :: k)) cs W):GoM P maps E Fz Arg W0 Q φ pend (Fr f t (.inRegion ops (i :: rest) :: k)) cs W:=by
 have he:(Fr f t (.inRegion ops (i :: rest) :: k)).eval=(Fr f t []).eval:=funext fun x=>by cases x<;>rfl
 refine GoM.step (zlM rfl rfl ho hop (by rw [he];exact hv)) ⟨fun it t' e=>?_,.inl rfl,fun d hdm=>(List.not_mem_nil hdm).elim,.inl rfl⟩ fun τ hτ=>?_
 ·cases e
  simp only [zex,ho,Option.all_some]
  exact hop
 ·refine⟨(Fr f t (.inRegion ops (i :: rest) :: k)).finish zu,cs,{ W with tape:=τ },?_,fun h=>h,?_⟩
  ·unfold zao
   dsimp only
   unfold zcD
   dsimp only
   rw [ho]
   simp only [Option.map_some,Option.getD_some,hw,Bool.false_eq_true,if_false]
   rfl
  ·rw [zbs ho]
   exact Gm.tape hg
end
end Go.Con
namespace Go.Proofs.YtolholkjeehamaaDoor
open Go.RowKit Go.Con Go.Conc
theorem yaa {ops:Array Oper} {o:Oper} {i d:Nat} {b:Bool} {t:Array Value} (hg:o.guard=some (i,b)) (hd:(ops[i]?).bind (·.dst)=some d) (hv:t[d]?=some (.bool (!b))):Region.wanted o (yielded ops t)=false:=by
 unfold Region.wanted yielded
 cases b<;>simp [hg,hd,hv]
theorem yab {ops:Array Oper} {o:Oper} {i d:Nat} {b:Bool} {t:Array Value} (hg:o.guard=some (i,b)) (hd:(ops[i]?).bind (·.dst)=some d) (hv:t[d]?=some zu):Region.wanted o (yielded ops t)=false:=by
 unfold Region.wanted yielded
 simp [hg,hd,hv,zu]
section
variable {dst:Option Nat} {ty:TypeId} {pos:String} {af:Array Edge} {x y c:Nat} {w:World} {gd:Option (Nat×Bool)} (e:Operand→Value)
theorem yas {b:Bool} (h:e (.tmp x)=.bool b) (τ:Tape):(execOp e ⟨dst,.unOp .not 4 (.tmp x),ty,pos,af,gd⟩).run Tryd.prog { w with tape:=τ }=.ok (.value (.bool (!b))) { w with tape:=τ }:=by
 simp [execOp,go_sem,h]
theorem yaw (h:e (.tmp c)=.bool true) (h2:e (.const (.bool true))=.bool true) (τ:Tape):(execOp e ⟨dst,.pick (.tmp c) (.const (.bool true)) (.tmp x),ty,pos,af,gd⟩).run Tryd.prog { w with tape:=τ }=.ok (.value (.bool true)) { w with tape:=τ }:=by
 simp [execOp,go_sem,h,h2]
theorem yar {v:Value} (h:e (.tmp c)=.bool false) (h2:e (.tmp x)=v) (τ:Tape):(execOp e ⟨dst,.pick (.tmp c) (.const (.bool true)) (.tmp x),ty,pos,af,gd⟩).run Tryd.prog { w with tape:=τ }=.ok (.value v) { w with tape:=τ }:=by
 simp [execOp,go_sem,h,h2]
end
end Go.Proofs.YtolholkjeehamaaDoor

namespace Go.Con
open Go Go.Conc
section
variable [Lone]
variable {P:Program} {maps:Bool} {E Arg:Nat→Prop} {W0:World} {f:FuncId} {k:List Item} {cs:List Frame}
variable {Q:(Nat→Prop)→(Nat→Prop)→Goroutine→World→Prop} {pend:List Nat}
theorem yde {ops:Array Oper} {n:Nat} (hn:yau ops n=true) {i j:Nat} (he:ybn ops i j=true):j<i:=by
 have hi:i<ops.size:=by
  rcases Nat.lt_or_ge i ops.size with h | h
  ·exact h
  ·unfold ybn at he
   rw [Array.getElem?_eq_none h] at he
   cases he
 unfold yau at hn
 rw [List.all_eq_true] at hn
 have h1:=hn i (List.mem_range.2 hi)
 rw [Bool.and_eq_true] at h1
 have h2:=h1.2
 have ho:ops[i]?=some ops[i]:=Array.getElem?_eq_getElem hi
 rw [ho,Option.any_some,Array.all_eq_true_iff_forall_mem] at h2
 unfold ybn at he
 rw [ho] at he
 simp only [Option.map_some,Option.getD_some] at he
 obtain⟨q,hq,he⟩:=Array.any_eq_true.1 he
 rw [Bool.and_eq_true,beq_iff_eq] at he
 have h3:=h2 _ (Array.getElem_mem hq)
 rw [he.1] at h3
 have h4:(ops[i]).after[q].on<i:=by simpa using h3
 omega
theorem ydk {ops:Array Oper} {C:World→Prop} {vs:Nat→Value} {t0:Array Value} (hn:yau ops t0.size=true)
  (hop:∀ i,i<ops.size→∀ t W Fz φ rest,C W→t.size=t0.size→(∀ j d,ybn ops i j=true→yai ops j=some d→t[d]?=some (vs j))→(∀ d,ya2 ops d=true→t[d]?=t0[d]?) →
   (∀ W' Fz' φ',C W'→GoM P maps E Fz' Arg W0 Q φ' pend (Fr f (putD t (yai ops i) (vs i)) (.inRegion ops rest :: k)) cs W')→GoM P maps E Fz Arg W0 Q φ pend (Fr f t (.inRegion ops (i :: rest) :: k)) cs W)
  (hend:∀ t W Fz φ,C W→t.size=t0.size→(∀ j d,yai ops j=some d→t[d]?=some (vs j))→(∀ d,ya2 ops d=true→t[d]?=t0[d]?)→GoM P maps E Fz Arg W0 Q φ pend (Fr f t k) cs W) :
  ∀ (m i:Nat) (t:Array Value) (W:World) Fz φ,i+m=ops.size→t.size=t0.size→(∀ j d,j<i→yai ops j=some d→t[d]?=some (vs j))→(∀ d,ya2 ops d=true→t[d]?=t0[d]?)→C W →
   GoM P maps E Fz Arg W0 Q φ pend (Fr f t (.inRegion ops (List.range' i m) :: k)) cs W:=by
 intro m
 induction m with
 | zero =>
  intro i t W Fz φ hi hs hg ho hC
  exact Gm.regionEnd (hend t W Fz φ hC hs (fun j d hj=>hg j d (by have:=yaz hj;omega) hj) ho)
 | succ m ih =>
  intro i t W Fz φ hi hs hg ho hC
  obtain⟨di,hdi,hdn,_⟩:=ya9 hn (show i<ops.size by omega)
  refine hop i (by omega) t W Fz φ _ hC hs (fun j d he hj=>hg j d (yde hn he) hj) ho fun W' Fz' φ' hC'=>?_
  refine ih (i+1) _ W' Fz' φ' (by omega) ?_ ?_ ?_ hC'
  ·rw [hdi]
   simp only [putD,Array.size_setIfInBounds]
   exact hs
  ·intro j d hj hd
   rw [hdi]
   simp only [putD]
   by_cases hij:i=j
   ·subst hij
    rw [hdi] at hd
    cases hd
    exact Array.getElem?_setIfInBounds_self_of_lt (by rw [hs];exact hdn)
   ·have hne:di≠d:=fun h=>hij (ycz hn hdi (h ▸ hd))
    rw [Array.getElem?_setIfInBounds_ne hne]
    exact hg j d (by omega) hd
  ·intro d hd
   rw [hdi]
   simp only [putD]
   have hne:di≠d:=fun h=>ybw hd i (h ▸ hdi)
   rw [Array.getElem?_setIfInBounds_ne hne]
   exact ho d hd
theorem Gm.regionSeq {Fz:Nat→Prop} {φ:Ph} {t0:Array Value} {W:World} {id:Nat} {ops:Array Oper} (C:World→Prop) (vs:Nat→Value) (hn:yau ops t0.size=true) (hC:C W)
  (hop:∀ i,i<ops.size→∀ t W Fz φ rest,C W→t.size=t0.size→(∀ j d,ybn ops i j=true→yai ops j=some d→t[d]?=some (vs j))→(∀ d,ya2 ops d=true→t[d]?=t0[d]?) →
   (∀ W' Fz' φ',C W'→GoM P maps E Fz' Arg W0 Q φ' pend (Fr f (putD t (yai ops i) (vs i)) (.inRegion ops rest :: k)) cs W')→GoM P maps E Fz Arg W0 Q φ pend (Fr f t (.inRegion ops (i :: rest) :: k)) cs W)
  (hend:∀ t W Fz φ,C W→t.size=t0.size→(∀ j d,yai ops j=some d→t[d]?=some (vs j))→(∀ d,ya2 ops d=true→t[d]?=t0[d]?)→GoM P maps E Fz Arg W0 Q φ pend (Fr f t k) cs W) :
  GoM P maps E Fz Arg W0 Q φ pend (Fr f t0 (.code (.region id ops false) :: k)) cs W:=by
 refine Gm.region ?_
 rw [List.range_eq_range']
 exact ydk hn hop hend _ _ _ _ _ _ (by omega) rfl (fun j d h _=>absurd h (Nat.not_lt_zero _)) (fun _ _=>rfl) hC
end
end Go.Con

