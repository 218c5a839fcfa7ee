/- For every ditch and any three 32 bit numbers the law TurnSum returns true, does not panic, and leaves the ditch as it was. Conditions: the package's variables hold what the program lays in them at its start (the statement's own word: laid), and the ditch is a value as the statement's card tells it. -/
import Derived.Test.YtolholkjeehamaaDoorK1
import Derived.Test.YtolholkjeehamaaDoorC40
import Derived.Test.YtolholkjeehamaaDoorC39
import Derived.Test.YtolholkjeehamaaDoorC34
import Derived.Test.YtolholkjeehamaaDoorC09
set_option linter.all false
set_option maxRecDepth 100000
set_option maxHeartbeats 4000000
namespace Go.Proofs.YtolholkjeehamaaDoor
theorem mine_01 (d:Dit) (holder x:Int):d.mine holder x=0∨d.mine holder x=1:=by
 unfold Dit.mine
 split
 ·exact own_01 ..
 ·exact .inl rfl
theorem Dit.Ok.hours_step {d:Dit} (hO:d.Ok) (holder a:Int) {b:Int} (hb:0≤b):d.hoursW holder a (b+1)=d.hoursW holder a b+d.mine holder b:=by
 rw [hoursW_had,hoursW_had,hO.ran_step hb]
 unfold Dit.mine
 split
 ·rw [hO.had_step (hO.ran_nonneg b)];omega
 ·rw [Int.add_zero];omega
end Go.Proofs.YtolholkjeehamaaDoor
namespace Go.Proofs.YtolholkjeehamaaDoor
open Go.RowKit
def runningF (d:Dit) (a b:Int):Int×Int:=if checkS d≠0 then (0,checkS d) else if stretchS a b≠0 then (0,stretchS a b) else (d.ran b-d.ran a,0)
theorem ran_W {w:World} {B M:Nat} {d:Dit} (hw:Wtr w B M d d.ends d.cyc d.keys d.oth) (hO:d.Ok) {h:Int} (hh : -1000000000000≤h∧h≤1000000000000) :
  CallsIn FL 0 Tryd.prog 78 #[.pointer (some ⟨B,0,none⟩),num h] w fun e w'=>e=.returned (num (d.ran h))∧Nx w w':=ran_any B d h w hw.wat.dit hO.times hh
set_option maxRecDepth 100000 in
set_option maxHeartbeats 4000000 in
theorem running_any (d:Dit) (r:Rows6) (a b:Int) (w:World) (hd:DitSl w d r) (hs:d.Small) (hg:Glob w) :
  CallsIn FL 0 Tryd.prog 42 #[d.val r,num a,num b] w fun e w'=>e=.returned (.tuple #[num (runningF d a b).1,num (runningF d a b).2])∧Nx w w':=by
 obtain⟨W,hW,n0,hWs,cW⟩:=boxed w d r
 have nWW:Nx W W:=Below.refl _ _
 obtain⟨c0,c1,c2,c3,c4,c5,c6,c7,c8,c9,c10,c11,c12,c13⟩:=cells14 (cW _ nWW)
 have fin:∀ {x y:Int},runningF d a b=(x,y)→Ending.returned (.tuple #[num x,num y])=.returned (.tuple #[num (runningF d a b).1,num (runningF d a b).2]):=fun e=>by rw [e]
 by_cases hc:checkS d=0
 ·have hO:=ok_of_check hc
  have k66:=open_any d r W (hd.nx n0) hs (hg.nx n0) hc
  have k77:=fun w1=>stretch_any a b w1
  by_cases hst:stretchS a b=0
  ·have HA:Hid (runningF d a b=(d.ran b-d.ran a,0)):=by show _=_;unfold runningF;rw [if_neg (by simp [hc]),if_neg (by simp [hst])]
   obtain⟨ha,hb,hab⟩:=stretch_ok hst
   rw [hst] at k77
   have hra:=ran_bd2 hO.times hO.roomy (h:=a) (by omega)
   have hrb:=ran_bd2 hO.times hO.roomy (h:=b) (by omega)
   clear hc cW hst
   gi_enter Tryd.func42,Tryd.ntmps42
   gi_wp2_with (first
    | (gi_at_call 66;refine CallsIn.mono k66 ?_;rintro e w1 ⟨B,M,rfl,n1,hB,hw⟩;have HW:=Lib.hid hw;have n2:Nx w1 w1:=Below.refl _ _;have k78:∀ wx h,Nx w1 wx→-1000000000000≤h∧h≤1000000000000→CallsIn FL 0 Tryd.prog 78 #[.pointer (some ⟨B,0,none⟩),num h] wx (fun e w'=>e=.returned (num (d.ran h))∧Nx w1 w'):=fun wx h nx hh=>(ran_W (hw.nx nx) hO hh).mono (fun e w' hx=>⟨hx.1,Nx.trans nx hx.2⟩);clear hw)
    | (gi_at_call 77;refine CallsIn.mono (k77 _) ?_;rintro e w1 ⟨rfl,rfl⟩)
    | (gi_at_call 78;refine CallsIn.mono (k78 _ _ (by assumption) (by omega)) ?_;rintro e w2 ⟨rfl,n2⟩)
    | gi_in)
   go_ret2
   exact⟨fin HA.out,Nx.trans n0 (Nx.trans n1 n2)⟩
  ·have HA:Hid (runningF d a b=(0,stretchS a b)):=by show _=_;unfold runningF;rw [if_neg (by simp [hc]),if_pos hst]
   have hb:(stretchS a b != 0)=true:=by simpa using hst
   clear hc cW hO hst
   gi_enter Tryd.func42,Tryd.ntmps42
   gi_wp2_with (first
    | (gi_at_call 66;refine CallsIn.mono k66 ?_;rintro e w1 ⟨B,M,rfl,n1,hB,hw⟩;clear hw)
    | (gi_at_call 77;refine CallsIn.mono (k77 _) ?_;rintro e w1 ⟨rfl,rfl⟩)
    | gi_in)
   go_ret2
   exact⟨fin HA.out,Nx.trans n0 n1⟩
 ·have k66:=open_bad d r W (hd.nx n0) hs (hg.nx n0) hc
  have HA:Hid (runningF d a b=(0,checkS d)):=by show _=_;unfold runningF;rw [if_pos hc]
  have hb:(checkS d != 0)=true:=by simpa using hc
  have hb2:(checkS d == 0)=false:=by simpa using hc
  clear cW hc
  gi_enter Tryd.func42,Tryd.ntmps42
  gi_wp2_with (first
   | (gi_at_call 66;refine CallsIn.mono k66 ?_;rintro e w1 ⟨rfl,n1⟩)
   | gi_in)
  go_ret2
  exact⟨fin HA.out,Nx.trans n0 n1⟩
end Go.Proofs.YtolholkjeehamaaDoor

namespace Go.Proofs.YtolholkjeehamaaDoor
theorem Dit.Ok.oth_len {d:Dit} (hO:d.Ok) (c:Int):(d.oth c).length=d.turns.length:=by
 by_cases hc:c∈d.keys
 ·rw [hO.chg.len c hc]
 ·rw [oth_us hc];simp [Dit.us]
theorem Dit.Ok.owner_mine {d:Dit} (hO:d.Ok) {k h:Int} (hk:0≤k) (hh:0≤h):(d.owner h).1=k↔d.mine k h=1:=by
 have hs:=hO.ran_step hh
 by_cases hr:d.runs h=true
 ·have hr0:=hO.ran_nonneg h
  have hT:=hO.cyc_pos
  rw [if_pos hr] at hs
  have hq:0≤(d.ran h).tdiv d.cyc:=Int.tdiv_nonneg hr0 (by omega)
  have htl:=hO.turn_lt (d.ran h)
  have hl:=hO.oth_len ((d.ran h).tdiv d.cyc)
  have hw:(if (d.ran h).tdiv d.cyc∈d.keys then d.oth ((d.ran h).tdiv d.cyc) else d.us)=d.oth ((d.ran h).tdiv d.cyc):=by
   split
   ·rfl
   ·rename_i hn;rw [oth_us hn]
  have hat:d.at d.ends d.cyc h=((d.ran h).tdiv d.cyc,(turnS d.ends ((d.ran h).tmod d.cyc) 12 0:Int)):=by unfold Dit.at;rw [if_neg (by omega)]
  unfold Dit.mine Dit.owner Dit.own Dit.has whoS
  rw [if_pos hr,hat]
  simp only []
  rw [if_neg (by omega),hw,Int.toNat_natCast]
  have e1:d.ran h / d.cyc=(d.ran h).tdiv d.cyc:=(Int.tdiv_eq_ediv_of_nonneg hr0).symm
  have e2:d.turn (d.ran h % d.cyc)=turnS d.ends ((d.ran h).tmod d.cyc) 12 0:=by
   unfold Dit.turn;rw [Int.tmod_eq_emod_of_nonneg hr0]
  rw [e1,e2]
  generalize turnS d.ends ((d.ran h).tmod d.cyc) 12 0=t at htl
  generalize d.oth ((d.ran h).tdiv d.cyc)=l at hl
  rw [List.getElem?_eq_getElem (show t<l.length by omega)]
  simp
 ·rw [if_neg hr] at hs
  have hat:d.at d.ends d.cyc h=(-1,-1):=by unfold Dit.at;rw [if_pos (by omega)]
  unfold Dit.mine Dit.owner whoS
  rw [if_neg hr,hat]
  simp
  omega
theorem ask_zero {d:Dit} (hc:checkS d=0) {k a b:Int} (hk:0≤k∧k≤(d.holders.length:Int)-1) (ha:0≤a) (hab:a≤b) (hb:b≤999999999):askS d k a b=0:=by
 unfold askS stretchS
 rw [if_neg (by simp [hc]),if_neg (by simpa using hk)]
 split
 ·omega
 ·split<;>omega
end Go.Proofs.YtolholkjeehamaaDoor

namespace Go.Proofs.YtolholkjeehamaaDoor
theorem all_set {P:Int→Prop} {l:List Int} (h:∀ x∈l,P x) {v:Int} (hv:P v) (i:Nat):∀ x∈l.set i v,P x:=fun x hx=>by
 rcases List.mem_or_eq_of_mem_set hx with h1 | h1
 ·exact h x h1
 ·rw [h1];exact hv
theorem all_getD {P:Int→Prop} {l:List Int} (h:∀ x∈l,P x) (h0:P 0) (i:Nat):P ((l[i]?).getD 0):=by
 rcases hi:l[i]? with _ | x
 ·exact h0
 ·exact h x (List.mem_of_getElem? hi)
theorem all_oth2 {P:Int→Prop} (h0:P 0) (x:Int):∀ (sw:List (Int×Int×Int)) (us:List Int),(∀ v∈us,P v)→∀ v∈oth2 us sw x,P v
 | [],_,h=>h
 | s :: sw,us,h=>by
  show ∀ v∈oth2 (if s.1=x then swapL us s.2.1.toNat s.2.2.toNat else us) sw x,P v
  refine all_oth2 h0 x sw _ ?_
  split
  ·exact all_set (all_set h (all_getD h h0 _) _) (all_getD h h0 _) _
  ·exact h
theorem all_oth3 {P:Int→Prop} (x:Int):∀ (lo:List (Int×Int×Int)) (us:List Int),(∀ s∈lo,P s.2.2)→(∀ v∈us,P v)→∀ v∈oth3 us lo x,P v
 | [],_,_,h=>h
 | s :: lo,us,hl,h=>by
  show ∀ v∈oth3 (if s.1=x then us.set s.2.1.toNat s.2.2 else us) lo x,P v
  refine all_oth3 x lo _ (fun s hs=>hl s (List.mem_cons_of_mem _ hs)) ?_
  split
  ·exact all_set h (hl s (List.mem_cons_self ..)) _
  ·exact h
theorem Dit.Ok.oth_all {d:Dit} (hO:d.Ok) (x:Int):∀ v∈d.oth x,0≤v∧v≤(d.holders.length:Int)-1:=by
 have hu:∀ v∈d.us,0≤v∧v≤(d.holders.length:Int)-1:=fun v hv=>by
  obtain⟨y,hy,rfl⟩:=List.mem_map.1 hv
  exact (hO.th y hy).1
 have h0:0≤(0:Int)∧(0:Int)≤(d.holders.length:Int)-1:=by
  rcases ht:d.turns with _ | ⟨y,l⟩
  ·have:=hO.t12;rw [ht] at this;simp at this
  ·have:=(hO.th y (by rw [ht];exact List.mem_cons_self ..)).1;omega
 exact all_oth3 (P:=fun v=>0≤v∧v≤(d.holders.length:Int)-1) x _ _ (fun s hs=>(hO.lo s hs).2.2) (all_oth2 h0 x _ _ hu)
theorem Dit.Ok.hour {d:Dit} (hO:d.Ok) {h:Int} (hh:0≤h):(d.owner h=(-1,-1,-1)∧d.ran (h+1)=d.ran h) ∨
  (∃ k c t,d.owner h=(k,c,t)∧(0≤k∧k≤(d.holders.length:Int)-1)∧0≤c∧(0≤t∧t<(d.turns.length:Int))∧d.begin_≤h∧d.ran (h+1)=d.ran h+1):=by
 have hs:=hO.ran_step hh
 by_cases hr:d.runs h=true
 ·have hr0:=hO.ran_nonneg h
  have hT:=hO.cyc_pos
  rw [if_pos hr] at hs
  have hq:0≤(d.ran h).tdiv d.cyc:=Int.tdiv_nonneg hr0 (by omega)
  have htl:=hO.turn_lt (d.ran h)
  have hl:=hO.oth_len ((d.ran h).tdiv d.cyc)
  have ha:=hO.oth_all ((d.ran h).tdiv d.cyc)
  have hw:(if (d.ran h).tdiv d.cyc∈d.keys then d.oth ((d.ran h).tdiv d.cyc) else d.us)=d.oth ((d.ran h).tdiv d.cyc):=by
   split
   ·rfl
   ·rename_i hn;rw [oth_us hn]
  have hat:d.at d.ends d.cyc h=((d.ran h).tdiv d.cyc,(turnS d.ends ((d.ran h).tmod d.cyc) 12 0:Int)):=by unfold Dit.at;rw [if_neg (by omega)]
  have hb:d.begin_≤h:=by
   rcases Int.lt_or_le h d.begin_ with hlt | hle
   ·have:=ran_low (d:=d) (h:=h) (by omega)
    have:=ran_low (d:=d) (h:=h+1) (by omega)
    omega
   ·exact hle
  refine .inr ⟨_,_,_,rfl,?_,?_,?_,hb,hs⟩
  ·rw [hat]
   unfold whoS
   simp only []
   rw [if_neg (by omega),hw,Int.toNat_natCast]
   generalize turnS d.ends ((d.ran h).tmod d.cyc) 12 0=t at htl
   generalize d.oth ((d.ran h).tdiv d.cyc)=l at hl ha
   rw [List.getElem?_eq_getElem (show t<l.length by omega)]
   exact ha _ (List.getElem_mem _)
  ·rw [hat];exact hq
  ·rw [hat];exact⟨by simp,by simpa using htl⟩
 ·rw [if_neg hr] at hs
  have hat:d.at d.ends d.cyc h=(-1,-1):=by unfold Dit.at;rw [if_pos (by omega)]
  refine .inl ⟨?_,by omega⟩
  unfold Dit.owner whoS
  rw [hat]
  simp
end Go.Proofs.YtolholkjeehamaaDoor

namespace Go.Proofs.YtolholkjeehamaaDoor
def sumN (f:Nat→Int):Nat→Int
 | 0=>0
 | n+1=>sumN f n+f n
theorem sumN_add {f g k:Nat→Int}:∀ n:Nat,(∀ i,i<n→f i=g i+k i)→sumN f n=sumN g n+sumN k n
 | 0,_=>rfl
 | n+1,h=>by
  have h1:=sumN_add n (fun i hi=>h i (by omega))
  have h2:=h n (by omega)
  show sumN f n+f n=sumN g n+g n+(sumN k n+k n)
  omega
theorem sumN_zero {f:Nat→Int}:∀ n:Nat,(∀ i,i<n→f i=0)→sumN f n=0
 | 0,_=>rfl
 | n+1,h=>by
  have h1:=sumN_zero n (fun i hi=>h i (by omega))
  have h2:=h n (by omega)
  show sumN f n+f n=0
  omega
theorem sumN_one {f:Nat→Int} {k:Int}:∀ n:Nat,(∀ i:Nat,i<n→f i=if (i:Int)=k then 1 else 0)→sumN f n=if 0≤k∧k<n then 1 else 0
 | 0,_=>by rw [if_neg (by omega)];rfl
 | n+1,h=>by
  have h1:=sumN_one n (fun i hi=>h i (by omega))
  have h2:=h n (by omega)
  show sumN f n+f n=_
  rw [h1,h2]
  split<;>split<;>split<;>omega
theorem sumN_le {f:Nat→Int} {m:Int}:∀ n:Nat,(∀ i,i<n→0≤f i∧f i≤m)→0≤sumN f n∧sumN f n≤n * m
 | 0,_=>by simp [sumN]
 | n+1,h=>by
  have h1:=sumN_le n (fun i hi=>h i (by omega))
  have h2:=h n (by omega)
  show 0≤sumN f n+f n∧sumN f n+f n≤((n+1:Nat):Int) * m
  have:((n+1:Nat):Int) * m=n * m+m:=by rw [Int.natCast_add,Int.add_mul];simp
  omega
theorem Dit.Ok.mine_sum {d:Dit} (hO:d.Ok) {h:Int} (hh:0≤h):sumN (fun i=>d.mine i h) d.holders.length=d.ran (h+1)-d.ran h:=by
 rcases hO.hour hh with ⟨e1,e2⟩ | ⟨k,c,t,e1,e2,e3,e4,e5,e6⟩
 ·rw [sumN_zero _ fun i hi=>?_]
  ·omega
  ·have h1:=hO.owner_mine (k:=i) (h:=h) (by omega) hh
   rw [e1] at h1
   have h0:d.mine i h≠1:=fun e=>by have:=h1.2 e;simp at this
   have h2:=mine_01 d i h
   omega
 ·rw [sumN_one (k:=k) _ fun i hi=>?_,if_pos (by omega)]
  ·omega
  ·have h1:=hO.owner_mine (k:=i) (h:=h) (by omega) hh
   rw [e1] at h1
   have h2:=mine_01 d i h
   by_cases e:(i:Int)=k
   ·rw [if_pos e];exact h1.1 e.symm
   ·rw [if_neg e]
    have h3:d.mine i h≠1:=fun h=>e (h1.2 h).symm
    omega
theorem Dit.Ok.hours_sum {d:Dit} (hO:d.Ok) {a:Int} (ha:0≤a):∀ n:Nat,sumN (fun i=>d.hoursW i a (a+n)) d.holders.length=d.ran (a+n)-d.ran a
 | 0=>by
  rw [sumN_zero _ fun i _=>by simp [hours_self]]
  simp
 | n+1=>by
  have ih:=Dit.Ok.hours_sum hO ha n
  have hm:=hO.mine_sum (h:=a+n) (by omega)
  have e:a+((n+1:Nat):Int)=a+n+1:=by omega
  rw [e,sumN_add (g:=fun i=>d.hoursW i a (a+n)) (k:=fun i=>d.mine i (a+n)) _ fun i _=>hO.hours_step i a (by omega)]
  omega
theorem sum_law {d:Dit} (hc:checkS d=0) {a m b:Int} (ha:0≤a∧a≤m∧m≤b∧b≤999999999) :
  ∃ f g h:Nat→Int,∃ x y z:Int,(∀ i:Nat,i<d.holders.length→hoursF d i a b=(f i,0)∧hoursF d i a m=(g i,0)∧hoursF d i m b=(h i,0)∧f i=g i+h i∧0≤g i∧0≤h i∧f i≤1000000000) ∧
   runningF d a b=(x,0)∧runningF d a m=(y,0)∧runningF d m b=(z,0)∧x=sumN f d.holders.length∧x=y+z∧x≤b-a∧0≤y∧0≤z:=by
 have hO:=ok_of_check hc
 have run:∀ u v,0≤u→u≤v→v≤999999999→runningF d u v=(d.ran v-d.ran u,0):=fun u v h1 h2 h3=>by
  have hst:stretchS u v=0:=by unfold stretchS;rw [if_neg (by omega),if_neg (by omega)]
  unfold runningF;rw [if_neg (by simp [hc]),if_neg (by simp [hst])]
 have hrs:∀ (i:Nat) u v,i<d.holders.length→0≤u→u≤v→v≤999999999→hoursF d i u v=(d.hoursW i u v,0):=fun i u v hi h1 h2 h3=>by
  unfold hoursF;rw [if_neg (by simp [ask_zero (d:=d) (k:=i) hc (by omega) h1 h2 h3])]
 have r1:=hO.ran_mono (a:=a) (b:=m) (by omega) (by omega)
 have r2:=hO.ran_mono (a:=m) (b:=b) (by omega) (by omega)
 have r0:=hO.ran_nonneg a
 refine⟨fun i=>d.hoursW i a b,fun i=>d.hoursW i a m,fun i=>d.hoursW i m b,_,_,_,fun i hi=>⟨hrs i a b hi (by omega) (by omega) (by omega),hrs i a m hi (by omega) (by omega) (by omega),hrs i m b hi (by omega) (by omega) (by omega),?_⟩,
  run a b (by omega) (by omega) (by omega),run a m (by omega) (by omega) (by omega),run m b (by omega) (by omega) (by omega),?_,by omega,by omega,by omega,by omega⟩
 ·have h1:=hO.had_mono i (a:=d.ran a) (b:=d.ran m) (by omega) (by omega)
  have h2:=hO.had_mono i (a:=d.ran m) (b:=d.ran b) (by omega) (by omega)
  show d.hoursW i a b=d.hoursW i a m+d.hoursW i m b∧0≤d.hoursW i a m∧0≤d.hoursW i m b∧d.hoursW i a b≤_
  rw [hoursW_had,hoursW_had,hoursW_had]
  omega
 ·have:=hO.hours_sum (a:=a) (by omega) (b-a).toNat
  rw [show a+((b-a).toNat:Int)=b by omega] at this
  exact this.symm
end Go.Proofs.YtolholkjeehamaaDoor

namespace Go.Proofs.YtolholkjeehamaaDoor
open Go.RowKit Go.Con Go.Conc
local instance:Lone:=mainL
section
variable {dst:Option Nat} {ty:TypeId} {pos:String} {af:Array Edge} {x y c b o:Nat} {w:World} {gd:Option (Nat×Bool)} (e:Operand→Value)
theorem addR_run {n m k:Int} (h:e (.tmp x)=num n) (h2:e (.tmp y)=num m) (hb : -9223372036854775808≤n+m∧n+m≤9223372036854775807) (hk:n+m=k) (τ:Tape):(execOp e ⟨dst,.binOp .add 3 (.tmp x) (.tmp y) 3,ty,pos,af,gd⟩).run Tryd.prog { w with tape:=τ }=.ok (.value (num k)) { w with tape:=τ }:=by
 subst hk
 simp [execOp,go_sem,h,h2]
 exact IntWalk.i64_in _ hb
theorem subR_run {n m k:Int} (h:e (.tmp x)=num n) (h2:e (.tmp y)=num m) (hb : -9223372036854775808≤n-m∧n-m≤9223372036854775807) (hk:n-m=k) (τ:Tape):(execOp e ⟨dst,.binOp .sub 3 (.tmp x) (.tmp y) 3,ty,pos,af,gd⟩).run Tryd.prog { w with tape:=τ }=.ok (.value (num k)) { w with tape:=τ }:=by
 subst hk
 simp [execOp,go_sem,h,h2]
 exact IntWalk.i64_in _ hb
theorem leqR_run {n m:Int} (h:e (.tmp x)=num n) (h2:e (.tmp y)=num m) (hn:n≤m) (τ:Tape):(execOp e ⟨dst,.binOp .leq 3 (.tmp x) (.tmp y) 3,ty,pos,af,gd⟩).run Tryd.prog { w with tape:=τ }=.ok (.value (.bool true)) { w with tape:=τ }:=by
 simp [execOp,go_sem,h,h2,hn]
theorem eqcR37_run {n:Int} (h:e (.tmp x)=num n) (h2:e (.const (.int .i64 n))=num n) (τ:Tape):(execOp e ⟨dst,.binOp .eql 37 (.tmp x) (.const (.int .i64 n)) 37,ty,pos,af,gd⟩).run Tryd.prog { w with tape:=τ }=.ok (.value (.bool true)) { w with tape:=τ }:=by
 simp [execOp,go_sem,h,h2]
end
theorem min3_run (a b c:Int) (w:World):(Builtin.min_ #[3,3,3] 3 #[.int .i64 a,.int .i64 b,.int .i64 c]).run Tryd.prog w=.ok (.int .i64 (min (min a b) c)) w:=by
 rw [show min (min a b) c=if c<(if b<a then b else a) then c else if b<a then b else a by omega]
 by_cases h:b<a<;>simp [Builtin.min_,Builtin.min2,go_sem,h]
theorem max3_run (a b c:Int) (w:World):(Builtin.max_ #[3,3,3] 3 #[.int .i64 a,.int .i64 b,.int .i64 c]).run Tryd.prog w=.ok (.int .i64 (max (max a b) c)) w:=by
 rw [show max (max a b) c=if (if a<b then b else a)<c then c else if a<b then b else a by omega]
 by_cases h:a<b<;>simp [Builtin.max_,Builtin.max2,go_sem,h]
end Go.Proofs.YtolholkjeehamaaDoor

namespace Go.Proofs.YtolholkjeehamaaDoor
open Go.RowKit Go.Con Go.Conc
local instance:Lone:=mainL
noncomputable def lawB12:Code:=match Tryd.f12.body with | some c=>c | none=>.skip
noncomputable def s0:Code:=seqL lawB12
noncomputable def sp1:Code:=seqR lawB12
noncomputable def s1:Code:=seqL (seqL sp1)
noncomputable def s2:Code:=match seqR (seqL sp1) with | .cond _ x _=>seqL x | c=>c
noncomputable def sp2:Code:=seqR sp1
noncomputable def s3:Code:=seqL sp2
noncomputable def sp3:Code:=seqR sp2
noncomputable def s4:Code:=seqL sp3
noncomputable def sp4:Code:=seqR sp3
noncomputable def s5:Code:=seqL sp4
noncomputable def sp5:Code:=seqR sp4
noncomputable def s6:Code:=seqL sp5
noncomputable def sp6:Code:=seqR sp5
noncomputable def s7:Code:=seqL sp6
noncomputable def sp7:Code:=seqR sp6
noncomputable def s16:Code:=seqL sp7
noncomputable def sp8:Code:=seqR sp7
noncomputable def s17:Code:=seqL sp8
noncomputable def sp9:Code:=seqR sp8
noncomputable def s18:Code:=seqL sp9
noncomputable def sp10:Code:=seqR sp9
noncomputable def s19:Code:=seqL sp10
theorem lawB12_eq:lawB12=.seq s0 (.seq (.seq s1 (.cond (.tmp 36) (.seq s2 .ret) .skip)) (.seq s3 (.seq s4 (.seq s5 (.seq s6 (.seq s7 (.seq s16 (.seq s17 (.seq s18 (.seq s19 .ret)))))))))):=by kernel_rfl
theorem lawB12_of:Tryd.f12.body=some lawB12:=by kernel_rfl
noncomputable def ops2:Array Oper:=opsOf s2
theorem s2_eq:s2=.region 2 ops2 false:=by kernel_rfl
noncomputable def ops19:Array Oper:=opsOf s19
theorem s19_eq:s19=.region 19 ops19 false:=by kernel_rfl
def SumR (W:World) (t:Array Value) (W2:World):Prop:=Old W W2∧∃ n y z lo hi:Int,n=y+z∧n≤hi-lo∧(0≤lo∧lo≤hi∧hi≤999999999)∧(0≤y∧0≤z)∧t.size=176∧t[24]?=some (num 0)∧t[26]?=some (num 0)∧t[28]?=some (num 0)∧t[23]?=some (num n)∧t[15]?=some (num n)∧t[25]?=some (num y)∧t[27]?=some (num z)∧t[13]?=some (num hi)∧t[12]?=some (num lo)
theorem sum_lone (d:Dit) (r:Rows6) (x y z:Int) (W:World) (hd:DitSl W d r) (hb:d.Big) (hg:Glob W) (hx:0≤x∧x≤4294967295) (hy:0≤y∧y≤4294967295) (hz:0≤z∧z≤4294967295) :
  Lones Tryd.prog (FG 12) [s0,s1] (fun t W1=>Old W W1∧t.size=176∧(t[36]?=some (.bool true)∨(t[36]?=some (.bool false)∧Lones Tryd.prog (FG 12) [s3,s4,s5,s6,s7,s16,s17,s18] (SumR W) t W1)))
   #[d.val r,.int .u32 x,.int .u32 y,.int .u32 z,undef,undef,undef,undef,undef,undef,undef,undef,undef,undef,undef,undef,undef,undef,undef,undef,undef,undef,undef,undef,undef,undef,undef,undef,undef,undef,undef,undef,undef,undef,undef,undef,undef,undef,undef,undef,undef,undef,undef,undef,undef,undef,undef,undef,undef,undef,undef,undef,undef,undef,undef,undef,undef,undef,undef,undef,undef,undef,undef,undef,undef,undef,undef,undef,undef,undef,undef,undef,undef,undef,undef,undef,undef,undef,undef,undef,undef,undef,undef,undef,undef,undef,undef,undef,undef,undef,undef,undef,undef,undef,undef,undef,undef,undef,undef,undef,undef,undef,undef,undef,undef,undef,undef,undef,undef,undef,undef,undef,undef,undef,undef,undef,undef,undef,undef,undef,undef,undef,undef,undef,undef,undef,undef,undef,undef,undef,undef,undef,undef,undef,undef,undef,undef,undef,undef,undef,undef,undef,undef,undef,undef,undef,undef,undef,undef,undef,undef,undef,undef,undef,undef,undef,undef,undef,undef,undef,undef,undef,undef,undef,undef,undef,undef,undef,undef,undef,undef,undef,undef,undef,undef,undef] W:=by
 intro τ
 generalize hw0:({ W with tape:=τ }:World)=w0
 have hO0:Old W w0:=by rw [← hw0];exact .same rfl
 clear hw0
 have hd0:=hd.old hO0
 obtain⟨V,hV,nV,hVs,cV⟩:=boxed w0 d r
 have nVV:Nx V V:=Below.refl _ _
 simp only [s0,lawB12,seqL,seqR,Tryd.f12]
 gi_wp2
 intro τ1
 generalize hw1:({ V with tape:=τ1 }:World)=w1
 have hO1:Old V w1:=by rw [← hw1];exact .same rfl
 have hOw:Old W w1:=hO0.trans ((Old.nx nV).trans hO1)
 have cO:∀ w2,Old w1 w2→∀ i v,(d.cellsA r)[i]?=some v→w2.cell? ⟨w0.heap.size,i,none⟩=some v:=fun w2 o i v h=>((hO1.trans o).cell ⟨w0.heap.size,i,none⟩ (by show w0.heap.size<_;omega)).trans (cV _ nVV i v h)
 have hBl:w0.heap.size<w1.heap.size:=Nat.lt_of_lt_of_le (by omega) hO1.size
 clear hw1
 simp only [s1,sp10,sp9,sp8,sp7,sp6,sp5,sp4,sp3,sp2,sp1,lawB12,seqL,seqR,Tryd.f12]
 have k19:=toFG 12 (m:=0) (great_big d r 0 0 (.slice none 0 0) [] w1 (hd.old hOw) hb ⟨0,.inl ⟨rfl,rfl⟩⟩ (Nat.zero_le _))
 obtain⟨ah,caph,eh⟩:=hd.holders.cases
 obtain⟨at1,capt,et⟩:=hd.turns.cases
 rw [List.length_map] at eh et
 obtain⟨c0,c1,c2,c3,c4,c5,c6,c7,c8,c9,c10,c11,c12,c13⟩:=cells14 (cO w1 (Old.refl _))
 have CH:=Lib.hid (show ∀ w2,Old w1 w2→w2.cell? ⟨w0.heap.size,0,none⟩=some (.slice ah d.holders.length caph) from fun w2 o=>(cO w2 o 0 r.h rfl).trans (by rw [eh]))
 have CT:=Lib.hid (show ∀ w2,Old w1 w2→w2.cell? ⟨w0.heap.size,1,none⟩=some (.slice at1 d.turns.length capt) from fun w2 o=>(cO w2 o 1 r.t rfl).trans (by rw [et]))
 have CO:=Lib.hid cO
 have HD:=Lib.hid hd
 have HG:=Lib.hid hg
 have HB:=Lib.hid hb
 clear cO cV hd hg hb hd0 hV nV eh et
 cases hgr:greatS d 0 with
 | true =>
  rw [show ([]:List (List Value)).length=0 from rfl,hgr] at k19
  gi_wp2_with (first
   | (gi_at_call 19;refine CallsIn.mono k19 ?_;rintro e w2 ⟨rfl,x2⟩)
   | gi_in)
  exact⟨hOw.trans (.nx x2),rfl,.inl rfl⟩
 | false =>
 rw [show ([]:List (List Value)).length=0 from rfl,hgr] at k19
 have hs:=small_of_great hgr
 have k25:=fun w2 (o:Old w1 w2)=>toFG 12 (m:=0) (check25_any d r w2 (HD.out.old (hOw.trans o)) hs)
 clear hgr
 rcases (Decidable.em (checkS d=0)).symm with hc | hc
 ·have b1:(checkS d != 0)=true:=by simpa using hc
  gi_wp2_with (first
   | (gi_at_call 19;refine CallsIn.mono k19 ?_;rintro e w2 ⟨rfl,x2⟩;clear c0 c1 c2 c3 c4 c5 c6 c7 c8 c9 c10 c11 c12 c13;obtain⟨c0,c1,c2,c3,c4,c5,c6,c7,c8,c9,c10,c11,c12,c13⟩:=cells14 (CO.out w2 (.nx x2));have kk:=k25 w2 (.nx x2))
   | (gi_at_call 25;refine CallsIn.mono kk ?_;rintro e w3 ⟨rfl,x3⟩)
   | gi_in)
  exact⟨hOw.trans (.trans (.nx x2) (.nx x3)),rfl,.inl rfl⟩
 have HC:=Lib.hid hc
 rw [hc] at k25
 clear hc
 gi_wp2_with (first
  | (gi_at_call 19;refine CallsIn.mono k19 ?_;rintro e w2 ⟨rfl,x2⟩;clear c0 c1 c2 c3 c4 c5 c6 c7 c8 c9 c10 c11 c12 c13;obtain⟨c0,c1,c2,c3,c4,c5,c6,c7,c8,c9,c10,c11,c12,c13⟩:=cells14 (CO.out w2 (.nx x2));have kk:=k25 w2 (.nx x2))
  | (gi_at_call 25;refine CallsIn.mono kk ?_;rintro e w3 ⟨rfl,x3⟩;clear c0 c1 c2 c3 c4 c5 c6 c7 c8 c9 c10 c11 c12 c13)
  | gi_in)
 have oB2:Old w1 w3:=.trans (.nx x2) (.nx x3)
 refine⟨hOw.trans oB2,rfl,.inr ⟨rfl,?_⟩⟩
 clear k19 k25 kk
 intro τ3
 generalize hq3:({ w3 with tape:=τ3 }:World)=u3
 have oA3:Old w1 u3:=oB2.trans (by rw [← hq3];exact .same rfl)
 clear hq3
 simp only [s3,sp10,sp9,sp8,sp7,sp6,sp5,sp4,sp3,sp2,sp1,lawB12,seqL,seqR,Tryd.f12]
 gi_wp2
 have hx1:0≤x % 1000000000∧x % 1000000000≤999999999:=by omega
 have hy1:0≤y % 1000000000∧y % 1000000000≤999999999:=by omega
 have hz1:0≤z % 1000000000∧z % 1000000000≤999999999:=by omega
 clear hx hy hz
 intro τ4
 generalize hq4:({ u3 with tape:=τ4 }:World)=u4
 have oA4:Old w1 u4:=oA3.trans (by rw [← hq4];exact .same rfl)
 clear hq4
 simp only [s4,sp10,sp9,sp8,sp7,sp6,sp5,sp4,sp3,sp2,sp1,lawB12,seqL,seqR,Tryd.f12]
 generalize x % 1000000000=a at hx1 ⊢
 generalize y % 1000000000=b at hy1 ⊢
 generalize z % 1000000000=c at hz1 ⊢
 have hmn:=min3_run a b c u4
 have hmx:=max3_run a b c u4
 generalize hlo0:min (min a b) c=lo at *
 generalize hhi0:max (max a b) c=hi at *
 have HLO:=Lib.hid hlo0
 have HHI:=Lib.hid hhi0
 clear hlo0 hhi0
 gi_wp2
 replace HLO:=HLO.out
 replace HHI:=HHI.out
 clear hmn hmx
 have hlo:0≤lo∧lo≤a+b+c-lo-hi∧a+b+c-lo-hi≤hi∧hi≤999999999:=by omega
 have hlo2:a+b+c-lo≤2999999998∧0≤a+b+c-lo:=by omega
 clear HLO HHI
 intro τ5
 generalize hq5:({ u4 with tape:=τ5 }:World)=u5
 have oA5:Old w1 u5:=oA4.trans (by rw [← hq5];exact .same rfl)
 clear hq5
 simp only [s5,sp10,sp9,sp8,sp7,sp6,sp5,sp4,sp3,sp2,sp1,lawB12,seqL,seqR,Tryd.f12]
 gi_wp2
 generalize a+b+c-lo-hi=mid at hlo ⊢
 clear hx1 hy1 hz1 hlo2
 obtain⟨f,g,h,m1,m2,m3,e1,e2,e3,e4,hn1,hn2,hn3,hn4,hn5⟩:=sum_law HC.out hlo
 have hlh:=(ok_of_check HC.out).h6
 have KF:=Lib.hid (fun (i:Nat) (hil:i<d.holders.length) u (o:Old w1 u)=>show CallsIn (FG 12) 0 Tryd.prog 21 #[d.val r,num i,num lo,num hi] u fun e w'=>e=.returned (.tuple #[num (f i),num 0])∧Nx u w' by
  have:=toFG 12 (m:=0) (hoursP_any d r i lo hi u (HD.out.old (hOw.trans o)) hs (HG.out.old (hOw.trans o)))
  rw [(e1 i hil).1] at this;exact this)
 have KG:=Lib.hid (fun (i:Nat) (hil:i<d.holders.length) u (o:Old w1 u)=>show CallsIn (FG 12) 0 Tryd.prog 21 #[d.val r,num i,num lo,num mid] u fun e w'=>e=.returned (.tuple #[num (g i),num 0])∧Nx u w' by
  have:=toFG 12 (m:=0) (hoursP_any d r i lo mid u (HD.out.old (hOw.trans o)) hs (HG.out.old (hOw.trans o)))
  rw [(e1 i hil).2.1] at this;exact this)
 have KH:=Lib.hid (fun (i:Nat) (hil:i<d.holders.length) u (o:Old w1 u)=>show CallsIn (FG 12) 0 Tryd.prog 21 #[d.val r,num i,num mid,num hi] u fun e w'=>e=.returned (.tuple #[num (h i),num 0])∧Nx u w' by
  have:=toFG 12 (m:=0) (hoursP_any d r i mid hi u (HD.out.old (hOw.trans o)) hs (HG.out.old (hOw.trans o)))
  rw [(e1 i hil).2.2.1] at this;exact this)
 have KI:=Lib.hid (fun (i:Nat) (hil:i<d.holders.length)=>(e1 i hil).2.2.2)
 have KR:=Lib.hid (fun u (o:Old w1 u)=>show CallsIn (FG 12) 0 Tryd.prog 42 #[d.val r,num lo,num hi] u fun e w'=>e=.returned (.tuple #[num m1,num 0])∧Nx u w' by
  have:=toFG 12 (m:=0) (running_any d r lo hi u (HD.out.old (hOw.trans o)) hs (HG.out.old (hOw.trans o)))
  rw [e2] at this;exact this)
 have KS:=Lib.hid (fun u (o:Old w1 u)=>show CallsIn (FG 12) 0 Tryd.prog 42 #[d.val r,num lo,num mid] u fun e w'=>e=.returned (.tuple #[num m2,num 0])∧Nx u w' by
  have:=toFG 12 (m:=0) (running_any d r lo mid u (HD.out.old (hOw.trans o)) hs (HG.out.old (hOw.trans o)))
  rw [e3] at this;exact this)
 have KT:=Lib.hid (fun u (o:Old w1 u)=>show CallsIn (FG 12) 0 Tryd.prog 42 #[d.val r,num mid,num hi] u fun e w'=>e=.returned (.tuple #[num m3,num 0])∧Nx u w' by
  have:=toFG 12 (m:=0) (running_any d r mid hi u (HD.out.old (hOw.trans o)) hs (HG.out.old (hOw.trans o)))
  rw [e4] at this;exact this)
 have hsum:=Lib.hid (fun (k:Nat) (hk:k≤d.holders.length)=>sumN_le (f:=f) (m:=1000000000) k fun i hi=>by have:=e1 i (by omega);omega)
 clear e1 e2 e3 e4
 intro τ6
 generalize hq6:({ u5 with tape:=τ6 }:World)=u6
 have oA6:Old w1 u6:=oA5.trans (by rw [← hq6];exact .same rfl)
 clear hq6
 simp only [s6,sp10,sp9,sp8,sp7,sp6,sp5,sp4,sp3,sp2,sp1,lawB12,seqL,seqR,Tryd.f12]
 gi_wp2
 intro τ7
 generalize hq7:({ u6 with tape:=τ7 }:World)=u7
 have oA7:Old w1 u7:=oA6.trans (by rw [← hq7];exact .same rfl)
 clear hq7
 simp only [s7,sp10,sp9,sp8,sp7,sp6,sp5,sp4,sp3,sp2,sp1,lawB12,seqL,seqR,Tryd.f12]
 have c0:=CH.out u7 oA7
 gi_wp2
 clear c0
 gi_loopw [15,16] (fun s i wr=>∃ k:Nat,k≤d.holders.length∧i=num k∧s=num (sumN f k)∧Nx u7 wr) (fun s i _=>d.holders.length-(intOf i).toNat)
 case atStart=>exact⟨0,Nat.zero_le _,rfl,rfl,Below.refl _ _⟩
 case round =>
  obtain⟨i,hik,rfl,rfl,n2⟩:=hrel
  have oR:Old w1 wr:=oA7.trans (.nx n2)
  by_cases hlt:i<d.holders.length
  ·have kf:=KF.out i hlt wr oR
   obtain⟨q1,q2,q3,q4⟩:=KI.out i hlt
   have hsm:=hsum.out i hik
   have hsm2 : -9223372036854775808≤sumN f i+f i∧sumN f i+f i≤9223372036854775807:=by omega
   have hgh : -9223372036854775808≤g i+h i∧g i+h i≤9223372036854775807:=by omega
   have b1:(f i != g i+h i)=false:=by simp [q1]
   have b2:decide (g i<0)=false:=by simp;omega
   have b3:decide (h i<0)=false:=by simp;omega
   have c0:=CH.out wr oR
   gi_upto_region 10 with fail
   clear c0
   obtain⟨c0,c1,c2,c3,c4,c5,c6,c7,c8,c9,c10,c11,c12,c13⟩:=cells14 (CO.out wr oR)
   gi_wp2_with (first
    | (gi_at_call 21;refine CallsIn.mono kf ?_;rintro e w5 ⟨rfl,x5⟩;clear kf;clear c0 c1 c2 c3 c4 c5 c6 c7 c8 c9 c10 c11 c12 c13;obtain⟨c0,c1,c2,c3,c4,c5,c6,c7,c8,c9,c10,c11,c12,c13⟩:=cells14 (CO.out w5 (oR.trans (.nx x5)));have kg:=KG.out i hlt w5 (oR.trans (.nx x5)))
    | (gi_at_call 21;refine CallsIn.mono kg ?_;rintro e w6 ⟨rfl,x6⟩;clear kg;clear c0 c1 c2 c3 c4 c5 c6 c7 c8 c9 c10 c11 c12 c13;obtain⟨c0,c1,c2,c3,c4,c5,c6,c7,c8,c9,c10,c11,c12,c13⟩:=cells14 (CO.out w6 (oR.trans ((Old.nx x5).trans (.nx x6))));have kh:=KH.out i hlt w6 (oR.trans ((Old.nx x5).trans (.nx x6))))
    | (gi_at_call 21;refine CallsIn.mono kh ?_;rintro e w7 ⟨rfl,x7⟩;clear c0 c1 c2 c3 c4 c5 c6 c7 c8 c9 c10 c11 c12 c13)
    | gi_in)
   exact⟨⟨i+1,hlt,by simp,by simp [sumN];omega,Nx.trans n2 (Nx.trans x5 (Nx.trans x6 x7))⟩,by simp [intOf];omega⟩
  ·obtain rfl:i=d.holders.length:=by omega
   have c0:=CH.out wr oR
   gi_wp2
   clear c0
   intro τ16
   generalize hq16:({ wr with tape:=τ16 }:World)=u16
   have oA16:Old w1 u16:=oR.trans (by rw [← hq16];exact .same rfl)
   clear hq16
   simp only [s16,sp10,sp9,sp8,sp7,sp6,sp5,sp4,sp3,sp2,sp1,lawB12,seqL,seqR,Tryd.f12]
   have kk:=KR.out u16 oA16
   obtain⟨c0,c1,c2,c3,c4,c5,c6,c7,c8,c9,c10,c11,c12,c13⟩:=cells14 (CO.out u16 oA16)
   gi_wp2_with (first
    | (gi_at_call 42;refine CallsIn.mono kk ?_;rintro e v16 ⟨rfl,x16⟩)
    | gi_in)
   clear kk c0 c1 c2 c3 c4 c5 c6 c7 c8 c9 c10 c11 c12 c13
   have oB16:Old w1 v16:=oA16.trans (.nx x16)
   intro τ17
   generalize hq17:({ v16 with tape:=τ17 }:World)=u17
   have oA17:Old w1 u17:=oB16.trans (by rw [← hq17];exact .same rfl)
   clear hq17
   simp only [s17,sp10,sp9,sp8,sp7,sp6,sp5,sp4,sp3,sp2,sp1,lawB12,seqL,seqR,Tryd.f12]
   have kk:=KS.out u17 oA17
   obtain⟨c0,c1,c2,c3,c4,c5,c6,c7,c8,c9,c10,c11,c12,c13⟩:=cells14 (CO.out u17 oA17)
   gi_wp2_with (first
    | (gi_at_call 42;refine CallsIn.mono kk ?_;rintro e v17 ⟨rfl,x17⟩)
    | gi_in)
   clear kk c0 c1 c2 c3 c4 c5 c6 c7 c8 c9 c10 c11 c12 c13
   have oB17:Old w1 v17:=oA17.trans (.nx x17)
   intro τ18
   generalize hq18:({ v17 with tape:=τ18 }:World)=u18
   have oA18:Old w1 u18:=oB17.trans (by rw [← hq18];exact .same rfl)
   clear hq18
   simp only [s18,sp10,sp9,sp8,sp7,sp6,sp5,sp4,sp3,sp2,sp1,lawB12,seqL,seqR,Tryd.f12]
   have kk:=KT.out u18 oA18
   obtain⟨c0,c1,c2,c3,c4,c5,c6,c7,c8,c9,c10,c11,c12,c13⟩:=cells14 (CO.out u18 oA18)
   gi_wp2_with (first
    | (gi_at_call 42;refine CallsIn.mono kk ?_;rintro e v18 ⟨rfl,x18⟩)
    | gi_in)
   clear kk c0 c1 c2 c3 c4 c5 c6 c7 c8 c9 c10 c11 c12 c13
   have oB18:Old w1 v18:=oA18.trans (.nx x18)
   exact (show SumR W _ _ from ⟨hOw.trans oB18,sumN f d.holders.length,m2,m3,lo,hi,by omega,by omega,by omega,by omega,rfl,rfl,rfl,rfl,rfl,rfl,rfl,rfl,rfl,rfl⟩)
end Go.Proofs.YtolholkjeehamaaDoor

namespace Go.Proofs.YtolholkjeehamaaDoor
open Go.RowKit Go.Con Go.Conc
local instance:Lone:=mainL
theorem results12 (v:Value) (t:Array Value) (h:t[8]?=some v) (σ:Rn):ResultsC Tryd.prog Tryd.f12 (t.map (ren σ)) (ren σ v):=by
 have:=resultsC_tmp (P:=Tryd.prog) (fn:=Tryd.f12) (t:=8) rfl (t.map (ren σ))
 simp only [Array.getD_eq_getD_getElem?,Array.getElem?_map,h,Option.map_some,Option.getD_some] at this
 exact this
theorem sum_go (E Fz Arg:Nat→Prop) (W0:World) (hArg:∀ x,Arg x↔x<W0.heap.size) (Post:Value→World→Prop) (φ:Ph) (d:Dit) (r:Rows6) (x y z:Int) (W:World) (hd:DitSl W d r) (hb:d.Big) (hg:Glob W) (hx:0≤x∧x≤4294967295) (hy:0≤y∧y≤4294967295) (hz:0≤z∧z≤4294967295)
  (hPost:∀ Fz1 ρ D own A fr W1 W',Here Tryd.prog true E Fz1 Arg W0 ρ D own A fr [] W1 W'→Post (ren ρ (.bool true)) W') :
  GoM Tryd.prog true E Fz Arg W0 (AtEnd Tryd.prog Post) φ [] (Fr 12 #[d.val r,.int .u32 x,.int .u32 y,.int .u32 z,undef,undef,undef,undef,undef,undef,undef,undef,undef,undef,undef,undef,undef,undef,undef,undef,undef,undef,undef,undef,undef,undef,undef,undef,undef,undef,undef,undef,undef,undef,undef,undef,undef,undef,undef,undef,undef,undef,undef,undef,undef,undef,undef,undef,undef,undef,undef,undef,undef,undef,undef,undef,undef,undef,undef,undef,undef,undef,undef,undef,undef,undef,undef,undef,undef,undef,undef,undef,undef,undef,undef,undef,undef,undef,undef,undef,undef,undef,undef,undef,undef,undef,undef,undef,undef,undef,undef,undef,undef,undef,undef,undef,undef,undef,undef,undef,undef,undef,undef,undef,undef,undef,undef,undef,undef,undef,undef,undef,undef,undef,undef,undef,undef,undef,undef,undef,undef,undef,undef,undef,undef,undef,undef,undef,undef,undef,undef,undef,undef,undef,undef,undef,undef,undef,undef,undef,undef,undef,undef,undef,undef,undef,undef,undef,undef,undef,undef,undef,undef,undef,undef,undef,undef,undef,undef,undef,undef,undef,undef,undef,undef,undef,undef,undef,undef,undef,undef,undef,undef,undef,undef,undef] [.code lawB12]) [] W:=by
 have hgood:goodFn Tryd.prog (.func 12)=false:=by kernel_rfl
 have hL:=sum_lone d r x y z W hd hb hg hx hy hz
 rw [lawB12_eq]
 refine Gm.seq ?_
 refine Gm.lone (F:=FG 12) _ rfl rfl rfl (List.mem_cons_self ..) (FG_ok 12 hgood) (by kernel_rfl) (by kernel_rfl) hL ?_
 clear hL
 intro t0 V0 hL
 refine Gm.seq (Gm.seq ?_)
 refine Gm.lone (F:=FG 12) _ rfl rfl rfl (List.mem_cons_self ..) (FG_ok 12 hgood) (by kernel_rfl) (by kernel_rfl) hL ?_
 clear hL
 rintro t W1 ⟨hO1,hs,h36 | ⟨h36,hL⟩⟩
 ·refine Gm.cond (b:=true) (eval_tmp h36) rfl ?_
  refine Gm.seq ?_
  rw [s2_eq]
  refine Gm.region ?_
  rw [show List.range ops2.size=[0,1] by kernel_rfl]
  refine Gm.enter (o:=⟨some 37,.call { callee:=.value (.func 20),args:=#[],argTypes:=#[] },_,_,_,none⟩) (c:={ callee:=.value (.func 20),args:=#[],argTypes:=#[] }) rfl rfl rfl rfl (by kernel_rfl) Tryd.func20 body20_of (by kernel_rfl) ?_
  rw [fr20]
  refine flows_go E _ Arg W0 hArg _ _ _ _ _ (hg.old hO1) ?_
  intro WL FzL φL hOL
  rw [Fr_finish (o:=⟨some 37,.call { callee:=.value (.func 20),args:=#[],argTypes:=#[] },_,_,_,none⟩) rfl]
  refine Gm.op (o:=⟨some 8,.assign (.tmp 37),_,_,_,none⟩) (.bool true) WL rfl rfl (by kernel_rfl) rfl (asg_run _ (eval_tmp (by simp only [putD_get,putD_same,putD_size,hs,ne_eq,Nat.reduceEqDiff,not_false_eq_true,Nat.reduceLT]))) id ?_
  refine Gm.regionEnd ?_
  refine Gm.done Tryd.func12 (by kernel_rfl) (results12 (.bool true) _ (by simp only [putD_get,putD_same,putD_size,hs,ne_eq,Nat.reduceEqDiff,not_false_eq_true,Nat.reduceLT])) ?_
  exact fun ρ D own A fr W' h=>hPost _ ρ D own A fr _ W' h
 ·refine Gm.cond (b:=false) (eval_tmp h36) rfl ?_
  refine Gm.skip ?_
  refine Gm.seq ?_
  refine Gm.lone (F:=FG 12) _ rfl rfl rfl (List.mem_cons_self ..) (FG_ok 12 hgood) (by kernel_rfl) (by kernel_rfl) hL ?_
  clear hL
  intro t3 V3 hL
  refine Gm.seq ?_
  refine Gm.lone (F:=FG 12) _ rfl rfl rfl (List.mem_cons_self ..) (FG_ok 12 hgood) (by kernel_rfl) (by kernel_rfl) hL ?_
  clear hL
  intro t4 V4 hL
  refine Gm.seq ?_
  refine Gm.lone (F:=FG 12) _ rfl rfl rfl (List.mem_cons_self ..) (FG_ok 12 hgood) (by kernel_rfl) (by kernel_rfl) hL ?_
  clear hL
  intro t5 V5 hL
  refine Gm.seq ?_
  refine Gm.lone (F:=FG 12) _ rfl rfl rfl (List.mem_cons_self ..) (FG_ok 12 hgood) (by kernel_rfl) (by kernel_rfl) hL ?_
  clear hL
  intro t6 V6 hL
  refine Gm.seq ?_
  refine Gm.lone (F:=FG 12) _ rfl rfl rfl (List.mem_cons_self ..) (FG_ok 12 hgood) (by kernel_rfl) (by kernel_rfl) hL ?_
  clear hL
  intro t7 V7 hL
  refine Gm.seq ?_
  refine Gm.lone (F:=FG 12) _ rfl rfl rfl (List.mem_cons_self ..) (FG_ok 12 hgood) (by kernel_rfl) (by kernel_rfl) hL ?_
  clear hL
  intro t16 V16 hL
  refine Gm.seq ?_
  refine Gm.lone (F:=FG 12) _ rfl rfl rfl (List.mem_cons_self ..) (FG_ok 12 hgood) (by kernel_rfl) (by kernel_rfl) hL ?_
  clear hL
  intro t17 V17 hL
  refine Gm.seq ?_
  refine Gm.lone (F:=FG 12) _ rfl rfl rfl (List.mem_cons_self ..) (FG_ok 12 hgood) (by kernel_rfl) (by kernel_rfl) hL ?_
  clear hL
  clear hO1 hs h36
  rintro t W2 ⟨hO2,n,p,q,lo,hi,e1,e2,e3,e4,hs,k24,k26,k28,k23,k15,k25,k27,k13,k12⟩
  refine Gm.seq ?_
  rw [s19_eq]
  refine Gm.region ?_
  rw [show List.range ops19.size=[0,1,2,3,4,5,6,7,8,9,10,11,12,13,14,15,16,17,18,19,20,21,22,23,24,25,26,27,28,29,30,31,32] by kernel_rfl]
  refine Gm.op (o:=⟨some 144,.move (.tmp 24),_,_,_,none⟩) (num 0) W2 rfl rfl (by kernel_rfl) rfl (mvg_run _ (eval_tmp (by simp only [putD_get,putD_same,putD_size,hs,k24,k26,k28,k23,k15,k25,k27,k13,k12,ne_eq,Nat.reduceEqDiff,not_false_eq_true,Nat.reduceLT]))) id ?_
  refine Gm.op (o:=⟨some 145,.binOp .eql 37 (.tmp 144) (.const (.int .i64 0)) 37,_,_,_,none⟩) (.bool true) W2 rfl rfl (by kernel_rfl) rfl (eqcR37_run (n:=0) _ (eval_tmp (by simp only [putD_get,putD_same,putD_size,hs,k24,k26,k28,k23,k15,k25,k27,k13,k12,ne_eq,Nat.reduceEqDiff,not_false_eq_true,Nat.reduceLT])) rfl) id ?_
  refine Gm.op (o:=⟨some 146,.move (.tmp 145),_,_,_,none⟩) (.bool true) W2 rfl rfl (by kernel_rfl) rfl (mvg_run _ (eval_tmp (by simp only [putD_get,putD_same,putD_size,hs,k24,k26,k28,k23,k15,k25,k27,k13,k12,ne_eq,Nat.reduceEqDiff,not_false_eq_true,Nat.reduceLT]))) id ?_
  refine Gm.op (o:=⟨some 147,.move (.tmp 26),_,_,_,some (2,true)⟩) (num 0) W2 rfl (wanted_guard (i:=2) (b:=true) (d:=146) rfl rfl (by simp only [putD_get,putD_same,putD_size,hs,k24,k26,k28,k23,k15,k25,k27,k13,k12,ne_eq,Nat.reduceEqDiff,not_false_eq_true,Nat.reduceLT])) (by kernel_rfl) rfl (mvg_run _ (eval_tmp (by simp only [putD_get,putD_same,putD_size,hs,k24,k26,k28,k23,k15,k25,k27,k13,k12,ne_eq,Nat.reduceEqDiff,not_false_eq_true,Nat.reduceLT]))) id ?_
  refine Gm.op (o:=⟨some 148,.binOp .eql 37 (.tmp 147) (.const (.int .i64 0)) 37,_,_,_,some (2,true)⟩) (.bool true) W2 rfl (wanted_guard (i:=2) (b:=true) (d:=146) rfl rfl (by simp only [putD_get,putD_same,putD_size,hs,k24,k26,k28,k23,k15,k25,k27,k13,k12,ne_eq,Nat.reduceEqDiff,not_false_eq_true,Nat.reduceLT])) (by kernel_rfl) rfl (eqcR37_run (n:=0) _ (eval_tmp (by simp only [putD_get,putD_same,putD_size,hs,k24,k26,k28,k23,k15,k25,k27,k13,k12,ne_eq,Nat.reduceEqDiff,not_false_eq_true,Nat.reduceLT])) rfl) id ?_
  refine Gm.op (o:=⟨some 149,.pick (.tmp 146) (.tmp 148) (.const (.bool false)),_,_,_,none⟩) (.bool true) W2 rfl rfl (by kernel_rfl) rfl (pick_run _ (eval_tmp (by simp only [putD_get,putD_same,putD_size,hs,k24,k26,k28,k23,k15,k25,k27,k13,k12,ne_eq,Nat.reduceEqDiff,not_false_eq_true,Nat.reduceLT])) (eval_tmp (by simp only [putD_get,putD_same,putD_size,hs,k24,k26,k28,k23,k15,k25,k27,k13,k12,ne_eq,Nat.reduceEqDiff,not_false_eq_true,Nat.reduceLT]))) id ?_
  refine Gm.op (o:=⟨some 150,.move (.tmp 149),_,_,_,none⟩) (.bool true) W2 rfl rfl (by kernel_rfl) rfl (mvg_run _ (eval_tmp (by simp only [putD_get,putD_same,putD_size,hs,k24,k26,k28,k23,k15,k25,k27,k13,k12,ne_eq,Nat.reduceEqDiff,not_false_eq_true,Nat.reduceLT]))) id ?_
  refine Gm.op (o:=⟨some 151,.move (.tmp 28),_,_,_,some (6,true)⟩) (num 0) W2 rfl (wanted_guard (i:=6) (b:=true) (d:=150) rfl rfl (by simp only [putD_get,putD_same,putD_size,hs,k24,k26,k28,k23,k15,k25,k27,k13,k12,ne_eq,Nat.reduceEqDiff,not_false_eq_true,Nat.reduceLT])) (by kernel_rfl) rfl (mvg_run _ (eval_tmp (by simp only [putD_get,putD_same,putD_size,hs,k24,k26,k28,k23,k15,k25,k27,k13,k12,ne_eq,Nat.reduceEqDiff,not_false_eq_true,Nat.reduceLT]))) id ?_
  refine Gm.op (o:=⟨some 152,.binOp .eql 37 (.tmp 151) (.const (.int .i64 0)) 37,_,_,_,some (6,true)⟩) (.bool true) W2 rfl (wanted_guard (i:=6) (b:=true) (d:=150) rfl rfl (by simp only [putD_get,putD_same,putD_size,hs,k24,k26,k28,k23,k15,k25,k27,k13,k12,ne_eq,Nat.reduceEqDiff,not_false_eq_true,Nat.reduceLT])) (by kernel_rfl) rfl (eqcR37_run (n:=0) _ (eval_tmp (by simp only [putD_get,putD_same,putD_size,hs,k24,k26,k28,k23,k15,k25,k27,k13,k12,ne_eq,Nat.reduceEqDiff,not_false_eq_true,Nat.reduceLT])) rfl) id ?_
  refine Gm.op (o:=⟨some 153,.pick (.tmp 150) (.tmp 152) (.const (.bool false)),_,_,_,none⟩) (.bool true) W2 rfl rfl (by kernel_rfl) rfl (pick_run _ (eval_tmp (by simp only [putD_get,putD_same,putD_size,hs,k24,k26,k28,k23,k15,k25,k27,k13,k12,ne_eq,Nat.reduceEqDiff,not_false_eq_true,Nat.reduceLT])) (eval_tmp (by simp only [putD_get,putD_same,putD_size,hs,k24,k26,k28,k23,k15,k25,k27,k13,k12,ne_eq,Nat.reduceEqDiff,not_false_eq_true,Nat.reduceLT]))) id ?_
  refine Gm.op (o:=⟨some 154,.move (.tmp 153),_,_,_,none⟩) (.bool true) W2 rfl rfl (by kernel_rfl) rfl (mvg_run _ (eval_tmp (by simp only [putD_get,putD_same,putD_size,hs,k24,k26,k28,k23,k15,k25,k27,k13,k12,ne_eq,Nat.reduceEqDiff,not_false_eq_true,Nat.reduceLT]))) id ?_
  refine Gm.op (o:=⟨some 155,.move (.tmp 23),_,_,_,some (10,true)⟩) (num n) W2 rfl (wanted_guard (i:=10) (b:=true) (d:=154) rfl rfl (by simp only [putD_get,putD_same,putD_size,hs,k24,k26,k28,k23,k15,k25,k27,k13,k12,ne_eq,Nat.reduceEqDiff,not_false_eq_true,Nat.reduceLT])) (by kernel_rfl) rfl (mvg_run _ (eval_tmp (by simp only [putD_get,putD_same,putD_size,hs,k24,k26,k28,k23,k15,k25,k27,k13,k12,ne_eq,Nat.reduceEqDiff,not_false_eq_true,Nat.reduceLT]))) id ?_
  refine Gm.op (o:=⟨some 156,.move (.tmp 15),_,_,_,some (10,true)⟩) (num n) W2 rfl (wanted_guard (i:=10) (b:=true) (d:=154) rfl rfl (by simp only [putD_get,putD_same,putD_size,hs,k24,k26,k28,k23,k15,k25,k27,k13,k12,ne_eq,Nat.reduceEqDiff,not_false_eq_true,Nat.reduceLT])) (by kernel_rfl) rfl (mvg_run _ (eval_tmp (by simp only [putD_get,putD_same,putD_size,hs,k24,k26,k28,k23,k15,k25,k27,k13,k12,ne_eq,Nat.reduceEqDiff,not_false_eq_true,Nat.reduceLT]))) id ?_
  refine Gm.op (o:=⟨some 157,.binOp .eql 3 (.tmp 155) (.tmp 156) 3,_,_,_,some (10,true)⟩) (.bool true) W2 rfl (wanted_guard (i:=10) (b:=true) (d:=154) rfl rfl (by simp only [putD_get,putD_same,putD_size,hs,k24,k26,k28,k23,k15,k25,k27,k13,k12,ne_eq,Nat.reduceEqDiff,not_false_eq_true,Nat.reduceLT])) (by kernel_rfl) rfl (eq3_run (n:=n) _ (eval_tmp (by simp only [putD_get,putD_same,putD_size,hs,k24,k26,k28,k23,k15,k25,k27,k13,k12,ne_eq,Nat.reduceEqDiff,not_false_eq_true,Nat.reduceLT])) (eval_tmp (by simp only [putD_get,putD_same,putD_size,hs,k24,k26,k28,k23,k15,k25,k27,k13,k12,ne_eq,Nat.reduceEqDiff,not_false_eq_true,Nat.reduceLT]))) id ?_
  refine Gm.op (o:=⟨some 158,.pick (.tmp 154) (.tmp 157) (.const (.bool false)),_,_,_,none⟩) (.bool true) W2 rfl rfl (by kernel_rfl) rfl (pick_run _ (eval_tmp (by simp only [putD_get,putD_same,putD_size,hs,k24,k26,k28,k23,k15,k25,k27,k13,k12,ne_eq,Nat.reduceEqDiff,not_false_eq_true,Nat.reduceLT])) (eval_tmp (by simp only [putD_get,putD_same,putD_size,hs,k24,k26,k28,k23,k15,k25,k27,k13,k12,ne_eq,Nat.reduceEqDiff,not_false_eq_true,Nat.reduceLT]))) id ?_
  refine Gm.op (o:=⟨some 159,.move (.tmp 158),_,_,_,none⟩) (.bool true) W2 rfl rfl (by kernel_rfl) rfl (mvg_run _ (eval_tmp (by simp only [putD_get,putD_same,putD_size,hs,k24,k26,k28,k23,k15,k25,k27,k13,k12,ne_eq,Nat.reduceEqDiff,not_false_eq_true,Nat.reduceLT]))) id ?_
  refine Gm.op (o:=⟨some 160,.move (.tmp 23),_,_,_,some (15,true)⟩) (num n) W2 rfl (wanted_guard (i:=15) (b:=true) (d:=159) rfl rfl (by simp only [putD_get,putD_same,putD_size,hs,k24,k26,k28,k23,k15,k25,k27,k13,k12,ne_eq,Nat.reduceEqDiff,not_false_eq_true,Nat.reduceLT])) (by kernel_rfl) rfl (mvg_run _ (eval_tmp (by simp only [putD_get,putD_same,putD_size,hs,k24,k26,k28,k23,k15,k25,k27,k13,k12,ne_eq,Nat.reduceEqDiff,not_false_eq_true,Nat.reduceLT]))) id ?_
  refine Gm.op (o:=⟨some 161,.move (.tmp 25),_,_,_,some (15,true)⟩) (num p) W2 rfl (wanted_guard (i:=15) (b:=true) (d:=159) rfl rfl (by simp only [putD_get,putD_same,putD_size,hs,k24,k26,k28,k23,k15,k25,k27,k13,k12,ne_eq,Nat.reduceEqDiff,not_false_eq_true,Nat.reduceLT])) (by kernel_rfl) rfl (mvg_run _ (eval_tmp (by simp only [putD_get,putD_same,putD_size,hs,k24,k26,k28,k23,k15,k25,k27,k13,k12,ne_eq,Nat.reduceEqDiff,not_false_eq_true,Nat.reduceLT]))) id ?_
  refine Gm.op (o:=⟨some 162,.move (.tmp 27),_,_,_,some (15,true)⟩) (num q) W2 rfl (wanted_guard (i:=15) (b:=true) (d:=159) rfl rfl (by simp only [putD_get,putD_same,putD_size,hs,k24,k26,k28,k23,k15,k25,k27,k13,k12,ne_eq,Nat.reduceEqDiff,not_false_eq_true,Nat.reduceLT])) (by kernel_rfl) rfl (mvg_run _ (eval_tmp (by simp only [putD_get,putD_same,putD_size,hs,k24,k26,k28,k23,k15,k25,k27,k13,k12,ne_eq,Nat.reduceEqDiff,not_false_eq_true,Nat.reduceLT]))) id ?_
  refine Gm.op (o:=⟨some 163,.binOp .add 3 (.tmp 161) (.tmp 162) 3,_,_,_,some (15,true)⟩) (num n) W2 rfl (wanted_guard (i:=15) (b:=true) (d:=159) rfl rfl (by simp only [putD_get,putD_same,putD_size,hs,k24,k26,k28,k23,k15,k25,k27,k13,k12,ne_eq,Nat.reduceEqDiff,not_false_eq_true,Nat.reduceLT])) (by kernel_rfl) rfl (addR_run (n:=p) (m:=q) _ (eval_tmp (by simp only [putD_get,putD_same,putD_size,hs,k24,k26,k28,k23,k15,k25,k27,k13,k12,ne_eq,Nat.reduceEqDiff,not_false_eq_true,Nat.reduceLT])) (eval_tmp (by simp only [putD_get,putD_same,putD_size,hs,k24,k26,k28,k23,k15,k25,k27,k13,k12,ne_eq,Nat.reduceEqDiff,not_false_eq_true,Nat.reduceLT])) (by omega) (by omega)) id ?_
  refine Gm.op (o:=⟨some 164,.binOp .eql 3 (.tmp 160) (.tmp 163) 3,_,_,_,some (15,true)⟩) (.bool true) W2 rfl (wanted_guard (i:=15) (b:=true) (d:=159) rfl rfl (by simp only [putD_get,putD_same,putD_size,hs,k24,k26,k28,k23,k15,k25,k27,k13,k12,ne_eq,Nat.reduceEqDiff,not_false_eq_true,Nat.reduceLT])) (by kernel_rfl) rfl (eq3_run (n:=n) _ (eval_tmp (by simp only [putD_get,putD_same,putD_size,hs,k24,k26,k28,k23,k15,k25,k27,k13,k12,ne_eq,Nat.reduceEqDiff,not_false_eq_true,Nat.reduceLT])) (eval_tmp (by simp only [putD_get,putD_same,putD_size,hs,k24,k26,k28,k23,k15,k25,k27,k13,k12,ne_eq,Nat.reduceEqDiff,not_false_eq_true,Nat.reduceLT]))) id ?_
  refine Gm.op (o:=⟨some 165,.pick (.tmp 159) (.tmp 164) (.const (.bool false)),_,_,_,none⟩) (.bool true) W2 rfl rfl (by kernel_rfl) rfl (pick_run _ (eval_tmp (by simp only [putD_get,putD_same,putD_size,hs,k24,k26,k28,k23,k15,k25,k27,k13,k12,ne_eq,Nat.reduceEqDiff,not_false_eq_true,Nat.reduceLT])) (eval_tmp (by simp only [putD_get,putD_same,putD_size,hs,k24,k26,k28,k23,k15,k25,k27,k13,k12,ne_eq,Nat.reduceEqDiff,not_false_eq_true,Nat.reduceLT]))) id ?_
  refine Gm.op (o:=⟨some 166,.move (.tmp 165),_,_,_,none⟩) (.bool true) W2 rfl rfl (by kernel_rfl) rfl (mvg_run _ (eval_tmp (by simp only [putD_get,putD_same,putD_size,hs,k24,k26,k28,k23,k15,k25,k27,k13,k12,ne_eq,Nat.reduceEqDiff,not_false_eq_true,Nat.reduceLT]))) id ?_
  refine Gm.op (o:=⟨some 167,.move (.tmp 23),_,_,_,some (22,true)⟩) (num n) W2 rfl (wanted_guard (i:=22) (b:=true) (d:=166) rfl rfl (by simp only [putD_get,putD_same,putD_size,hs,k24,k26,k28,k23,k15,k25,k27,k13,k12,ne_eq,Nat.reduceEqDiff,not_false_eq_true,Nat.reduceLT])) (by kernel_rfl) rfl (mvg_run _ (eval_tmp (by simp only [putD_get,putD_same,putD_size,hs,k24,k26,k28,k23,k15,k25,k27,k13,k12,ne_eq,Nat.reduceEqDiff,not_false_eq_true,Nat.reduceLT]))) id ?_
  refine Gm.op (o:=⟨some 168,.move (.tmp 13),_,_,_,some (22,true)⟩) (num hi) W2 rfl (wanted_guard (i:=22) (b:=true) (d:=166) rfl rfl (by simp only [putD_get,putD_same,putD_size,hs,k24,k26,k28,k23,k15,k25,k27,k13,k12,ne_eq,Nat.reduceEqDiff,not_false_eq_true,Nat.reduceLT])) (by kernel_rfl) rfl (mvg_run _ (eval_tmp (by simp only [putD_get,putD_same,putD_size,hs,k24,k26,k28,k23,k15,k25,k27,k13,k12,ne_eq,Nat.reduceEqDiff,not_false_eq_true,Nat.reduceLT]))) id ?_
  refine Gm.op (o:=⟨some 169,.move (.tmp 12),_,_,_,some (22,true)⟩) (num lo) W2 rfl (wanted_guard (i:=22) (b:=true) (d:=166) rfl rfl (by simp only [putD_get,putD_same,putD_size,hs,k24,k26,k28,k23,k15,k25,k27,k13,k12,ne_eq,Nat.reduceEqDiff,not_false_eq_true,Nat.reduceLT])) (by kernel_rfl) rfl (mvg_run _ (eval_tmp (by simp only [putD_get,putD_same,putD_size,hs,k24,k26,k28,k23,k15,k25,k27,k13,k12,ne_eq,Nat.reduceEqDiff,not_false_eq_true,Nat.reduceLT]))) id ?_
  refine Gm.op (o:=⟨some 170,.binOp .sub 3 (.tmp 168) (.tmp 169) 3,_,_,_,some (22,true)⟩) (num (hi-lo)) W2 rfl (wanted_guard (i:=22) (b:=true) (d:=166) rfl rfl (by simp only [putD_get,putD_same,putD_size,hs,k24,k26,k28,k23,k15,k25,k27,k13,k12,ne_eq,Nat.reduceEqDiff,not_false_eq_true,Nat.reduceLT])) (by kernel_rfl) rfl (subR_run (n:=hi) (m:=lo) _ (eval_tmp (by simp only [putD_get,putD_same,putD_size,hs,k24,k26,k28,k23,k15,k25,k27,k13,k12,ne_eq,Nat.reduceEqDiff,not_false_eq_true,Nat.reduceLT])) (eval_tmp (by simp only [putD_get,putD_same,putD_size,hs,k24,k26,k28,k23,k15,k25,k27,k13,k12,ne_eq,Nat.reduceEqDiff,not_false_eq_true,Nat.reduceLT])) (by omega) rfl) id ?_
  refine Gm.op (o:=⟨some 171,.binOp .leq 3 (.tmp 167) (.tmp 170) 3,_,_,_,some (22,true)⟩) (.bool true) W2 rfl (wanted_guard (i:=22) (b:=true) (d:=166) rfl rfl (by simp only [putD_get,putD_same,putD_size,hs,k24,k26,k28,k23,k15,k25,k27,k13,k12,ne_eq,Nat.reduceEqDiff,not_false_eq_true,Nat.reduceLT])) (by kernel_rfl) rfl (leqR_run (n:=n) (m:=(hi-lo)) _ (eval_tmp (by simp only [putD_get,putD_same,putD_size,hs,k24,k26,k28,k23,k15,k25,k27,k13,k12,ne_eq,Nat.reduceEqDiff,not_false_eq_true,Nat.reduceLT])) (eval_tmp (by simp only [putD_get,putD_same,putD_size,hs,k24,k26,k28,k23,k15,k25,k27,k13,k12,ne_eq,Nat.reduceEqDiff,not_false_eq_true,Nat.reduceLT])) (by omega)) id ?_
  refine Gm.op (o:=⟨some 172,.pick (.tmp 166) (.tmp 171) (.const (.bool false)),_,_,_,none⟩) (.bool true) W2 rfl rfl (by kernel_rfl) rfl (pick_run _ (eval_tmp (by simp only [putD_get,putD_same,putD_size,hs,k24,k26,k28,k23,k15,k25,k27,k13,k12,ne_eq,Nat.reduceEqDiff,not_false_eq_true,Nat.reduceLT])) (eval_tmp (by simp only [putD_get,putD_same,putD_size,hs,k24,k26,k28,k23,k15,k25,k27,k13,k12,ne_eq,Nat.reduceEqDiff,not_false_eq_true,Nat.reduceLT]))) id ?_
  refine Gm.op (o:=⟨some 173,.move (.tmp 172),_,_,_,none⟩) (.bool true) W2 rfl rfl (by kernel_rfl) rfl (mvg_run _ (eval_tmp (by simp only [putD_get,putD_same,putD_size,hs,k24,k26,k28,k23,k15,k25,k27,k13,k12,ne_eq,Nat.reduceEqDiff,not_false_eq_true,Nat.reduceLT]))) id ?_
  refine Gm.enter (o:=⟨some 174,.call { callee:=.value (.func 20),args:=#[],argTypes:=#[] },_,_,_,some (29,true)⟩) (c:={ callee:=.value (.func 20),args:=#[],argTypes:=#[] }) rfl (wanted_guard (i:=29) (b:=true) (d:=173) rfl rfl (by simp only [putD_get,putD_same,putD_size,hs,k24,k26,k28,k23,k15,k25,k27,k13,k12,ne_eq,Nat.reduceEqDiff,not_false_eq_true,Nat.reduceLT])) rfl rfl (by kernel_rfl) Tryd.func20 body20_of (by kernel_rfl) ?_
  rw [fr20]
  refine flows_go E _ Arg W0 hArg _ _ _ _ _ (hg.old hO2) ?_
  intro WL FzL φL hOL
  rw [Fr_finish (o:=⟨some 174,.call { callee:=.value (.func 20),args:=#[],argTypes:=#[] },_,_,_,some (29,true)⟩) rfl]
  refine Gm.op (o:=⟨some 175,.pick (.tmp 173) (.tmp 174) (.const (.bool false)),_,_,_,none⟩) (.bool true) WL rfl rfl (by kernel_rfl) rfl (pick_run _ (eval_tmp (by simp only [putD_get,putD_same,putD_size,hs,k24,k26,k28,k23,k15,k25,k27,k13,k12,ne_eq,Nat.reduceEqDiff,not_false_eq_true,Nat.reduceLT])) (eval_tmp (by simp only [putD_get,putD_same,putD_size,hs,k24,k26,k28,k23,k15,k25,k27,k13,k12,ne_eq,Nat.reduceEqDiff,not_false_eq_true,Nat.reduceLT]))) id ?_
  refine Gm.op (o:=⟨some 8,.assign (.tmp 175),_,_,_,none⟩) (.bool true) WL rfl rfl (by kernel_rfl) rfl (asg_run _ (eval_tmp (by simp only [putD_get,putD_same,putD_size,hs,k24,k26,k28,k23,k15,k25,k27,k13,k12,ne_eq,Nat.reduceEqDiff,not_false_eq_true,Nat.reduceLT]))) id ?_
  refine Gm.regionEnd ?_
  refine Gm.done Tryd.func12 (by kernel_rfl) (results12 (.bool true) _ (by simp only [putD_get,putD_same,putD_size,hs,k24,k26,k28,k23,k15,k25,k27,k13,k12,ne_eq,Nat.reduceEqDiff,not_false_eq_true,Nat.reduceLT])) ?_
  exact fun ρ D own A fr W' h=>hPost _ ρ D own A fr _ W' h
end Go.Proofs.YtolholkjeehamaaDoor

namespace Go.Proofs.YtolholkjeehamaaDoor
open Go.RowKit Go.Con Go.Conc Go.ChangeShapes Go.WideShapes Go.ChangeAt
local instance:Lone:=mainL
theorem fr12 (a0 a1 a2 a3:Value):#[a0,a1,a2,a3]++Array.replicate (Tryd.f12.ntmps-(#[a0,a1,a2,a3]:Array Value).size) undef=#[a0,a1,a2,a3,undef,undef,undef,undef,undef,undef,undef,undef,undef,undef,undef,undef,undef,undef,undef,undef,undef,undef,undef,undef,undef,undef,undef,undef,undef,undef,undef,undef,undef,undef,undef,undef,undef,undef,undef,undef,undef,undef,undef,undef,undef,undef,undef,undef,undef,undef,undef,undef,undef,undef,undef,undef,undef,undef,undef,undef,undef,undef,undef,undef,undef,undef,undef,undef,undef,undef,undef,undef,undef,undef,undef,undef,undef,undef,undef,undef,undef,undef,undef,undef,undef,undef,undef,undef,undef,undef,undef,undef,undef,undef,undef,undef,undef,undef,undef,undef,undef,undef,undef,undef,undef,undef,undef,undef,undef,undef,undef,undef,undef,undef,undef,undef,undef,undef,undef,undef,undef,undef,undef,undef,undef,undef,undef,undef,undef,undef,undef,undef,undef,undef,undef,undef,undef,undef,undef,undef,undef,undef,undef,undef,undef,undef,undef,undef,undef,undef,undef,undef,undef,undef,undef,undef,undef,undef,undef,undef,undef,undef,undef,undef,undef,undef,undef,undef,undef,undef,undef,undef,undef,undef,undef,undef]:=by
 simp only [Tryd.ntmps12,List.size_toArray,List.length_cons,List.length_nil,Nat.reduceAdd,Nat.reduceSub,Array.replicate_succ,Array.replicate_zero,List.push_toArray,List.append_toArray,List.nil_append,List.cons_append]
theorem sum_fin (d:Dit) (r:Rows6) (x1:Int) (x2:Int) (x3:Int) (W:World) (hd:DitSl W d r) (hb:d.Big) (hg:Glob W) (hx1:(0≤x1∧x1≤4294967295)) (hx2:(0≤x2∧x2≤4294967295)) (hx3:(0≤x3∧x3≤4294967295)) :
  Con.Fin Tryd.prog (fun u W'=>u=.bool true∧Con.Left W W') (solo (G (Frame.enter Tryd.prog 12 #[d.val r,.int .u32 x1,.int .u32 x2,.int .u32 x3] .normal) []) W) #[]:=by
 refine law_fin Tryd.func12 lawB12_of hg (fun v hv=>?_) fun c Post hPost=>?_
 ·simp only [List.mem_cons,List.not_mem_nil,or_false] at hv
  rcases hv with rfl | rfl | rfl | rfl
  ·exact hd.same
  ·exact⟨fun c=>by simp [ren],by simp [ren]⟩
  ·exact⟨fun c=>by simp [ren],by simp [ren]⟩
  ·exact⟨fun c=>by simp [ren],by simp [ren]⟩
 ·rw [fr12]
  exact sum_go _ _ _ _ (fun _=>Iff.rfl) Post _ d r x1 x2 x3 _ hd.entry hb hg.entry hx1 hx2 hx3 hPost
theorem sum_lifted (os:Os) (started:os.Started) (H:Type) (enc:TypeId×Value→H) :
  ReturnsInLeavingWide {} Tryd.checked os 12 .any (fun w args=>(Rows.turnSumSpec.pre enc Tryd.prog Tryd.f12 [] false w args∧laidMetH Tryd.prog laid2 w)∧sizedMet enc Tryd.prog Tryd.f12 (OpenSpec.ofChange Rows.turnSumSpec) false w args)
   (Rows.turnSumSpec.post enc Tryd.prog Tryd.f12 false true false false):=by
 refine returnsInLeavingWide_and (C:=Tryd.checked) (X:=fun w _=>laidMetH Tryd.prog laid2 w) (fun _ _ _ hh h=>h.of_heap hh) own_knob started Tryd.func12
  (ChangeSpec.witness_shaped (enc:=enc) (C:=Tryd.checked) (os:=os) (X:=fun w _=>laidMetH Tryd.prog laid2 w) false (World.doorLaid Tryd.prog 600 os)
   #[.agg #[.slice none 0 0,.slice none 0 0,.int .i64 0,.int .i64 0,.int .i64 0,.int .i64 0,.slice none 0 0,.slice none 0 0,.slice none 0 0,.int .i64 0,.int .i64 0,.int .i64 0,.int .i64 0,.slice none 0 0],.int .u32 0,.int .u32 0,.int .u32 0] 8 rfl (World.shaped_of_RefB (by kernel_rfl) (by kernel_rfl)) (by kernel_rfl) (by kernel_rfl) (by kernel_rfl) (door_met os _)) ?_
 intro W base args ds gs before hval0 hW _ hsz hL
 have hval:∀ (j:Nat) t v,Tryd.f12.params[j]?=some t→args[j]?=some v→Value.okWide Tryd.prog W .any base t v:=hval0
 have hW':=hW
 obtain⟨p,q,hA0,hV,rfl,hfz,hnd⟩:=hW
 have hA:DataW.TrodAll enc Tryd.prog W 0 (fun _=>true) true Tryd.f12.params.toList args.toList ds p:=hA0
 rw [Tryd.params12] at hA hval
 obtain⟨v0,v1,v2,v3,d0,d1,d2,d3,p0,p1,p2,p3,rfl,rfl,rfl,h0,h1,h2,h3⟩:=trodAll_four hA
 obtain⟨rfl,rfl⟩:=trodVars_none hV
 obtain⟨x1,rfl,rfl,rfl,w1⟩:=open_int Tryd.underlying43 (hval 1 43 v1 rfl rfl) h1
 have hx1:0≤x1∧x1≤4294967295:=by
  have h:=w1
  simp only [Lit.wf,Bool.and_eq_true,decide_eq_true_eq] at h
  exact h
 obtain⟨x2,rfl,rfl,rfl,w2⟩:=open_int Tryd.underlying43 (hval 2 43 v2 rfl rfl) h2
 have hx2:0≤x2∧x2≤4294967295:=by
  have h:=w2
  simp only [Lit.wf,Bool.and_eq_true,decide_eq_true_eq] at h
  exact h
 obtain⟨x3,rfl,rfl,rfl,w3⟩:=open_int Tryd.underlying43 (hval 3 43 v3 rfl rfl) h3
 have hx3:0≤x3∧x3≤4294967295:=by
  have h:=w3
  simp only [Lit.wf,Bool.and_eq_true,decide_eq_true_eq] at h
  exact h
 have hfit:Fits 31 d0:=fun n hn=>by
  have:=List.all_eq_true.1 hsz n (DataW.weights_mem_each (P:=Tryd.prog) (j:=0) (t:=31) (d:=d0) (by rw [show Tryd.checked.prog=Tryd.prog from rfl,Tryd.params12];rfl) rfl n hn)
  simpa using this
 obtain⟨d,r,rfl,hd,hb⟩:=dit_open (hval 0 31 v0 rfl rfl) h0 hfit
 clear hA0 hval0
 try simp only [List.append_nil] at hW'
 have hlt:=fun x hx=>hW'.lt x hx
 try simp only [Array.size_empty,Nat.add_zero] at hlt
 refine fin_post (sum_fin d r x1 x2 x3 W hd hb (of_laid hL) hx1 hx2 hx3) fun W' hl=>?_
 have ha:=trodAll_mk4 (left_trod (by kernel_rfl) (of_decide_eq_true (by kernel_rfl)) h0 hl fun x hx=>hlt x (by simp [hx])) (shut_int Tryd.underlying43 w1) (shut_int Tryd.underlying43 w2) (shut_int Tryd.underlying43 w3)
 try simp only [List.append_nil] at ha
 exact⟨[d0,.lit (.int .u32 x1),.lit (.int .u32 x2),.lit (.int .u32 x3)],[],_,[],_,[],hW',trodAll_mk1 (shut_bool Tryd.underlying4 _),ha,rfl,left_kept hl _,fun h=>by cases h⟩
theorem sum_holds:Rows.TurnSumSaid :=
 OpenClaim.holds_of_wide_leaving 12 Tryd.f12 rfl rfl rfl rfl rfl rfl rfl ⟨rfl,rfl,rfl,rfl,rfl⟩ rfl rfl rfl rfl rfl (by kernel_rfl) Tryd.func12 (by kernel_rfl)
  (of_decide_eq_true (by kernel_rfl)) (by unfold Func.isWrapper;first | (rw [if_pos (by decide +kernel)];kernel_rfl) | (rw [if_neg (by decide +kernel)];exact⟨rfl,rfl⟩))
  (fun os started H enc _=>sum_lifted os started H enc)
theorem sum_card:Rows.TurnSumCardSaid :=
 tied_plain_goes .later [] [.funcs,.data] true (true,"13bbfa5877394a3cde13138796d6bb679173f8167c87f9ccc98cd9f3e99a425f") false true
  sum_holds (fun _ h=>by cases h) (by kernel_rfl) (fun _ h=>by cases h) turnSum_row_tie rfl ⟨rfl,rfl⟩ (by kernel_rfl) rfl
  (fun f fn hf hfn=>by
   obtain rfl:f=12:=Option.some.inj ((show Tryd.prog.funcNamed "crocus/crocuslaw02.TurnSum" = some 12 by kernel_rfl).symm.trans hf) |>.symm
   obtain rfl:fn=Tryd.f12:=(Option.some.inj (Tryd.func12.symm.trans hfn)).symm
   exact⟨by kernel_rfl,fun j t ht=>by
    rw [Tryd.params12] at ht
    have hm:t∈[31,43,43,43]:=by simpa using Array.mem_of_getElem? ht
    have hall:([31,43,43,43].all fun u=>!Tryd.prog.wantsStandIn u)=true:=by kernel_rfl
    exact (show Tryd.prog.wantsStandIn t=false by simpa using List.all_eq_true.1 hall t hm)⟩)
  (by kernel_rfl)
#print axioms sum_card
end Go.Proofs.YtolholkjeehamaaDoor

