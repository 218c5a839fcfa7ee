/- For every ditch and any two whole numbers the law TurnOwners returns true, does not panic, and leaves the ditch as it was. Conditions: the package's variables hold what the program lays in them at its start (the statement's own word: laid), and the ditch is a value as the statement's card tells it. -/
import Derived.Test.YtolholkjeehamaaDoorK1
import Derived.Test.YtolholkjeehamaaDoorC40
import Derived.Test.YtolholkjeehamaaDoorC39
import Derived.Test.YtolholkjeehamaaDoorC34
import Derived.Test.YtolholkjeehamaaDoorC09
set_option linter.all false
set_option maxRecDepth 100000
set_option maxHeartbeats 4000000
namespace Go.Proofs.YtolholkjeehamaaDoor
end Go.Proofs.YtolholkjeehamaaDoor
namespace Go.Proofs.YtolholkjeehamaaDoor
open Go.RowKit
def runningF (d:Dit) (a b:Int):Int×Int:=if checkS d≠0 then (0,checkS d) else if stretchS a b≠0 then (0,stretchS a b) else (d.ran b-d.ran a,0)
theorem ran_W {w:World} {B M:Nat} {d:Dit} (hw:Wtr w B M d d.ends d.cyc d.keys d.oth) (hO:d.Ok) {h:Int} (hh : -1000000000000≤h∧h≤1000000000000) :
  CallsIn FL 0 Tryd.prog 78 #[.pointer (some ⟨B,0,none⟩),num h] w fun e w'=>e=.returned (num (d.ran h))∧Nx w w':=ran_any B d h w hw.wat.dit hO.times hh
set_option maxRecDepth 100000 in
set_option maxHeartbeats 4000000 in
theorem running_any (d:Dit) (r:Rows6) (a b:Int) (w:World) (hd:DitSl w d r) (hs:d.Small) (hg:Glob w) :
  CallsIn FL 0 Tryd.prog 42 #[d.val r,num a,num b] w fun e w'=>e=.returned (.tuple #[num (runningF d a b).1,num (runningF d a b).2])∧Nx w w':=by
 obtain⟨W,hW,n0,hWs,cW⟩:=boxed w d r
 have nWW:Nx W W:=Below.refl _ _
 obtain⟨c0,c1,c2,c3,c4,c5,c6,c7,c8,c9,c10,c11,c12,c13⟩:=cells14 (cW _ nWW)
 have fin:∀ {x y:Int},runningF d a b=(x,y)→Ending.returned (.tuple #[num x,num y])=.returned (.tuple #[num (runningF d a b).1,num (runningF d a b).2]):=fun e=>by rw [e]
 by_cases hc:checkS d=0
 ·have hO:=ok_of_check hc
  have k66:=open_any d r W (hd.nx n0) hs (hg.nx n0) hc
  have k77:=fun w1=>stretch_any a b w1
  by_cases hst:stretchS a b=0
  ·have HA:Hid (runningF d a b=(d.ran b-d.ran a,0)):=by show _=_;unfold runningF;rw [if_neg (by simp [hc]),if_neg (by simp [hst])]
   obtain⟨ha,hb,hab⟩:=stretch_ok hst
   rw [hst] at k77
   have hra:=ran_bd2 hO.times hO.roomy (h:=a) (by omega)
   have hrb:=ran_bd2 hO.times hO.roomy (h:=b) (by omega)
   clear hc cW hst
   gi_enter Tryd.func42,Tryd.ntmps42
   gi_wp2_with (first
    | (gi_at_call 66;refine CallsIn.mono k66 ?_;rintro e w1 ⟨B,M,rfl,n1,hB,hw⟩;have HW:=Lib.hid hw;have n2:Nx w1 w1:=Below.refl _ _;have k78:∀ wx h,Nx w1 wx→-1000000000000≤h∧h≤1000000000000→CallsIn FL 0 Tryd.prog 78 #[.pointer (some ⟨B,0,none⟩),num h] wx (fun e w'=>e=.returned (num (d.ran h))∧Nx w1 w'):=fun wx h nx hh=>(ran_W (hw.nx nx) hO hh).mono (fun e w' hx=>⟨hx.1,Nx.trans nx hx.2⟩);clear hw)
    | (gi_at_call 77;refine CallsIn.mono (k77 _) ?_;rintro e w1 ⟨rfl,rfl⟩)
    | (gi_at_call 78;refine CallsIn.mono (k78 _ _ (by assumption) (by omega)) ?_;rintro e w2 ⟨rfl,n2⟩)
    | gi_in)
   go_ret2
   exact⟨fin HA.out,Nx.trans n0 (Nx.trans n1 n2)⟩
  ·have HA:Hid (runningF d a b=(0,stretchS a b)):=by show _=_;unfold runningF;rw [if_neg (by simp [hc]),if_pos hst]
   have hb:(stretchS a b != 0)=true:=by simpa using hst
   clear hc cW hO hst
   gi_enter Tryd.func42,Tryd.ntmps42
   gi_wp2_with (first
    | (gi_at_call 66;refine CallsIn.mono k66 ?_;rintro e w1 ⟨B,M,rfl,n1,hB,hw⟩;clear hw)
    | (gi_at_call 77;refine CallsIn.mono (k77 _) ?_;rintro e w1 ⟨rfl,rfl⟩)
    | gi_in)
   go_ret2
   exact⟨fin HA.out,Nx.trans n0 n1⟩
 ·have k66:=open_bad d r W (hd.nx n0) hs (hg.nx n0) hc
  have HA:Hid (runningF d a b=(0,checkS d)):=by show _=_;unfold runningF;rw [if_pos hc]
  have hb:(checkS d != 0)=true:=by simpa using hc
  have hb2:(checkS d == 0)=false:=by simpa using hc
  clear cW hc
  gi_enter Tryd.func42,Tryd.ntmps42
  gi_wp2_with (first
   | (gi_at_call 66;refine CallsIn.mono k66 ?_;rintro e w1 ⟨rfl,n1⟩)
   | gi_in)
  go_ret2
  exact⟨fin HA.out,Nx.trans n0 n1⟩
end Go.Proofs.YtolholkjeehamaaDoor

namespace Go.Proofs.YtolholkjeehamaaDoor
theorem Dit.Ok.oth_len {d:Dit} (hO:d.Ok) (c:Int):(d.oth c).length=d.turns.length:=by
 by_cases hc:c∈d.keys
 ·rw [hO.chg.len c hc]
 ·rw [oth_us hc];simp [Dit.us]
end Go.Proofs.YtolholkjeehamaaDoor

namespace Go.Proofs.YtolholkjeehamaaDoor
theorem all_set {P:Int→Prop} {l:List Int} (h:∀ x∈l,P x) {v:Int} (hv:P v) (i:Nat):∀ x∈l.set i v,P x:=fun x hx=>by
 rcases List.mem_or_eq_of_mem_set hx with h1 | h1
 ·exact h x h1
 ·rw [h1];exact hv
theorem all_getD {P:Int→Prop} {l:List Int} (h:∀ x∈l,P x) (h0:P 0) (i:Nat):P ((l[i]?).getD 0):=by
 rcases hi:l[i]? with _ | x
 ·exact h0
 ·exact h x (List.mem_of_getElem? hi)
theorem all_oth2 {P:Int→Prop} (h0:P 0) (x:Int):∀ (sw:List (Int×Int×Int)) (us:List Int),(∀ v∈us,P v)→∀ v∈oth2 us sw x,P v
 | [],_,h=>h
 | s :: sw,us,h=>by
  show ∀ v∈oth2 (if s.1=x then swapL us s.2.1.toNat s.2.2.toNat else us) sw x,P v
  refine all_oth2 h0 x sw _ ?_
  split
  ·exact all_set (all_set h (all_getD h h0 _) _) (all_getD h h0 _) _
  ·exact h
theorem all_oth3 {P:Int→Prop} (x:Int):∀ (lo:List (Int×Int×Int)) (us:List Int),(∀ s∈lo,P s.2.2)→(∀ v∈us,P v)→∀ v∈oth3 us lo x,P v
 | [],_,_,h=>h
 | s :: lo,us,hl,h=>by
  show ∀ v∈oth3 (if s.1=x then us.set s.2.1.toNat s.2.2 else us) lo x,P v
  refine all_oth3 x lo _ (fun s hs=>hl s (List.mem_cons_of_mem _ hs)) ?_
  split
  ·exact all_set h (hl s (List.mem_cons_self ..)) _
  ·exact h
theorem Dit.Ok.oth_all {d:Dit} (hO:d.Ok) (x:Int):∀ v∈d.oth x,0≤v∧v≤(d.holders.length:Int)-1:=by
 have hu:∀ v∈d.us,0≤v∧v≤(d.holders.length:Int)-1:=fun v hv=>by
  obtain⟨y,hy,rfl⟩:=List.mem_map.1 hv
  exact (hO.th y hy).1
 have h0:0≤(0:Int)∧(0:Int)≤(d.holders.length:Int)-1:=by
  rcases ht:d.turns with _ | ⟨y,l⟩
  ·have:=hO.t12;rw [ht] at this;simp at this
  ·have:=(hO.th y (by rw [ht];exact List.mem_cons_self ..)).1;omega
 exact all_oth3 (P:=fun v=>0≤v∧v≤(d.holders.length:Int)-1) x _ _ (fun s hs=>(hO.lo s hs).2.2) (all_oth2 h0 x _ _ hu)
theorem Dit.Ok.hour {d:Dit} (hO:d.Ok) {h:Int} (hh:0≤h):(d.owner h=(-1,-1,-1)∧d.ran (h+1)=d.ran h) ∨
  (∃ k c t,d.owner h=(k,c,t)∧(0≤k∧k≤(d.holders.length:Int)-1)∧0≤c∧(0≤t∧t<(d.turns.length:Int))∧d.begin_≤h∧d.ran (h+1)=d.ran h+1):=by
 have hs:=hO.ran_step hh
 by_cases hr:d.runs h=true
 ·have hr0:=hO.ran_nonneg h
  have hT:=hO.cyc_pos
  rw [if_pos hr] at hs
  have hq:0≤(d.ran h).tdiv d.cyc:=Int.tdiv_nonneg hr0 (by omega)
  have htl:=hO.turn_lt (d.ran h)
  have hl:=hO.oth_len ((d.ran h).tdiv d.cyc)
  have ha:=hO.oth_all ((d.ran h).tdiv d.cyc)
  have hw:(if (d.ran h).tdiv d.cyc∈d.keys then d.oth ((d.ran h).tdiv d.cyc) else d.us)=d.oth ((d.ran h).tdiv d.cyc):=by
   split
   ·rfl
   ·rename_i hn;rw [oth_us hn]
  have hat:d.at d.ends d.cyc h=((d.ran h).tdiv d.cyc,(turnS d.ends ((d.ran h).tmod d.cyc) 12 0:Int)):=by unfold Dit.at;rw [if_neg (by omega)]
  have hb:d.begin_≤h:=by
   rcases Int.lt_or_le h d.begin_ with hlt | hle
   ·have:=ran_low (d:=d) (h:=h) (by omega)
    have:=ran_low (d:=d) (h:=h+1) (by omega)
    omega
   ·exact hle
  refine .inr ⟨_,_,_,rfl,?_,?_,?_,hb,hs⟩
  ·rw [hat]
   unfold whoS
   simp only []
   rw [if_neg (by omega),hw,Int.toNat_natCast]
   generalize turnS d.ends ((d.ran h).tmod d.cyc) 12 0=t at htl
   generalize d.oth ((d.ran h).tdiv d.cyc)=l at hl ha
   rw [List.getElem?_eq_getElem (show t<l.length by omega)]
   exact ha _ (List.getElem_mem _)
  ·rw [hat];exact hq
  ·rw [hat];exact⟨by simp,by simpa using htl⟩
 ·rw [if_neg hr] at hs
  have hat:d.at d.ends d.cyc h=(-1,-1):=by unfold Dit.at;rw [if_pos (by omega)]
  refine .inl ⟨?_,by omega⟩
  unfold Dit.owner whoS
  rw [hat]
  simp
end Go.Proofs.YtolholkjeehamaaDoor

namespace Go.Proofs.YtolholkjeehamaaDoor
end Go.Proofs.YtolholkjeehamaaDoor

namespace Go.Proofs.YtolholkjeehamaaDoor
end Go.Proofs.YtolholkjeehamaaDoor

namespace Go.Proofs.YtolholkjeehamaaDoor
theorem own_eq {d:Dit} (hc:checkS d=0) {n:Int} (hn:0≤n∧n≤999999999):ownerF d n=(d.owner n,0):=by
 unfold ownerF;rw [if_neg (by simp [hc]),if_neg (by simp;omega)]
end Go.Proofs.YtolholkjeehamaaDoor

namespace Go.Proofs.YtolholkjeehamaaDoor
open Go.RowKit Go.Con Go.Conc
local instance:Lone:=mainL
section
variable {dst:Option Nat} {ty:TypeId} {pos:String} {af:Array Edge} {x y c b o:Nat} {w:World} {gd:Option (Nat×Bool)} (e:Operand→Value)
end
end Go.Proofs.YtolholkjeehamaaDoor

namespace Go.Proofs.YtolholkjeehamaaDoor
open Go.RowKit
section
variable {F:Fence} {n:Nat} {ops:Array Oper} {C:World→Prop} {a:Act} {dst:Option Nat} {ty:TypeId} {pos:String} {af:Array Edge}
end
end Go.Proofs.YtolholkjeehamaaDoor

namespace Go.Proofs.YtolholkjeehamaaDoor
open Go.RowKit
theorem running80_any (d:Dit) (r:Rows6) (h:Int) (w:World) (hd:DitSl w d r) (ht:d.Times) (hh : -1000000000000≤h∧h≤1000000000000) :
  CallsIn FL 0 Tryd.prog 80 #[d.val r,num h] w fun e w'=>e=.returned (num (d.ran h))∧Nx w w':=by
 obtain⟨W,hW,n0,hWs,cW⟩:=boxed w d r
 obtain⟨af,cap,ef⟩:=hd.feasts.cases
 rw [List.length_map] at ef
 have hv:=hd.feasts.nx n0
 rw [ef] at hv
 have nWW:Nx W W:=Below.refl _ _
 have c2:∀ x,Nx W x→x.cell? ⟨w.heap.size,2,none⟩=some (num d.begin_):=fun x hx=>cW x hx 2 _ rfl
 have c6:∀ x,Nx W x→x.cell? ⟨w.heap.size,6,none⟩=some (.slice af d.feasts.length cap):=fun x hx=>(cW x hx 6 r.f rfl).trans (by rw [ef])
 have hb0:=ht.begin_
 have hb1 : -1000000000000≤d.begin_∧d.begin_≤1000000000000:=by omega
 have k104:∀ (y:Int) (x:World),-1000000000000≤y∧y≤1000000000000→Nx W x→CallsIn FL 0 Tryd.prog 104 #[d.val r,num y] x fun e w'=>e=.returned (num (restS d.week d.from_ d.long y))∧Nx W w' :=
  fun y x hy hx=>(rests_any d r y x ht hy).mono fun e w' ⟨p,q⟩=>⟨p,Nx.trans hx q⟩
 have rbd:=fun (y:Int) hy=>rest_bd (hour:=y) ht.week ht.from_ ht.long hy
 have f2:=c2 _ nWW
 gi_enter Tryd.func80,Tryd.ntmps80
 by_cases hle:h≤d.begin_
 ·have HZ:=Lib.hid (ran_low hle)
  clear cW hv c2 c6 k104 rbd
  gi_wp2
  go_ret
  exact⟨by rw [HZ.out];rfl,n0⟩
 ·gi_upto_region 3 with fail
  have nd:Nx W W.drew:=Below.drew nWW
  have kA:=fun x hx=>k104 h x hh hx
  have kB:=fun x hx=>k104 d.begin_ x hb1 hx
  have rA:=rbd h hh
  have rB:=rbd d.begin_ hb1
  have H0:=Lib.hid (show d.ranTo h 0=h-d.begin_-(restS d.week d.from_ d.long h-restS d.week d.from_ d.long d.begin_) by rw [d.ranTo_zero];unfold Dit.work workS;rw [if_neg (by omega)];omega)
  generalize restS d.week d.from_ d.long h=Rh at kA rA H0
  generalize restS d.week d.from_ d.long d.begin_=Rb at kB rB H0
  refine wpIn_region_C (fun x=>Nx W x) (by kernel_rfl) ?_
  change wpAnyC _ _ _ _ _ _ _ 14 #[false,false,false,false,false,false,false,false,false,false,false,false,false,false] _ _
  refine wpAnyC_takeR (i:=0) (oi:=⟨some 13,.move (.tmp 1),_,_,_,none⟩) (v:=num h) (plain_ops (by kernel_rfl)) rfl (by kernel_rfl) (by kernel_rfl) (by kernel_rfl) (fun _ _ _ h=>h) (yC_move rfl) ?_
  simp only [Act.put,List.setIfInBounds_toArray,List.set_cons_succ,List.set_cons_zero]
  refine wpAnyC_as (l':=#[true,false,false,false,false,false,false,false,false,false,false,false,false,false]) rfl ?_
  refine wpAnyC_takeR (i:=1) (oi:=⟨some 14,.fieldAddr 31 (.tmp 2) 2,_,_,_,none⟩) (v:=.pointer (some ⟨w.heap.size,2,none⟩)) (plain_ops (by kernel_rfl)) rfl (by kernel_rfl) (by kernel_rfl) (by kernel_rfl) (fun _ _ _ h=>h) (yC_f31_2 rfl) ?_
  simp only [Act.put,List.setIfInBounds_toArray,List.set_cons_succ,List.set_cons_zero]
  refine wpAnyC_as (l':=#[true,true,false,false,false,false,false,false,false,false,false,false,false,false]) rfl ?_
  refine wpAnyC_takeR (i:=2) (oi:=⟨some 15,.load 3 (.tmp 14),_,_,_,none⟩) (v:=num d.begin_) (plain_ops (by kernel_rfl)) rfl (by kernel_rfl) (by kernel_rfl) (by kernel_rfl) (fun _ _ _ h=>h) (yC_load3 rfl (fun x hx=>c2 x hx)) ?_
  simp only [Act.put,List.setIfInBounds_toArray,List.set_cons_succ,List.set_cons_zero]
  refine wpAnyC_as (l':=#[true,true,true,false,false,false,false,false,false,false,false,false,false,false]) rfl ?_
  refine wpAnyC_takeR (i:=3) (oi:=⟨some 16,.binOp .sub 3 (.tmp 13) (.tmp 15) 3,_,_,_,none⟩) (v:=num (h-d.begin_)) (plain_ops (by kernel_rfl)) rfl (by kernel_rfl) (by kernel_rfl) (by kernel_rfl) (fun _ _ _ h=>h) (yC_sub rfl rfl (by omega)) ?_
  simp only [Act.put,List.setIfInBounds_toArray,List.set_cons_succ,List.set_cons_zero]
  refine wpAnyC_as (l':=#[true,true,true,true,false,false,false,false,false,false,false,false,false,false]) rfl ?_
  refine wpAnyC_takeR (i:=4) (oi:=⟨some 17,.load 31 (.tmp 2),_,_,_,none⟩) (v:=d.val r) (plain_ops (by kernel_rfl)) rfl (by kernel_rfl) (by kernel_rfl) (by kernel_rfl) (fun _ _ _ h=>h) (yC_dit rfl (fun x hx=>cW x hx)) ?_
  simp only [Act.put,List.setIfInBounds_toArray,List.set_cons_succ,List.set_cons_zero]
  refine wpAnyC_as (l':=#[true,true,true,true,true,false,false,false,false,false,false,false,false,false]) rfl ?_
  refine wpAnyC_takeR (i:=5) (oi:=⟨some 18,.move (.tmp 1),_,_,_,none⟩) (v:=num h) (plain_ops (by kernel_rfl)) rfl (by kernel_rfl) (by kernel_rfl) (by kernel_rfl) (fun _ _ _ h=>h) (yC_move rfl) ?_
  simp only [Act.put,List.setIfInBounds_toArray,List.set_cons_succ,List.set_cons_zero]
  refine wpAnyC_as (l':=#[true,true,true,true,true,true,false,false,false,false,false,false,false,false]) rfl ?_
  refine wpAnyC_takeR (i:=7) (oi:=⟨some 20,.load 31 (.tmp 2),_,_,_,none⟩) (v:=d.val r) (plain_ops (by kernel_rfl)) rfl (by kernel_rfl) (by kernel_rfl) (by kernel_rfl) (fun _ _ _ h=>h) (yC_dit rfl (fun x hx=>cW x hx)) ?_
  simp only [Act.put,List.setIfInBounds_toArray,List.set_cons_succ,List.set_cons_zero]
  refine wpAnyC_as (l':=#[true,true,true,true,true,true,false,true,false,false,false,false,false,false]) rfl ?_
  refine wpAnyC_takeR (i:=8) (oi:=⟨some 21,.fieldAddr 31 (.tmp 2) 2,_,_,_,none⟩) (v:=.pointer (some ⟨w.heap.size,2,none⟩)) (plain_ops (by kernel_rfl)) rfl (by kernel_rfl) (by kernel_rfl) (by kernel_rfl) (fun _ _ _ h=>h) (yC_f31_2 rfl) ?_
  simp only [Act.put,List.setIfInBounds_toArray,List.set_cons_succ,List.set_cons_zero]
  refine wpAnyC_as (l':=#[true,true,true,true,true,true,false,true,true,false,false,false,false,false]) rfl ?_
  refine wpAnyC_takeR (i:=9) (oi:=⟨some 22,.load 3 (.tmp 21),_,_,_,none⟩) (v:=num d.begin_) (plain_ops (by kernel_rfl)) rfl (by kernel_rfl) (by kernel_rfl) (by kernel_rfl) (fun _ _ _ h=>h) (yC_load3 rfl (fun x hx=>c2 x hx)) ?_
  simp only [Act.put,List.setIfInBounds_toArray,List.set_cons_succ,List.set_cons_zero]
  refine wpAnyC_as (l':=#[true,true,true,true,true,true,false,true,true,true,false,false,false,false]) rfl ?_
  refine wpAnyC_only (i:=6) (o:=⟨some 19,.call { callee:=.value (.func 104),args:=#[.tmp 17,.tmp 18],argTypes:=#[31,3] },_,_,_,none⟩) (by kernel_rfl) rfl rfl (nd) ?_
  intro K hK
  go_simp
  refine CallsIn.mono (kA _ (nd)) ?_
  rintro e v6 ⟨rfl,n6⟩
  refine hK _ _ ?_
  refine wpAnyC_as (l':=#[true,true,true,true,true,true,true,true,true,true,false,false,false,false]) rfl ?_
  refine wpAnyC_only (i:=10) (o:=⟨some 23,.call { callee:=.value (.func 104),args:=#[.tmp 20,.tmp 22],argTypes:=#[31,3] },_,_,_,none⟩) (by kernel_rfl) rfl rfl (n6) ?_
  intro K hK
  go_simp
  refine CallsIn.mono (kB _ (n6)) ?_
  rintro e v10 ⟨rfl,n10⟩
  refine hK _ _ ?_
  refine wpAnyC_as (l':=#[true,true,true,true,true,true,true,true,true,true,true,false,false,false]) rfl ?_
  refine wpAnyC_takeR (i:=11) (oi:=⟨some 24,.binOp .sub 3 (.tmp 19) (.tmp 23) 3,_,_,_,none⟩) (v:=num (Rh-Rb)) (plain_ops (by kernel_rfl)) rfl (by kernel_rfl) (by kernel_rfl) (by kernel_rfl) (fun _ _ _ h=>h) (yC_sub rfl rfl (by omega)) ?_
  simp only [Act.put,List.setIfInBounds_toArray,List.set_cons_succ,List.set_cons_zero]
  refine wpAnyC_as (l':=#[true,true,true,true,true,true,true,true,true,true,true,true,false,false]) rfl ?_
  refine wpAnyC_takeR (i:=12) (oi:=⟨some 25,.binOp .sub 3 (.tmp 16) (.tmp 24) 3,_,_,_,none⟩) (v:=num ((h-d.begin_)-(Rh-Rb))) (plain_ops (by kernel_rfl)) rfl (by kernel_rfl) (by kernel_rfl) (by kernel_rfl) (fun _ _ _ h=>h) (yC_sub rfl rfl (by omega)) ?_
  simp only [Act.put,List.setIfInBounds_toArray,List.set_cons_succ,List.set_cons_zero]
  refine wpAnyC_as (l':=#[true,true,true,true,true,true,true,true,true,true,true,true,true,false]) rfl ?_
  refine wpAnyC_takeR (i:=13) (oi:=⟨some 5,.assign (.tmp 25),_,_,_,none⟩) (v:=num ((h-d.begin_)-(Rh-Rb))) (plain_ops (by kernel_rfl)) rfl (by kernel_rfl) (by kernel_rfl) (by kernel_rfl) (fun _ _ _ h=>h) (yC_assign rfl) ?_
  simp only [Act.put,List.setIfInBounds_toArray,List.set_cons_succ,List.set_cons_zero]
  refine wpAnyC_as (l':=#[true,true,true,true,true,true,true,true,true,true,true,true,true,true]) rfl ?_
  refine wpAnyC_done (by kernel_rfl) (n10) ?_
  clear kA kB f2
  gi_wp2
  gi_loopw [5,6] (fun n i wr=>∃ k:Nat,k≤d.feasts.length∧i=num k∧n=num (d.ranTo h k)∧Nx W wr) (fun _ i _=>d.feasts.length-(intOf i).toNat)
  case atStart=>exact⟨0,Nat.zero_le _,rfl,by rw [H0.out],n10⟩
  case round =>
   obtain⟨k,hk,rfl,rfl,n2⟩:=hrel
   have f2:=c2 _ n2
   have f6:=c6 _ n2
   by_cases hlt:k<d.feasts.length
   ·obtain⟨b,off,ha,hbl,hcl⟩:=hv.get (by simp;omega)
    subst ha
    have hx:d.feasts[k]?=some d.feasts[k]:=List.getElem?_eq_getElem hlt
    have hxb:=ht.feasts d.feasts[k] (List.getElem_mem _)
    generalize d.feasts[k]=x at hx hxb
    obtain⟨x1,x2⟩:=x
    dsimp only at hxb
    obtain⟨g1,g2⟩:=Sl.at2 hcl n2 hbl hx
    have hs:=d.ranTo_succ h hx
    have hbd:=ht.ranTo_bd hh (k+1) hlt
    have hbd0:=ht.ranTo_bd hh k hk
    have hmany:=ht.many
    dsimp only at hs
    have HS:=Lib.hid hs
    have HB:=Lib.hid hbd
    have HB0:=Lib.hid hbd0
    have HC:=Lib.hid hcl
    have HV:=Lib.hid hv
    have HR:=Lib.hid rbd
    have HK:=Lib.hid k104
    have HW:=Lib.hid cW
    have H2:=Lib.hid c2
    clear hs hbd hbd0 hcl hv rbd k104 cW c2 c6 rA rB hx
    gi_upto_region 7 with fail
    gi_big_quiet_th (fail)
    simp only [max_if,min_if]
    have n3:Nx W (wr.drewN nq):=Nx.drewN n2 nq
    generalize wr.drewN nq=W3 at n3 ⊢
    have bA : -1000000000000≤max d.begin_ x1∧max d.begin_ x1≤1000000000000:=by omega
    have bE : -1000000000000≤min h (x2+1)∧min h (x2+1)≤1000000000000:=by omega
    clear f2 f6 g1 g2
    generalize max d.begin_ x1=A at HS bA ⊢
    generalize min h (x2+1)=E at HS bE ⊢
    by_cases hlt2:A<E
    ·gi_upto_region 9 with fail
     have nd9:Nx W W3.drew:=Below.drew n3
     have c2:=H2.out
     have cW:=HW.out
     have kA:=fun x hx=>HK.out A x bA hx
     have kE:=fun x hx=>HK.out E x bE hx
     have rA:=HR.out A bA
     have rE:=HR.out E bE
     have hs:d.ranTo h (k+1)=d.ranTo h k-(E-A-(restS d.week d.from_ d.long E-restS d.week d.from_ d.long A)):=by
      rw [HS.out];unfold Dit.work workS;rw [if_neg (by omega)];omega
     generalize restS d.week d.from_ d.long A=Ra at kA rA hs
     generalize restS d.week d.from_ d.long E=Re at kE rE hs
     have hz:=HB0.out
     generalize d.ranTo h k=z at hs hz ⊢
     refine wpIn_region_C (fun x=>Nx W x) (by kernel_rfl) ?_
     change wpAnyC _ _ _ _ _ _ _ 14 #[false,false,false,false,false,false,false,false,false,false,false,false,false,false] _ _
     refine wpAnyC_takeR (i:=0) (oi:=⟨some 54,.move (.tmp 5),_,_,_,none⟩) (v:=num z) (plain_ops (by kernel_rfl)) rfl (by kernel_rfl) (by kernel_rfl) (by kernel_rfl) (fun _ _ _ h=>h) (yC_move rfl) ?_
     simp only [Act.put,List.setIfInBounds_toArray,List.set_cons_succ,List.set_cons_zero]
     refine wpAnyC_as (l':=#[true,false,false,false,false,false,false,false,false,false,false,false,false,false]) rfl ?_
     refine wpAnyC_takeR (i:=1) (oi:=⟨some 55,.move (.tmp 8),_,_,_,none⟩) (v:=num E) (plain_ops (by kernel_rfl)) rfl (by kernel_rfl) (by kernel_rfl) (by kernel_rfl) (fun _ _ _ h=>h) (yC_move rfl) ?_
     simp only [Act.put,List.setIfInBounds_toArray,List.set_cons_succ,List.set_cons_zero]
     refine wpAnyC_as (l':=#[true,true,false,false,false,false,false,false,false,false,false,false,false,false]) rfl ?_
     refine wpAnyC_takeR (i:=2) (oi:=⟨some 56,.move (.tmp 7),_,_,_,none⟩) (v:=num A) (plain_ops (by kernel_rfl)) rfl (by kernel_rfl) (by kernel_rfl) (by kernel_rfl) (fun _ _ _ h=>h) (yC_move rfl) ?_
     simp only [Act.put,List.setIfInBounds_toArray,List.set_cons_succ,List.set_cons_zero]
     refine wpAnyC_as (l':=#[true,true,true,false,false,false,false,false,false,false,false,false,false,false]) rfl ?_
     refine wpAnyC_takeR (i:=3) (oi:=⟨some 57,.binOp .sub 3 (.tmp 55) (.tmp 56) 3,_,_,_,none⟩) (v:=num (E-A)) (plain_ops (by kernel_rfl)) rfl (by kernel_rfl) (by kernel_rfl) (by kernel_rfl) (fun _ _ _ h=>h) (yC_sub rfl rfl (by omega)) ?_
     simp only [Act.put,List.setIfInBounds_toArray,List.set_cons_succ,List.set_cons_zero]
     refine wpAnyC_as (l':=#[true,true,true,true,false,false,false,false,false,false,false,false,false,false]) rfl ?_
     refine wpAnyC_takeR (i:=4) (oi:=⟨some 58,.load 31 (.tmp 2),_,_,_,none⟩) (v:=d.val r) (plain_ops (by kernel_rfl)) rfl (by kernel_rfl) (by kernel_rfl) (by kernel_rfl) (fun _ _ _ h=>h) (yC_dit rfl (fun x hx=>cW x hx)) ?_
     simp only [Act.put,List.setIfInBounds_toArray,List.set_cons_succ,List.set_cons_zero]
     refine wpAnyC_as (l':=#[true,true,true,true,true,false,false,false,false,false,false,false,false,false]) rfl ?_
     refine wpAnyC_takeR (i:=5) (oi:=⟨some 59,.move (.tmp 8),_,_,_,none⟩) (v:=num E) (plain_ops (by kernel_rfl)) rfl (by kernel_rfl) (by kernel_rfl) (by kernel_rfl) (fun _ _ _ h=>h) (yC_move rfl) ?_
     simp only [Act.put,List.setIfInBounds_toArray,List.set_cons_succ,List.set_cons_zero]
     refine wpAnyC_as (l':=#[true,true,true,true,true,true,false,false,false,false,false,false,false,false]) rfl ?_
     refine wpAnyC_takeR (i:=7) (oi:=⟨some 61,.load 31 (.tmp 2),_,_,_,none⟩) (v:=d.val r) (plain_ops (by kernel_rfl)) rfl (by kernel_rfl) (by kernel_rfl) (by kernel_rfl) (fun _ _ _ h=>h) (yC_dit rfl (fun x hx=>cW x hx)) ?_
     simp only [Act.put,List.setIfInBounds_toArray,List.set_cons_succ,List.set_cons_zero]
     refine wpAnyC_as (l':=#[true,true,true,true,true,true,false,true,false,false,false,false,false,false]) rfl ?_
     refine wpAnyC_takeR (i:=8) (oi:=⟨some 62,.move (.tmp 7),_,_,_,none⟩) (v:=num A) (plain_ops (by kernel_rfl)) rfl (by kernel_rfl) (by kernel_rfl) (by kernel_rfl) (fun _ _ _ h=>h) (yC_move rfl) ?_
     simp only [Act.put,List.setIfInBounds_toArray,List.set_cons_succ,List.set_cons_zero]
     refine wpAnyC_as (l':=#[true,true,true,true,true,true,false,true,true,false,false,false,false,false]) rfl ?_
     refine wpAnyC_only (i:=6) (o:=⟨some 60,.call { callee:=.value (.func 104),args:=#[.tmp 58,.tmp 59],argTypes:=#[31,3] },_,_,_,none⟩) (by kernel_rfl) rfl rfl (nd9) ?_
     intro K hK
     go_simp
     refine CallsIn.mono (kE _ (nd9)) ?_
     rintro e v6 ⟨rfl,m6⟩
     refine hK _ _ ?_
     refine wpAnyC_as (l':=#[true,true,true,true,true,true,true,true,true,false,false,false,false,false]) rfl ?_
     refine wpAnyC_only (i:=9) (o:=⟨some 63,.call { callee:=.value (.func 104),args:=#[.tmp 61,.tmp 62],argTypes:=#[31,3] },_,_,_,none⟩) (by kernel_rfl) rfl rfl (m6) ?_
     intro K hK
     go_simp
     refine CallsIn.mono (kA _ (m6)) ?_
     rintro e v9 ⟨rfl,m9⟩
     refine hK _ _ ?_
     refine wpAnyC_as (l':=#[true,true,true,true,true,true,true,true,true,true,false,false,false,false]) rfl ?_
     refine wpAnyC_takeR (i:=10) (oi:=⟨some 64,.binOp .sub 3 (.tmp 60) (.tmp 63) 3,_,_,_,none⟩) (v:=num (Re-Ra)) (plain_ops (by kernel_rfl)) rfl (by kernel_rfl) (by kernel_rfl) (by kernel_rfl) (fun _ _ _ h=>h) (yC_sub rfl rfl (by omega)) ?_
     simp only [Act.put,List.setIfInBounds_toArray,List.set_cons_succ,List.set_cons_zero]
     refine wpAnyC_as (l':=#[true,true,true,true,true,true,true,true,true,true,true,false,false,false]) rfl ?_
     refine wpAnyC_takeR (i:=11) (oi:=⟨some 65,.binOp .sub 3 (.tmp 57) (.tmp 64) 3,_,_,_,none⟩) (v:=num ((E-A)-(Re-Ra))) (plain_ops (by kernel_rfl)) rfl (by kernel_rfl) (by kernel_rfl) (by kernel_rfl) (fun _ _ _ h=>h) (yC_sub rfl rfl (by omega)) ?_
     simp only [Act.put,List.setIfInBounds_toArray,List.set_cons_succ,List.set_cons_zero]
     refine wpAnyC_as (l':=#[true,true,true,true,true,true,true,true,true,true,true,true,false,false]) rfl ?_
     refine wpAnyC_takeR (i:=12) (oi:=⟨some 66,.binOp .sub 3 (.tmp 54) (.tmp 65) 3,_,_,_,none⟩) (v:=num (z-((E-A)-(Re-Ra)))) (plain_ops (by kernel_rfl)) rfl (by kernel_rfl) (by kernel_rfl) (by kernel_rfl) (fun _ _ _ h=>h) (yC_sub rfl rfl (by omega)) ?_
     simp only [Act.put,List.setIfInBounds_toArray,List.set_cons_succ,List.set_cons_zero]
     refine wpAnyC_as (l':=#[true,true,true,true,true,true,true,true,true,true,true,true,true,false]) rfl ?_
     refine wpAnyC_takeR (i:=13) (oi:=⟨some 5,.assign (.tmp 66),_,_,_,none⟩) (v:=num (z-((E-A)-(Re-Ra)))) (plain_ops (by kernel_rfl)) rfl (by kernel_rfl) (by kernel_rfl) (by kernel_rfl) (fun _ _ _ h=>h) (yC_assign rfl) ?_
     simp only [Act.put,List.setIfInBounds_toArray,List.set_cons_succ,List.set_cons_zero]
     refine wpAnyC_as (l':=#[true,true,true,true,true,true,true,true,true,true,true,true,true,true]) rfl ?_
     refine wpAnyC_done (by kernel_rfl) (m9) ?_
     clear kA kE c2 cW
     gi_wp2
     exact⟨⟨k+1,hlt,by simp,by rw [hs],m9⟩,by simp [intOf];omega⟩
    ·have hs:d.ranTo h (k+1)=d.ranTo h k:=by rw [HS.out];unfold Dit.work workS;rw [if_pos (by omega)];omega
     gi_wp2
     exact⟨⟨k+1,hlt,by simp,by rw [hs],n3⟩,by simp [intOf];omega⟩
   ·obtain rfl:k=d.feasts.length:=by omega
    clear hv rbd k104 cW c2 c6
    gi_wp2
    go_ret
    exact⟨by rw [d.ranTo_all];rfl,Nx.trans n0 n2⟩
end Go.Proofs.YtolholkjeehamaaDoor

namespace Go.Proofs.YtolholkjeehamaaDoor
open Go.RowKit
section
variable {F:Fence} {n:Nat} {ops:Array Oper} {C:World→Prop} {a:Act} {dst:Option Nat} {ty:TypeId} {pos:String} {af:Array Edge}
theorem yG {op:Op} {v:Value} {gd:Option (Nat×Bool)} (h:YieldsC F n Tryd.prog ops C ⟨dst,op,ty,pos,af,none⟩ v a) (hw:Region.wanted ⟨dst,op,ty,pos,af,gd⟩ (yielded ops a.tmps)=true):YieldsC F n Tryd.prog ops C ⟨dst,op,ty,pos,af,gd⟩ v a:=by
 refine⟨h.1,.inl ⟨hw,?_⟩⟩
 rcases h.2 with ⟨_,h2⟩ | ⟨h2,_⟩
 ·exact h2
 ·simp [Region.wanted] at h2
theorem yC_assignc {u v:Value} (h:a.eval (.const u)=v):YieldsC F n Tryd.prog ops C ⟨dst,.assign (.const u),ty,pos,af,none⟩ v a :=
 yC rfl (fun _=>rfl) fun w _=>by
  generalize a.eval=ρ at h ⊢
  simp [execOp,go_sem,h]
theorem yC_geqt {s:Nat} {x m:Int} (h:a.eval (.tmp s)=num x) (hk:a.eval (.const (.int .i64 m))=num m) (hx:m≤x):YieldsC F n Tryd.prog ops C ⟨dst,.binOp .geq 3 (.tmp s) (.const (.int .i64 m)) 3,ty,pos,af,none⟩ (.bool true) a :=
 yC rfl (fun _=>rfl) fun w _=>by
  generalize a.eval=ρ at h hk ⊢
  simp [execOp,go_sem,h,hk,hx]
theorem yC_gtr {s i:Nat} {x y:Int} (h:a.eval (.tmp s)=num x) (hi:a.eval (.tmp i)=num y):YieldsC F n Tryd.prog ops C ⟨dst,.binOp .gtr 3 (.tmp s) (.tmp i) 3,ty,pos,af,none⟩ (.bool (decide (x > y))) a :=
 yC rfl (fun _=>rfl) fun w _=>by
  generalize a.eval=ρ at h hi ⊢
  simp [execOp,go_sem,h,hi]
theorem yC_pickt {c s:Nat} {v:Value} (h:a.eval (.tmp c)=.bool true) (h2:a.eval (.tmp s)=v):YieldsC F n Tryd.prog ops C ⟨dst,.pick (.tmp c) (.tmp s) (.const (.bool false)),ty,pos,af,none⟩ v a :=
 yC rfl (fun _=>rfl) fun w _=>by
  generalize a.eval=ρ at h h2 ⊢
  simp [execOp,go_sem,h,h2]
end
theorem sl_cell {w:World} {g m cap:Nat} {l:List Int} (h:Sl w (.slice (some ⟨g,0,none⟩) m cap) 1 (l.map fun x=>[num x])) {j:Nat} {x:Int} (hj:l[j]?=some x):w.cell? ⟨g,j,none⟩=some (num x):=by
 have hlt:=(List.getElem?_eq_some_iff.1 hj).1
 obtain⟨b,off,e,hb,hc⟩:=h.get (by simp;omega)
 cases e
 have:=Sl.one hc hj
 simpa using this
theorem turnS_of {d:Dit} (hO:d.Ok) {r:Int} {t:Nat} (h0:0≤r) (h1:r<d.cyc) (ht:t<d.turns.length) (h2:sumTo d.turns t≤r) (h3:r<sumTo d.turns (t+1)):d.turn r=t:=by
 obtain⟨g1,g2,g3⟩:=hO.turn_at h0 h1
 have hth:=fun x hx=>(hO.th x hx).2
 rcases Nat.lt_trichotomy (d.turn r) t with h | h | h
 ·have:=sumTo_le hth (show d.turn r+1≤t by omega);omega
 ·exact h
 ·have:=sumTo_le hth (show t+1≤d.turn r by omega);omega
theorem turn101_any (d:Dit) (r:Rows6) (x:Int) (w:World) (hd:DitSl w d r) (hO:d.Ok) (hx:0≤x∧x<d.cyc):CallsIn FL 0 Tryd.prog 101 #[d.val r,num x] w fun e w'=>e=.returned (num (d.turn x:Int))∧Nx w w':=by
 obtain⟨W,hW,n0,hWs,cW⟩:=boxed w d r
 obtain⟨at',capt,et⟩:=hd.turns.cases
 rw [List.length_map] at et
 have hv:=hd.turns.nx n0
 rw [et] at hv
 have c1:∀ w1,Nx W w1→w1.cell? ⟨w.heap.size,1,none⟩=some (.slice at' d.turns.length capt):=fun w1 n1=>(cW _ n1 1 r.t rfl).trans (by rw [et])
 have ht:=hO.t12
 have hth:=Lib.hid (fun y hy=>(hO.th y hy).2)
 have hbd:=Lib.hid (fun k hk=>sumTo_bd (fun x hx=>(hO.th x hx).2) k hk)
 have hcy:d.cyc≤1200:=by have:=(sumTo_bd (fun x hx=>(hO.th x hx).2) d.turns.length (Nat.le_refl _)).2;show sumTo d.turns d.turns.length≤_;omega
 have hcs:d.cyc=sumTo d.turns d.turns.length:=rfl
 have HO:=Lib.hid hO
 clear cW et hO
 gi_enter Tryd.func101,Tryd.ntmps101
 gi_wp2
 gi_loopw [1,5] (fun y i wr=>∃ k:Nat,k<d.turns.length∧i=num k∧y=num (x-sumTo d.turns k)∧sumTo d.turns k≤x∧Nx W wr) (fun _ i _=>d.turns.length-(intOf i).toNat)
 case atStart=>exact⟨0,by omega,rfl,by simp [sumTo],by simpa [sumTo] using hx.1,Below.refl _ _⟩
 case round =>
  obtain⟨k,hk,rfl,rfl,hle,n2⟩:=hrel
  have f1:wr.cell? ⟨w.heap.size,1,none⟩=some (.slice at' d.turns.length capt):=c1 _ n2
  obtain⟨b,off,ha,hbl,hcl⟩:=(hv.nx n2).get (by simp;omega)
  subst ha
  have hxx:d.turns[k]?=some d.turns[k]:=List.getElem?_eq_getElem hk
  have g1:=hcl k 1 (two d.turns[k]) (num d.turns[k].2) (by simp [hk]) rfl
  have hs:sumTo d.turns (k+1)=sumTo d.turns k+d.turns[k].2:=by simp [sumTo,hxx]
  have hb1:=hbd.out k (by omega)
  have hb2:=hth.out d.turns[k] (List.getElem_mem _)
  have HS:=Lib.hid hs
  generalize d.turns[k].2=z at g1 HS hb2 hs
  clear hcl hxx hv
  by_cases hge:x<sumTo d.turns (k+1)
  ·have b1:decide (z≤x-sumTo d.turns k)=false:=decide_eq_false (by omega)
   have b2:decide (x-sumTo d.turns k≥z)=false:=decide_eq_false (by omega)
   have HR:=Lib.hid (turnS_of HO.out hx.1 hx.2 hk hle hge)
   clear hs hge
   gi_wp2
   go_ret
   exact⟨by rw [HR.out];rfl,Nx.trans n0 n2⟩
  ·have b1:decide (z≤x-sumTo d.turns k)=true:=decide_eq_true (by omega)
   have b2:decide (x-sumTo d.turns k≥z)=true:=decide_eq_true (by omega)
   have hlt:k+1<d.turns.length:=by
    rcases Nat.lt_or_ge (k+1) d.turns.length with h | h
    ·exact h
    ·have e:k+1=d.turns.length:=by omega
     rw [e] at hge
     omega
   have hge2:sumTo d.turns (k+1)≤x:=by omega
   clear hs hge
   gi_wp2
   exact⟨⟨k+1,hlt,by simp,by rw [HS.out];congr 1;omega,hge2,n2⟩,by simp [intOf];omega⟩
theorem runs100_any (d:Dit) (r:Rows6) (h:Int) (w:World) (hd:DitSl w d r) (ht:d.Times) (hh : -1000000000≤h∧h≤100000000000) :
  CallsIn FL 0 Tryd.prog 100 #[d.val r,num h] w fun e w'=>e=.returned (.bool (decide (0≤h) && decide (d.ran (h+1) > d.ran h)))∧Nx w w':=by
 obtain⟨W,hW,n0,hWs,cW⟩:=boxed w d r
 have nWW:Nx W W:=Below.refl _ _
 have kA:=fun x (hx:Nx W x)=>(running80_any d r h x ((hd.nx n0).nx hx) ht (by omega)).mono fun e w' ⟨p,q⟩=>(⟨p,Nx.trans hx q⟩:e=Ending.returned (num (d.ran h))∧Nx W w')
 have kB:=fun x (hx:Nx W x)=>(running80_any d r (h+1) x ((hd.nx n0).nx hx) ht (by omega)).mono fun e w' ⟨p,q⟩=>(⟨p,Nx.trans hx q⟩:e=Ending.returned (num (d.ran (h+1)))∧Nx W w')
 have nd:Nx W W.drew:=Below.drew nWW
 clear hd ht
 gi_enter Tryd.func100,Tryd.ntmps100
 by_cases hh0:0≤h
 ·gi_upto_region 1 with fail
  refine wpIn_region_C (fun x=>Nx W x) (by kernel_rfl) ?_
  change wpAnyC _ _ _ _ _ _ _ 13 #[false,false,false,false,false,false,false,false,false,false,false,false,false] _ _
  refine wpAnyC_takeR (i:=0) (oi:=⟨some 5,.move (.tmp 1),_,_,_,none⟩) (v:=num h) (plain_ops (by kernel_rfl)) rfl (by kernel_rfl) (by kernel_rfl) (by kernel_rfl) (fun _ _ _ h=>h) (yC_move rfl) ?_
  simp only [Act.put,List.setIfInBounds_toArray,List.set_cons_succ,List.set_cons_zero]
  refine wpAnyC_as (l':=#[true,false,false,false,false,false,false,false,false,false,false,false,false]) rfl ?_
  refine wpAnyC_takeR (i:=1) (oi:=⟨some 6,.binOp .geq 3 (.tmp 5) (.const (.int .i64 0)) 3,_,_,_,none⟩) (v:=.bool true) (plain_ops (by kernel_rfl)) rfl (by kernel_rfl) (by kernel_rfl) (by kernel_rfl) (fun _ _ _ h=>h) (yC_geqt rfl rfl (hh0)) ?_
  simp only [Act.put,List.setIfInBounds_toArray,List.set_cons_succ,List.set_cons_zero]
  refine wpAnyC_as (l':=#[true,true,false,false,false,false,false,false,false,false,false,false,false]) rfl ?_
  refine wpAnyC_takeR (i:=2) (oi:=⟨some 7,.move (.tmp 6),_,_,_,none⟩) (v:=.bool true) (plain_ops (by kernel_rfl)) rfl (by kernel_rfl) (by kernel_rfl) (by kernel_rfl) (fun _ _ _ h=>h) (yC_move rfl) ?_
  simp only [Act.put,List.setIfInBounds_toArray,List.set_cons_succ,List.set_cons_zero]
  refine wpAnyC_as (l':=#[true,true,true,false,false,false,false,false,false,false,false,false,false]) rfl ?_
  refine wpAnyC_takeR (i:=3) (oi:=⟨some 8,.load 31 (.tmp 2),_,_,_,some (2,true)⟩) (v:=d.val r) (plain_ops (by kernel_rfl)) rfl (by kernel_rfl) (by kernel_rfl) (by kernel_rfl) (fun _ _ _ h=>h) (yG (yC_dit rfl (fun x hx=>cW x hx)) rfl) ?_
  simp only [Act.put,List.setIfInBounds_toArray,List.set_cons_succ,List.set_cons_zero]
  refine wpAnyC_as (l':=#[true,true,true,true,false,false,false,false,false,false,false,false,false]) rfl ?_
  refine wpAnyC_takeR (i:=4) (oi:=⟨some 9,.move (.tmp 1),_,_,_,some (2,true)⟩) (v:=num h) (plain_ops (by kernel_rfl)) rfl (by kernel_rfl) (by kernel_rfl) (by kernel_rfl) (fun _ _ _ h=>h) (yG (yC_move rfl) rfl) ?_
  simp only [Act.put,List.setIfInBounds_toArray,List.set_cons_succ,List.set_cons_zero]
  refine wpAnyC_as (l':=#[true,true,true,true,true,false,false,false,false,false,false,false,false]) rfl ?_
  refine wpAnyC_takeR (i:=5) (oi:=⟨some 10,.binOp .add 3 (.tmp 9) (.const (.int .i64 1)) 3,_,_,_,some (2,true)⟩) (v:=num (h+1)) (plain_ops (by kernel_rfl)) rfl (by kernel_rfl) (by kernel_rfl) (by kernel_rfl) (fun _ _ _ h=>h) (yG (yC_add1 rfl (by omega)) rfl) ?_
  simp only [Act.put,List.setIfInBounds_toArray,List.set_cons_succ,List.set_cons_zero]
  refine wpAnyC_as (l':=#[true,true,true,true,true,true,false,false,false,false,false,false,false]) rfl ?_
  refine wpAnyC_takeR (i:=7) (oi:=⟨some 12,.load 31 (.tmp 2),_,_,_,some (2,true)⟩) (v:=d.val r) (plain_ops (by kernel_rfl)) rfl (by kernel_rfl) (by kernel_rfl) (by kernel_rfl) (fun _ _ _ h=>h) (yG (yC_dit rfl (fun x hx=>cW x hx)) rfl) ?_
  simp only [Act.put,List.setIfInBounds_toArray,List.set_cons_succ,List.set_cons_zero]
  refine wpAnyC_as (l':=#[true,true,true,true,true,true,false,true,false,false,false,false,false]) rfl ?_
  refine wpAnyC_takeR (i:=8) (oi:=⟨some 13,.move (.tmp 1),_,_,_,some (2,true)⟩) (v:=num h) (plain_ops (by kernel_rfl)) rfl (by kernel_rfl) (by kernel_rfl) (by kernel_rfl) (fun _ _ _ h=>h) (yG (yC_move rfl) rfl) ?_
  simp only [Act.put,List.setIfInBounds_toArray,List.set_cons_succ,List.set_cons_zero]
  refine wpAnyC_as (l':=#[true,true,true,true,true,true,false,true,true,false,false,false,false]) rfl ?_
  refine wpAnyC_only (i:=6) (o:=⟨some 11,.call { callee:=.value (.func 80),args:=#[.tmp 8,.tmp 10],argTypes:=#[31,3] },_,_,_,some (2,true)⟩) (by kernel_rfl) rfl rfl (nd) ?_
  intro K hK
  go_simp
  refine CallsIn.mono (kB _ (nd)) ?_
  rintro e v6 ⟨rfl,n6⟩
  refine hK _ _ ?_
  refine wpAnyC_as (l':=#[true,true,true,true,true,true,true,true,true,false,false,false,false]) rfl ?_
  refine wpAnyC_only (i:=9) (o:=⟨some 14,.call { callee:=.value (.func 80),args:=#[.tmp 12,.tmp 13],argTypes:=#[31,3] },_,_,_,some (2,true)⟩) (by kernel_rfl) rfl rfl (n6) ?_
  intro K hK
  go_simp
  refine CallsIn.mono (kA _ (n6)) ?_
  rintro e v9 ⟨rfl,n9⟩
  refine hK _ _ ?_
  refine wpAnyC_as (l':=#[true,true,true,true,true,true,true,true,true,true,false,false,false]) rfl ?_
  refine wpAnyC_takeR (i:=10) (oi:=⟨some 15,.binOp .gtr 3 (.tmp 11) (.tmp 14) 3,_,_,_,some (2,true)⟩) (v:=.bool (decide ((d.ran (h+1)) > (d.ran h)))) (plain_ops (by kernel_rfl)) rfl (by kernel_rfl) (by kernel_rfl) (by kernel_rfl) (fun _ _ _ h=>h) (yG (yC_gtr rfl rfl) rfl) ?_
  simp only [Act.put,List.setIfInBounds_toArray,List.set_cons_succ,List.set_cons_zero]
  refine wpAnyC_as (l':=#[true,true,true,true,true,true,true,true,true,true,true,false,false]) rfl ?_
  refine wpAnyC_takeR (i:=11) (oi:=⟨some 16,.pick (.tmp 7) (.tmp 15) (.const (.bool false)),_,_,_,none⟩) (v:=.bool (decide ((d.ran (h+1)) > (d.ran h)))) (plain_ops (by kernel_rfl)) rfl (by kernel_rfl) (by kernel_rfl) (by kernel_rfl) (fun _ _ _ h=>h) (yC_pickt rfl rfl) ?_
  simp only [Act.put,List.setIfInBounds_toArray,List.set_cons_succ,List.set_cons_zero]
  refine wpAnyC_as (l':=#[true,true,true,true,true,true,true,true,true,true,true,true,false]) rfl ?_
  refine wpAnyC_takeR (i:=12) (oi:=⟨some 4,.assign (.tmp 16),_,_,_,none⟩) (v:=.bool (decide ((d.ran (h+1)) > (d.ran h)))) (plain_ops (by kernel_rfl)) rfl (by kernel_rfl) (by kernel_rfl) (by kernel_rfl) (fun _ _ _ h=>h) (yC_assign rfl) ?_
  simp only [Act.put,List.setIfInBounds_toArray,List.set_cons_succ,List.set_cons_zero]
  refine wpAnyC_as (l':=#[true,true,true,true,true,true,true,true,true,true,true,true,true]) rfl ?_
  refine wpAnyC_done (by kernel_rfl) (n9) ?_
  clear kA kB cW
  gi_wp2
  go_ret
  exact⟨by rw [decide_eq_true hh0,Bool.true_and];rfl,Nx.trans n0 n9⟩
 ·have b1:decide (h≥0)=false:=decide_eq_false (by omega)
  have b2:decide (0≤h)=false:=decide_eq_false hh0
  clear kA kB cW
  gi_upto_region 1 with fail
  gi_big_quiet_th (fail)
  gi_wp2
  go_ret
  exact⟨rfl,Nx.drewN n0 _⟩
theorem owner76_any (d:Dit) (r:Rows6) (h:Int) (w:World) (hd:DitSl w d r) (hO:d.Ok) (hh : -1000000000≤h∧h≤100000000000) :
  CallsIn FL 0 Tryd.prog 76 #[d.val r,num h] w fun e w'=>e=.returned (.tuple #[num (d.owner h).1,num (d.owner h).2.1,num (d.owner h).2.2])∧Nx w w':=by
 obtain⟨W,hW,n0,hWs,cW⟩:=boxed w d r
 have nWW:Nx W W:=Below.refl _ _
 have k100:=runs100_any d r h W (hd.nx n0) hO.times hh
 have CO:=Lib.hid cW
 have HD:=Lib.hid (hd.nx n0)
 have HO:=Lib.hid hO
 obtain⟨c0,c1,c2,c3,c4,c5,c6,c7,c8,c9,c10,c11,c12,c13⟩:=cells14 (cW _ nWW)
 have CL:=Lib.hid cW
 have hran:=hO.ran_nonneg h
 have hT:=hO.cyc_pos
 have hcb:=hO.cyc.size
 have hown:(decide (0≤h) && decide (d.ran (h+1) > d.ran h))=false→d.owner h=(-1,-1,-1):=fun e=>by
  have hat:d.at d.ends d.cyc h=(-1,-1):=by
   unfold Dit.at
   refine if_pos ?_
   by_cases h0:h<0
   ·exact .inl h0
   ·have hs:=hO.ran_step (h:=h) (by omega)
    have:¬ d.ran (h+1) > d.ran h:=by rw [decide_eq_true (by omega:0≤h),Bool.true_and] at e;exact of_decide_eq_false e
    right;split at hs<;>omega
  unfold Dit.owner whoS
  rw [hat]
  simp
 have hown2:(decide (0≤h) && decide (d.ran (h+1) > d.ran h))=true→∃ l:List Int,l=d.oth ((d.ran h).tdiv d.cyc)∧l.length=d.turns.length∧d.turn ((d.ran h).tmod d.cyc)<d.turns.length∧d.owner h=((l[d.turn ((d.ran h).tmod d.cyc)]?).getD 0,(d.ran h).tdiv d.cyc,(d.turn ((d.ran h).tmod d.cyc):Int)):=fun e=>by
  simp only [Bool.and_eq_true,decide_eq_true_eq] at e
  have hq:0≤(d.ran h).tdiv d.cyc:=Int.tdiv_nonneg hran (by omega)
  refine⟨_,rfl,hO.oth_len _,hO.turn_lt (d.ran h),?_⟩
  have hw:(if (d.ran h).tdiv d.cyc∈d.keys then d.oth ((d.ran h).tdiv d.cyc) else d.us)=d.oth ((d.ran h).tdiv d.cyc):=by
   split
   ·rfl
   ·rename_i hn;rw [oth_us hn]
  have hat:d.at d.ends d.cyc h=((d.ran h).tdiv d.cyc,(turnS d.ends ((d.ran h).tmod d.cyc) 12 0:Int)):=by unfold Dit.at;rw [if_neg (by omega)]
  unfold Dit.owner whoS
  rw [hat]
  simp only []
  rw [if_neg (by omega),hw,Int.toNat_natCast]
  rfl
 clear hd hO cW
 gi_enter Tryd.func76,Tryd.ntmps76
 cases hb:(decide (0≤h) && decide (d.ran (h+1) > d.ran h)) with
 | false =>
  rw [hb] at k100
  have hz:=hown hb
  have HZ:=Lib.hid hz
  clear hown hown2 hb hz
  gi_wp2_with (first
   | (gi_at_call 100;refine CallsIn.mono k100 ?_;rintro e w1 ⟨rfl,n1⟩)
   | gi_in)
  refine bodyPost_ret (v:=.tuple #[num (-1),num (-1),num (-1)]) (by simp [results,Tryd.results76,go_sem]) rfl ?_
  exact⟨by rw [HZ.out]<;>rfl,Nx.trans n0 n1⟩
 | true =>
  rw [hb] at k100
  obtain⟨l,hl,hll,htt,hz⟩:=hown2 hb
  have HZ:=Lib.hid hz
  clear hown hown2 hb hz
  gi_upto_region 3 with (first
   | (gi_at_call 100;refine CallsIn.mono k100 ?_;rintro e w1 ⟨rfl,n1⟩)
   | gi_in)
  clear k100 c0 c1 c2 c3 c4 c5 c6 c7 c8 c9 c10 c11 c12 c13
  obtain⟨c0,c1,c2,c3,c4,c5,c6,c7,c8,c9,c10,c11,c12,c13⟩:=cells14 (CO.out w1 n1)
  have k80:=running80_any d r h w1 (HD.out.nx n1) HO.out.times (by omega)
  gi_upto_region 4 with (first
   | (gi_at_call 80;refine CallsIn.mono k80 ?_;rintro e w2 ⟨rfl,n2⟩)
   | gi_in)
  clear k80 c0 c1 c2 c3 c4 c5 c6 c7 c8 c9 c10 c11 c12 c13
  have n3:=Nx.trans n1 n2
  have nd:Nx W w2.drew:=Below.drew n3
  have cW:=CO.out
  have hq : -9223372036854775808≤(d.ran h).tdiv d.cyc∧(d.ran h).tdiv d.cyc≤9223372036854775807:=by
   have h1:0≤(d.ran h).tdiv d.cyc:=Int.tdiv_nonneg hran (by omega)
   have h2:=ran_bd2 HO.out.times (fun _=>by have:=HO.out.room;omega) (h:=h) (by omega)
   have h3:(d.ran h).tdiv d.cyc≤d.ran h:=Int.tdiv_le_self _ hran
   omega
  have hm:0≤(d.ran h).tmod d.cyc∧(d.ran h).tmod d.cyc<d.cyc:=⟨Int.tmod_nonneg _ hran,Int.tmod_lt_of_pos _ hT⟩
  have hr : -9223372036854775808≤(d.ran h).tmod d.cyc∧(d.ran h).tmod d.cyc≤9223372036854775807:=by omega
  have k44:=fun x (hx:Nx W x)=>(cycle44_any d r x (HD.out.nx hx) HO.out).mono fun e w' ⟨p,q⟩=>(⟨p,Nx.trans hx q⟩:e=Ending.returned (num d.cyc)∧Nx W w')
  have k101:=fun x (hx:Nx W x)=>(turn101_any d r ((d.ran h).tmod d.cyc) x (HD.out.nx hx) HO.out hm).mono fun e w' ⟨p,q⟩=>(⟨p,Nx.trans hx q⟩:e=Ending.returned (num (d.turn ((d.ran h).tmod d.cyc):Int))∧Nx W w')
  have k102:=fun x (hx:Nx W x)=>holders102_any d r ((d.ran h).tdiv d.cyc) x (HD.out.nx hx) HO.out
  generalize d.turn ((d.ran h).tmod d.cyc)=t at HZ htt k101
  generalize d.ran h=x at *
  have HM:=Lib.hid hm
  have HQ:=Lib.hid hq
  clear hm
  refine wpIn_region_C (fun x=>Nx W x) (by kernel_rfl) ?_
  change wpAnyC _ _ _ _ _ _ _ 12 #[false,false,false,false,false,false,false,false,false,false,false,false] _ _
  refine wpAnyC_takeR (i:=0) (oi:=⟨some 17,.move (.tmp 7),_,_,_,none⟩) (v:=num x) (plain_ops (by kernel_rfl)) rfl (by kernel_rfl) (by kernel_rfl) (by kernel_rfl) (fun _ _ _ h=>h) (yC_move rfl) ?_
  simp only [Act.put,List.setIfInBounds_toArray,List.set_cons_succ,List.set_cons_zero]
  refine wpAnyC_as (l':=#[true,false,false,false,false,false,false,false,false,false,false,false]) rfl ?_
  refine wpAnyC_takeR (i:=1) (oi:=⟨some 18,.load 31 (.tmp 2),_,_,_,none⟩) (v:=d.val r) (plain_ops (by kernel_rfl)) rfl (by kernel_rfl) (by kernel_rfl) (by kernel_rfl) (fun _ _ _ h=>h) (yC_dit rfl (fun x hx=>cW x hx)) ?_
  simp only [Act.put,List.setIfInBounds_toArray,List.set_cons_succ,List.set_cons_zero]
  refine wpAnyC_as (l':=#[true,true,false,false,false,false,false,false,false,false,false,false]) rfl ?_
  refine wpAnyC_takeR (i:=4) (oi:=⟨some 21,.load 31 (.tmp 2),_,_,_,none⟩) (v:=d.val r) (plain_ops (by kernel_rfl)) rfl (by kernel_rfl) (by kernel_rfl) (by kernel_rfl) (fun _ _ _ h=>h) (yC_dit rfl (fun x hx=>cW x hx)) ?_
  simp only [Act.put,List.setIfInBounds_toArray,List.set_cons_succ,List.set_cons_zero]
  refine wpAnyC_as (l':=#[true,true,false,false,true,false,false,false,false,false,false,false]) rfl ?_
  refine wpAnyC_takeR (i:=5) (oi:=⟨some 22,.move (.tmp 7),_,_,_,none⟩) (v:=num x) (plain_ops (by kernel_rfl)) rfl (by kernel_rfl) (by kernel_rfl) (by kernel_rfl) (fun _ _ _ h=>h) (yC_move rfl) ?_
  simp only [Act.put,List.setIfInBounds_toArray,List.set_cons_succ,List.set_cons_zero]
  refine wpAnyC_as (l':=#[true,true,false,false,true,true,false,false,false,false,false,false]) rfl ?_
  refine wpAnyC_takeR (i:=6) (oi:=⟨some 23,.load 31 (.tmp 2),_,_,_,none⟩) (v:=d.val r) (plain_ops (by kernel_rfl)) rfl (by kernel_rfl) (by kernel_rfl) (by kernel_rfl) (fun _ _ _ h=>h) (yC_dit rfl (fun x hx=>cW x hx)) ?_
  simp only [Act.put,List.setIfInBounds_toArray,List.set_cons_succ,List.set_cons_zero]
  refine wpAnyC_as (l':=#[true,true,false,false,true,true,true,false,false,false,false,false]) rfl ?_
  refine wpAnyC_only (i:=2) (o:=⟨some 19,.call { callee:=.value (.func 44),args:=#[.tmp 18],argTypes:=#[31] },_,_,_,none⟩) (by kernel_rfl) rfl rfl (nd) ?_
  intro K hK
  go_simp
  refine CallsIn.mono (k44 _ (nd)) ?_
  rintro e v2 ⟨rfl,n2⟩
  refine hK _ _ ?_
  refine wpAnyC_as (l':=#[true,true,true,false,true,true,true,false,false,false,false,false]) rfl ?_
  refine wpAnyC_takeR (i:=3) (oi:=⟨some 20,.binOp .quo 3 (.tmp 17) (.tmp 19) 3,_,_,_,none⟩) (v:=num (x.tdiv d.cyc)) (plain_ops (by kernel_rfl)) rfl (by kernel_rfl) (by kernel_rfl) (by kernel_rfl) (fun _ _ _ h=>h) (yC_quo rfl rfl hT hq) ?_
  simp only [Act.put,List.setIfInBounds_toArray,List.set_cons_succ,List.set_cons_zero]
  refine wpAnyC_as (l':=#[true,true,true,true,true,true,true,false,false,false,false,false]) rfl ?_
  refine wpAnyC_only (i:=7) (o:=⟨some 24,.call { callee:=.value (.func 44),args:=#[.tmp 23],argTypes:=#[31] },_,_,_,none⟩) (by kernel_rfl) rfl rfl (n2) ?_
  intro K hK
  go_simp
  refine CallsIn.mono (k44 _ (n2)) ?_
  rintro e v7 ⟨rfl,n7⟩
  refine hK _ _ ?_
  refine wpAnyC_as (l':=#[true,true,true,true,true,true,true,true,false,false,false,false]) rfl ?_
  refine wpAnyC_takeR (i:=8) (oi:=⟨some 25,.binOp .rem 3 (.tmp 22) (.tmp 24) 3,_,_,_,none⟩) (v:=num (x.tmod d.cyc)) (plain_ops (by kernel_rfl)) rfl (by kernel_rfl) (by kernel_rfl) (by kernel_rfl) (fun _ _ _ h=>h) (yC_rem rfl rfl hT hr) ?_
  simp only [Act.put,List.setIfInBounds_toArray,List.set_cons_succ,List.set_cons_zero]
  refine wpAnyC_as (l':=#[true,true,true,true,true,true,true,true,true,false,false,false]) rfl ?_
  refine wpAnyC_only (i:=9) (o:=⟨some 26,.call { callee:=.value (.func 101),args:=#[.tmp 21,.tmp 25],argTypes:=#[31,3] },_,_,_,none⟩) (by kernel_rfl) rfl rfl (n7) ?_
  intro K hK
  go_simp
  refine CallsIn.mono (k101 _ (n7)) ?_
  rintro e v9 ⟨rfl,n9⟩
  refine hK _ _ ?_
  refine wpAnyC_as (l':=#[true,true,true,true,true,true,true,true,true,true,false,false]) rfl ?_
  refine wpAnyC_takeR (i:=10) (oi:=⟨some 8,.assign (.tmp 20),_,_,_,none⟩) (v:=num (x.tdiv d.cyc)) (plain_ops (by kernel_rfl)) rfl (by kernel_rfl) (by kernel_rfl) (by kernel_rfl) (fun _ _ _ h=>h) (yC_assign rfl) ?_
  simp only [Act.put,List.setIfInBounds_toArray,List.set_cons_succ,List.set_cons_zero]
  refine wpAnyC_as (l':=#[true,true,true,true,true,true,true,true,true,true,true,false]) rfl ?_
  refine wpAnyC_takeR (i:=11) (oi:=⟨some 9,.assign (.tmp 26),_,_,_,none⟩) (v:=num t) (plain_ops (by kernel_rfl)) rfl (by kernel_rfl) (by kernel_rfl) (by kernel_rfl) (fun _ _ _ h=>h) (yC_assign rfl) ?_
  simp only [Act.put,List.setIfInBounds_toArray,List.set_cons_succ,List.set_cons_zero]
  refine wpAnyC_as (l':=#[true,true,true,true,true,true,true,true,true,true,true,true]) rfl ?_
  refine wpAnyC_done (by kernel_rfl) (n9) ?_
  clear k44 k101 hq hr cW
  have k:=k102 _ n9
  have hx:l[t]?=some l[t]:=List.getElem?_eq_getElem (by omega)
  obtain⟨c0,c1,c2,c3,c4,c5,c6,c7,c8,c9,c10,c11,c12,c13⟩:=cells14 (CO.out _ n9)
  clear k102
  subst hl
  gi_wp2_with (first
   | (gi_at_call 102;refine CallsIn.mono k ?_;rintro e w5 ⟨g,cap,rfl,n5,hl5⟩;have hc5:=sl_cell hl5 hx;clear hl5)
   | gi_in)
  refine bodyPost_ret (v:=.tuple #[num (d.oth (x.tdiv d.cyc))[t],num (x.tdiv d.cyc),num t]) (by simp [results,Tryd.results76,go_sem]) rfl ?_
  exact⟨by rw [HZ.out,hx];rfl,Nx.trans n0 (Nx.trans n9 n5)⟩
theorem owner40_any (d:Dit) (r:Rows6) (h:Int) (w:World) (hd:DitSl w d r) (hs:d.Small) :
  CallsIn FL 0 Tryd.prog 40 #[d.val r,num h] w fun e w'=>e=.returned (.tuple #[num (ownerF d h).1.1,num (ownerF d h).1.2.1,num (ownerF d h).1.2.2,num (ownerF d h).2])∧Nx w w':=by
 obtain⟨W,hW,n0,hWs,cW⟩:=boxed w d r
 have nWW:Nx W W:=Below.refl _ _
 have k25:=check25_any d r W (hd.nx n0) hs
 obtain⟨c0,c1,c2,c3,c4,c5,c6,c7,c8,c9,c10,c11,c12,c13⟩:=cells14 (cW _ nWW)
 have CO:=Lib.hid cW
 by_cases hc:checkS d=0
 ·rw [hc] at k25
  by_cases hh:0≤h∧h≤999999999
  ·have HZ:=Lib.hid (own_eq hc hh)
   have b1:decide (0≤h∧h≤999999999)=true:=decide_eq_true hh
   have k76:=fun x (hx:Nx W x)=>owner76_any d r h x ((hd.nx n0).nx hx) (ok_of_check hc) (by omega)
   have k71:=fun x=>in_any h 0 999999999 x
   rw [b1] at k71
   generalize d.owner h=o at HZ k76
   clear hc hh cW hd b1
   gi_enter Tryd.func40,Tryd.ntmps40
   gi_wp2_with (first
    | (gi_at_call 25;refine CallsIn.mono k25 ?_;rintro e w1 ⟨rfl,n1⟩;clear c0 c1 c2 c3 c4 c5 c6 c7 c8 c9 c10 c11 c12 c13;obtain⟨c0,c1,c2,c3,c4,c5,c6,c7,c8,c9,c10,c11,c12,c13⟩:=cells14 (CO.out w1 n1);have k:=k76 w1 n1)
    | (gi_at_call 71;refine CallsIn.mono (k71 _) ?_;rintro e w1 ⟨rfl,rfl⟩)
    | (gi_at_call 76;refine CallsIn.mono k ?_;rintro e w2 ⟨rfl,n2⟩)
    | gi_in)
   refine bodyPost_ret (v:=.tuple #[num o.1,num o.2.1,num o.2.2,num 0]) (by simp [results,Tryd.results40,go_sem]) rfl ?_
   exact⟨by rw [HZ.out]<;>rfl,Nx.trans n0 (Nx.trans n1 n2)⟩
  ·have HZ:=Lib.hid (show ownerF d h=((0,0,0),1) by unfold ownerF;rw [if_neg (by simp [hc]),if_pos hh])
   have b1:decide (0≤h∧h≤999999999)=false:=decide_eq_false hh
   have k71:=fun x=>in_any h 0 999999999 x
   rw [b1] at k71
   clear hc hh cW hd b1
   gi_enter Tryd.func40,Tryd.ntmps40
   gi_wp2_with (first
    | (gi_at_call 25;refine CallsIn.mono k25 ?_;rintro e w1 ⟨rfl,n1⟩)
    | (gi_at_call 71;refine CallsIn.mono (k71 _) ?_;rintro e w1 ⟨rfl,rfl⟩)
    | gi_in)
   refine bodyPost_ret (v:=.tuple #[num 0,num 0,num 0,num 1]) (by simp [results,Tryd.results40,go_sem]) rfl ?_
   exact⟨by rw [HZ.out]<;>rfl,Nx.trans n0 n1⟩
 ·have HZ:=Lib.hid (show ownerF d h=((0,0,0),checkS d) by unfold ownerF;rw [if_pos hc])
  have b1:(checkS d != 0)=true:=by simpa using hc
  clear hc cW hd
  gi_enter Tryd.func40,Tryd.ntmps40
  gi_wp2_with (first
   | (gi_at_call 25;refine CallsIn.mono k25 ?_;rintro e w1 ⟨rfl,n1⟩)
   | gi_in)
  refine bodyPost_ret (v:=.tuple #[num 0,num 0,num 0,num (checkS d)]) (by simp [results,Tryd.results40,go_sem]) rfl ?_
  exact⟨by rw [HZ.out]<;>rfl,Nx.trans n0 n1⟩
theorem running43_any (d:Dit) (r:Rows6) (a b:Int) (w:World) (hd:DitSl w d r) (hs:d.Small) :
  CallsIn FL 0 Tryd.prog 43 #[d.val r,num a,num b] w fun e w'=>e=.returned (.tuple #[num (runningF d a b).1,num (runningF d a b).2])∧Nx w w':=by
 obtain⟨W,hW,n0,hWs,cW⟩:=boxed w d r
 have nWW:Nx W W:=Below.refl _ _
 have k25:=check25_any d r W (hd.nx n0) hs
 obtain⟨c0,c1,c2,c3,c4,c5,c6,c7,c8,c9,c10,c11,c12,c13⟩:=cells14 (cW _ nWW)
 have k79:=fun x=>stretch79_any a b x
 by_cases hc:checkS d=0
 ·rw [hc] at k25
  by_cases hst:stretchS a b=0
  ·obtain⟨ha,hb,hle⟩:=stretch_ok hst
   have hO:=ok_of_check hc
   have HZ:=Lib.hid (show runningF d a b=(d.ran b-d.ran a,0) by unfold runningF;rw [if_neg (by simp [hc]),if_neg (by simp [hst])])
   rw [hst] at k79
   have kA:=fun x (hx:Nx W x)=>(running80_any d r a x ((hd.nx n0).nx hx) hO.times (by omega)).mono fun e w' ⟨p,q⟩=>(⟨p,Nx.trans hx q⟩:e=Ending.returned (num (d.ran a))∧Nx W w')
   have kB:=fun x (hx:Nx W x)=>(running80_any d r b x ((hd.nx n0).nx hx) hO.times (by omega)).mono fun e w' ⟨p,q⟩=>(⟨p,Nx.trans hx q⟩:e=Ending.returned (num (d.ran b))∧Nx W w')
   have hm:=hO.ran_mono (a:=a) (b:=b) (by omega) hle
   have h0:=hO.ran_nonneg a
   have h1:=(hO.ran_mono (a:=0) (b:=a) (by omega) (by omega)).2
   rw [ran_low (h:=0) hO.times.begin_.1] at h1
   have hab : -9223372036854775808≤d.ran b-d.ran a∧d.ran b-d.ran a≤9223372036854775807:=by omega
   clear hc hst hd hO hm h0 h1
   gi_enter Tryd.func43,Tryd.ntmps43
   gi_upto_region 7 with (first
    | (gi_at_call 25;refine CallsIn.mono k25 ?_;rintro e w1 ⟨rfl,n1⟩)
    | (gi_at_call 79;refine CallsIn.mono (k79 _) ?_;rintro e w1 ⟨rfl,rfl⟩)
    | gi_in)
   clear k25 k79 c0 c1 c2 c3 c4 c5 c6 c7 c8 c9 c10 c11 c12 c13
   have nd:Nx W w1.drew:=Below.drew n1
   refine wpIn_region_C (fun x=>Nx W x) (by kernel_rfl) ?_
   change wpAnyC _ _ _ _ _ _ _ 9 #[false,false,false,false,false,false,false,false,false] _ _
   refine wpAnyC_takeR (i:=0) (oi:=⟨some 21,.load 31 (.tmp 3),_,_,_,none⟩) (v:=d.val r) (plain_ops (by kernel_rfl)) rfl (by kernel_rfl) (by kernel_rfl) (by kernel_rfl) (fun _ _ _ h=>h) (yC_dit rfl (fun x hx=>cW x hx)) ?_
   simp only [Act.put,List.setIfInBounds_toArray,List.set_cons_succ,List.set_cons_zero]
   refine wpAnyC_as (l':=#[true,false,false,false,false,false,false,false,false]) rfl ?_
   refine wpAnyC_takeR (i:=1) (oi:=⟨some 22,.move (.tmp 2),_,_,_,none⟩) (v:=num b) (plain_ops (by kernel_rfl)) rfl (by kernel_rfl) (by kernel_rfl) (by kernel_rfl) (fun _ _ _ h=>h) (yC_move rfl) ?_
   simp only [Act.put,List.setIfInBounds_toArray,List.set_cons_succ,List.set_cons_zero]
   refine wpAnyC_as (l':=#[true,true,false,false,false,false,false,false,false]) rfl ?_
   refine wpAnyC_takeR (i:=3) (oi:=⟨some 24,.load 31 (.tmp 3),_,_,_,none⟩) (v:=d.val r) (plain_ops (by kernel_rfl)) rfl (by kernel_rfl) (by kernel_rfl) (by kernel_rfl) (fun _ _ _ h=>h) (yC_dit rfl (fun x hx=>cW x hx)) ?_
   simp only [Act.put,List.setIfInBounds_toArray,List.set_cons_succ,List.set_cons_zero]
   refine wpAnyC_as (l':=#[true,true,false,true,false,false,false,false,false]) rfl ?_
   refine wpAnyC_takeR (i:=4) (oi:=⟨some 25,.move (.tmp 1),_,_,_,none⟩) (v:=num a) (plain_ops (by kernel_rfl)) rfl (by kernel_rfl) (by kernel_rfl) (by kernel_rfl) (fun _ _ _ h=>h) (yC_move rfl) ?_
   simp only [Act.put,List.setIfInBounds_toArray,List.set_cons_succ,List.set_cons_zero]
   refine wpAnyC_as (l':=#[true,true,false,true,true,false,false,false,false]) rfl ?_
   refine wpAnyC_only (i:=2) (o:=⟨some 23,.call { callee:=.value (.func 80),args:=#[.tmp 21,.tmp 22],argTypes:=#[31,3] },_,_,_,none⟩) (by kernel_rfl) rfl rfl (nd) ?_
   intro K hK
   go_simp
   refine CallsIn.mono (kB _ (nd)) ?_
   rintro e v2 ⟨rfl,n2⟩
   refine hK _ _ ?_
   refine wpAnyC_as (l':=#[true,true,true,true,true,false,false,false,false]) rfl ?_
   refine wpAnyC_only (i:=5) (o:=⟨some 26,.call { callee:=.value (.func 80),args:=#[.tmp 24,.tmp 25],argTypes:=#[31,3] },_,_,_,none⟩) (by kernel_rfl) rfl rfl (n2) ?_
   intro K hK
   go_simp
   refine CallsIn.mono (kA _ (n2)) ?_
   rintro e v5 ⟨rfl,n5⟩
   refine hK _ _ ?_
   refine wpAnyC_as (l':=#[true,true,true,true,true,true,false,false,false]) rfl ?_
   refine wpAnyC_takeR (i:=6) (oi:=⟨some 27,.binOp .sub 3 (.tmp 23) (.tmp 26) 3,_,_,_,none⟩) (v:=num ((d.ran b)-(d.ran a))) (plain_ops (by kernel_rfl)) rfl (by kernel_rfl) (by kernel_rfl) (by kernel_rfl) (fun _ _ _ h=>h) (yC_sub rfl rfl (hab)) ?_
   simp only [Act.put,List.setIfInBounds_toArray,List.set_cons_succ,List.set_cons_zero]
   refine wpAnyC_as (l':=#[true,true,true,true,true,true,true,false,false]) rfl ?_
   refine wpAnyC_takeR (i:=7) (oi:=⟨some 6,.assign (.tmp 27),_,_,_,none⟩) (v:=num ((d.ran b)-(d.ran a))) (plain_ops (by kernel_rfl)) rfl (by kernel_rfl) (by kernel_rfl) (by kernel_rfl) (fun _ _ _ h=>h) (yC_assign rfl) ?_
   simp only [Act.put,List.setIfInBounds_toArray,List.set_cons_succ,List.set_cons_zero]
   refine wpAnyC_as (l':=#[true,true,true,true,true,true,true,true,false]) rfl ?_
   refine wpAnyC_takeR (i:=8) (oi:=⟨some 7,.assign (.const (.int .i64 0)),_,_,_,none⟩) (v:=num 0) (plain_ops (by kernel_rfl)) rfl (by kernel_rfl) (by kernel_rfl) (by kernel_rfl) (fun _ _ _ h=>h) (yC_assignc rfl) ?_
   simp only [Act.put,List.setIfInBounds_toArray,List.set_cons_succ,List.set_cons_zero]
   refine wpAnyC_as (l':=#[true,true,true,true,true,true,true,true,true]) rfl ?_
   refine wpAnyC_done (by kernel_rfl) (n5) ?_
   clear kA kB cW
   gi_wp2
   go_ret2
   exact⟨by rw [HZ.out]<;>rfl,Nx.trans n0 n5⟩
  ·have HZ:=Lib.hid (show runningF d a b=(0,stretchS a b) by unfold runningF;rw [if_neg (by simp [hc]),if_pos hst])
   have b1:(stretchS a b != 0)=true:=by simpa using hst
   generalize stretchS a b=s at *
   clear hc hst cW hd
   gi_enter Tryd.func43,Tryd.ntmps43
   gi_wp2_with (first
    | (gi_at_call 25;refine CallsIn.mono k25 ?_;rintro e w1 ⟨rfl,n1⟩)
    | (gi_at_call 79;refine CallsIn.mono (k79 _) ?_;rintro e w1 ⟨rfl,rfl⟩)
    | gi_in)
   go_ret2
   exact⟨by rw [HZ.out]<;>rfl,Nx.trans n0 n1⟩
 ·have HZ:=Lib.hid (show runningF d a b=(0,checkS d) by unfold runningF;rw [if_pos hc])
  have b1:(checkS d != 0)=true:=by simpa using hc
  clear hc cW hd k79
  gi_enter Tryd.func43,Tryd.ntmps43
  gi_wp2_with (first
   | (gi_at_call 25;refine CallsIn.mono k25 ?_;rintro e w1 ⟨rfl,n1⟩)
   | gi_in)
  go_ret2
  exact⟨by rw [HZ.out]<;>rfl,Nx.trans n0 n1⟩
end Go.Proofs.YtolholkjeehamaaDoor

namespace Go.Proofs.YtolholkjeehamaaDoor
open Go.RowKit Go.Con Go.Conc
local instance:Lone:=mainL
noncomputable def lawB10:Code:=match Tryd.f10.body with | some c=>c | none=>.skip
noncomputable def o0:Code:=seqL lawB10
noncomputable def op1:Code:=seqR lawB10
noncomputable def o1:Code:=seqL (seqL op1)
noncomputable def o2:Code:=match seqR (seqL op1) with | .cond _ x _=>seqL x | c=>c
noncomputable def op2:Code:=seqR op1
noncomputable def o3:Code:=seqL op2
noncomputable def op3:Code:=seqR op2
noncomputable def o4:Code:=seqL op3
noncomputable def op4:Code:=seqR op3
noncomputable def o5:Code:=seqL op4
noncomputable def op5:Code:=seqR op4
noncomputable def o7:Code:=seqL op5
noncomputable def op6:Code:=seqR op5
noncomputable def o8:Code:=seqL op6
noncomputable def op7:Code:=seqR op6
noncomputable def o9:Code:=seqL op7
theorem lawB10_eq:lawB10=.seq o0 (.seq (.seq o1 (.cond (.tmp 19) (.seq o2 .ret) .skip)) (.seq o3 (.seq o4 (.seq o5 (.seq o7 (.seq o8 (.seq o9 .ret))))))):=by kernel_rfl
theorem lawB10_of:Tryd.f10.body=some lawB10:=by kernel_rfl
noncomputable def opo2:Array Oper:=opsOf o2
theorem o2_eq:o2=.region 2 opo2 false:=by kernel_rfl
noncomputable def opo9:Array Oper:=opsOf o9
theorem o9_eq:o9=.region 9 opo9 false:=by kernel_rfl
section
variable {F:Fence} {n:Nat} {ops:Array Oper} {C:World→Prop} {a:Act} {dst:Option Nat} {ty:TypeId} {pos:String} {af:Array Edge}
theorem yC_neqf3 {s i:Nat} {x:Int} (h:a.eval (.tmp s)=num x) (hi:a.eval (.tmp i)=num x):YieldsC F n Tryd.prog ops C ⟨dst,.binOp .neq 3 (.tmp s) (.tmp i) 3,ty,pos,af,none⟩ (.bool false) a :=
 yC rfl (fun _=>rfl) fun w _=>by
  generalize a.eval=ρ at h hi ⊢
  simp [execOp,go_sem,h,hi]
theorem yC_neqf37 {s i:Nat} {x:Int} (h:a.eval (.tmp s)=num x) (hi:a.eval (.tmp i)=num x):YieldsC F n Tryd.prog ops C ⟨dst,.binOp .neq 37 (.tmp s) (.tmp i) 37,ty,pos,af,none⟩ (.bool false) a :=
 yC rfl (fun _=>rfl) fun w _=>by
  generalize a.eval=ρ at h hi ⊢
  simp [execOp,go_sem,h,hi]
theorem yC_pickf {c s:Nat} {v:Value} (h:a.eval (.tmp c)=.bool false) (h2:a.eval (.tmp s)=v):YieldsC F n Tryd.prog ops C ⟨dst,.pick (.tmp c) (.const (.bool true)) (.tmp s),ty,pos,af,none⟩ v a :=
 yC rfl (fun _=>rfl) fun w _=>by
  generalize a.eval=ρ at h h2 ⊢
  simp [execOp,go_sem,h,h2]
end
def OwnersR (W:World) (t:Array Value) (W2:World):Prop:=Old W W2∧∃ n f:Int,t.size=87∧t[15]?=some (num n)∧t[16]?=some (num n)∧t[10]?=some (num f)∧t[14]?=some (num f)
theorem owners_lone (d:Dit) (r:Rows6) (h b:Int) (W:World) (hd:DitSl W d r) (hb:d.Big) (hg:Glob W) :
  Lones Tryd.prog (FG 10) [o0,o1] (fun t W1=>Old W W1∧t.size=87∧(t[19]?=some (.bool true)∨(t[19]?=some (.bool false)∧Lones Tryd.prog (FG 10) [o3,o4,o5,o7,o8] (OwnersR W) t W1)))
   #[d.val r,num h,num b,undef,undef,undef,undef,undef,undef,undef,undef,undef,undef,undef,undef,undef,undef,undef,undef,undef,undef,undef,undef,undef,undef,undef,undef,undef,undef,undef,undef,undef,undef,undef,undef,undef,undef,undef,undef,undef,undef,undef,undef,undef,undef,undef,undef,undef,undef,undef,undef,undef,undef,undef,undef,undef,undef,undef,undef,undef,undef,undef,undef,undef,undef,undef,undef,undef,undef,undef,undef,undef,undef,undef,undef,undef,undef,undef,undef,undef,undef,undef,undef,undef,undef,undef,undef] W:=by
 intro τ
 generalize hw0:({ W with tape:=τ }:World)=w0
 have hO0:Old W w0:=by rw [← hw0];exact .same rfl
 clear hw0
 have hd0:=hd.old hO0
 obtain⟨V,hV,nV,hVs,cV⟩:=boxed w0 d r
 have nVV:Nx V V:=Below.refl _ _
 simp only [o0,lawB10,seqL,seqR,Tryd.f10]
 gi_wp2
 intro τ1
 generalize hw1:({ V with tape:=τ1 }:World)=w1
 have hO1:Old V w1:=by rw [← hw1];exact .same rfl
 have hOw:Old W w1:=hO0.trans ((Old.nx nV).trans hO1)
 have cO:∀ w2,Old w1 w2→∀ i v,(d.cellsA r)[i]?=some v→w2.cell? ⟨w0.heap.size,i,none⟩=some v:=fun w2 o i v h=>((hO1.trans o).cell ⟨w0.heap.size,i,none⟩ (by show w0.heap.size<_;omega)).trans (cV _ nVV i v h)
 have hBl:w0.heap.size<w1.heap.size:=Nat.lt_of_lt_of_le (by omega) hO1.size
 clear hw1
 simp only [o1,op7,op6,op5,op4,op3,op2,op1,lawB10,seqL,seqR,Tryd.f10]
 have k19:=toFG 10 (m:=0) (great_big d r 0 0 (.slice none 0 0) [] w1 (hd.old hOw) hb ⟨0,.inl ⟨rfl,rfl⟩⟩ (Nat.zero_le _))
 obtain⟨ah,caph,eh⟩:=hd.holders.cases
 obtain⟨at1,capt,et⟩:=hd.turns.cases
 rw [List.length_map] at eh et
 obtain⟨c0,c1,c2,c3,c4,c5,c6,c7,c8,c9,c10,c11,c12,c13⟩:=cells14 (cO w1 (Old.refl _))
 have CH:=Lib.hid (show ∀ w2,Old w1 w2→w2.cell? ⟨w0.heap.size,0,none⟩=some (.slice ah d.holders.length caph) from fun w2 o=>(cO w2 o 0 r.h rfl).trans (by rw [eh]))
 have CT:=Lib.hid (show ∀ w2,Old w1 w2→w2.cell? ⟨w0.heap.size,1,none⟩=some (.slice at1 d.turns.length capt) from fun w2 o=>(cO w2 o 1 r.t rfl).trans (by rw [et]))
 have CO:=Lib.hid cO
 have HD:=Lib.hid hd
 have HG:=Lib.hid hg
 have HB:=Lib.hid hb
 clear cO cV hd hg hb hd0 hV nV eh et
 cases hgr:greatS d 0 with
 | true =>
  rw [show ([]:List (List Value)).length=0 from rfl,hgr] at k19
  gi_wp2_with (first
   | (gi_at_call 19;refine CallsIn.mono k19 ?_;rintro e w2 ⟨rfl,x2⟩)
   | gi_in)
  exact⟨hOw.trans (.nx x2),rfl,.inl rfl⟩
 | false =>
 rw [show ([]:List (List Value)).length=0 from rfl,hgr] at k19
 have hs:=small_of_great hgr
 clear hgr
 gi_wp2_with (first
  | (gi_at_call 19;refine CallsIn.mono k19 ?_;rintro e w3 ⟨rfl,x2⟩;clear c0 c1 c2 c3 c4 c5 c6 c7 c8 c9 c10 c11 c12 c13)
  | gi_in)
 have oB2:Old w1 w3:=.nx x2
 refine⟨hOw.trans oB2,rfl,.inr ⟨rfl,?_⟩⟩
 clear k19
 rcases hof:ownerF d h with ⟨⟨z,c,t⟩,f⟩
 rcases hrf:runningF d h b with ⟨n,g⟩
 generalize hck:checkS d=ck
 have KO:=Lib.hid (fun u (o:Old w1 u)=>show CallsIn (FG 10) 0 Tryd.prog 26 #[d.val r,num h] u fun e w'=>e=Ending.returned (.tuple #[num z,num c,num t,num f])∧Nx u w' by
  have:=toFG 10 (m:=0) (owner_any d r h u (HD.out.old (hOw.trans o)) hs (HG.out.old (hOw.trans o)))
  rw [hof] at this;exact this)
 have KP:=Lib.hid (fun u (o:Old w1 u)=>show CallsIn (FG 10) 0 Tryd.prog 40 #[d.val r,num h] u fun e w'=>e=Ending.returned (.tuple #[num z,num c,num t,num f])∧Nx u w' by
  have:=toFG 10 (m:=0) (owner40_any d r h u (HD.out.old (hOw.trans o)) hs)
  rw [hof] at this;exact this)
 have KC:=Lib.hid (fun u (o:Old w1 u)=>show CallsIn (FG 10) 0 Tryd.prog 41 #[d.val r] u fun e w'=>e=Ending.returned (num ck)∧Nx u w' by
  have:=toFG 10 (m:=0) (check_any d r u (HD.out.old (hOw.trans o)) hs (HG.out.old (hOw.trans o)))
  rw [hck] at this;exact this)
 have KD:=Lib.hid (fun u (o:Old w1 u)=>show CallsIn (FG 10) 0 Tryd.prog 25 #[d.val r] u fun e w'=>e=Ending.returned (num ck)∧Nx u w' by
  have:=toFG 10 (m:=0) (check25_any d r u (HD.out.old (hOw.trans o)) hs)
  rw [hck] at this;exact this)
 have KR:=Lib.hid (fun u (o:Old w1 u)=>show CallsIn (FG 10) 0 Tryd.prog 42 #[d.val r,num h,num b] u fun e w'=>e=Ending.returned (.tuple #[num n,num g])∧Nx u w' by
  have:=toFG 10 (m:=0) (running_any d r h b u (HD.out.old (hOw.trans o)) hs (HG.out.old (hOw.trans o)))
  rw [hrf] at this;exact this)
 have KS:=Lib.hid (fun u (o:Old w1 u)=>show CallsIn (FG 10) 0 Tryd.prog 43 #[d.val r,num h,num b] u fun e w'=>e=Ending.returned (.tuple #[num n,num g])∧Nx u w' by
  have:=toFG 10 (m:=0) (running43_any d r h b u (HD.out.old (hOw.trans o)) hs)
  rw [hrf] at this;exact this)
 clear hof hrf hck hs
 intro τ3
 generalize hq3:({ w3 with tape:=τ3 }:World)=u3
 have oA3:Old w1 u3:=oB2.trans (by rw [← hq3];exact .same rfl)
 clear hq3
 simp only [o3,op7,op6,op5,op4,op3,op2,op1,lawB10,seqL,seqR,Tryd.f10]
 have kk:=KO.out u3 oA3
 obtain⟨c0,c1,c2,c3,c4,c5,c6,c7,c8,c9,c10,c11,c12,c13⟩:=cells14 (CO.out u3 oA3)
 gi_wp2_with (first
  | (gi_at_call 26;refine CallsIn.mono kk ?_;rintro e v3 ⟨rfl,x3⟩)
  | gi_in)
 clear kk c0 c1 c2 c3 c4 c5 c6 c7 c8 c9 c10 c11 c12 c13
 have oB3:Old w1 v3:=oA3.trans (.nx x3)
 intro τ4
 generalize hq4:({ v3 with tape:=τ4 }:World)=u4
 have oA4:Old w1 u4:=oB3.trans (by rw [← hq4];exact .same rfl)
 clear hq4
 simp only [o4,op7,op6,op5,op4,op3,op2,op1,lawB10,seqL,seqR,Tryd.f10]
 have kk:=KP.out u4 oA4
 obtain⟨c0,c1,c2,c3,c4,c5,c6,c7,c8,c9,c10,c11,c12,c13⟩:=cells14 (CO.out u4 oA4)
 gi_wp2_with (first
  | (gi_at_call 40;refine CallsIn.mono kk ?_;rintro e v4 ⟨rfl,x4⟩)
  | gi_in)
 clear kk c0 c1 c2 c3 c4 c5 c6 c7 c8 c9 c10 c11 c12 c13
 have oB4:Old w1 v4:=oA4.trans (.nx x4)
 intro τ5
 generalize hq5:({ v4 with tape:=τ5 }:World)=u5
 have oA5:Old w1 u5:=oB4.trans (by rw [← hq5];exact .same rfl)
 clear hq5
 simp only [o5,op7,op6,op5,op4,op3,op2,op1,lawB10,seqL,seqR,Tryd.f10]
 gi_upto_region 5 with fail
 have oD5:Old w1 u5.drew:=oA5.trans (.nx (Below.drew (Below.refl _ _)))
 refine wpIn_region_C (fun x=>Old w1 x) (by kernel_rfl) ?_
 change wpAnyC _ _ _ _ _ _ _ 25 #[false,false,false,false,false,false,false,false,false,false,false,false,false,false,false,false,false,false,false,false,false,false,false,false,false] _ _
 refine wpAnyC_takeR (i:=0) (oi:=⟨some 37,.move (.tmp 7),_,_,_,none⟩) (v:=num z) (plain_ops (by kernel_rfl)) rfl (by kernel_rfl) (by kernel_rfl) (by kernel_rfl) (fun _ _ _ h=>by cases h.1) (yC_move rfl) ?_
 simp only [Act.put,List.setIfInBounds_toArray,List.set_cons_succ,List.set_cons_zero]
 refine wpAnyC_as (l':=#[true,false,false,false,false,false,false,false,false,false,false,false,false,false,false,false,false,false,false,false,false,false,false,false,false]) rfl ?_
 refine wpAnyC_takeR (i:=1) (oi:=⟨some 38,.move (.tmp 11),_,_,_,none⟩) (v:=num z) (plain_ops (by kernel_rfl)) rfl (by kernel_rfl) (by kernel_rfl) (by kernel_rfl) (fun _ _ _ h=>by cases h.1) (yC_move rfl) ?_
 simp only [Act.put,List.setIfInBounds_toArray,List.set_cons_succ,List.set_cons_zero]
 refine wpAnyC_as (l':=#[true,true,false,false,false,false,false,false,false,false,false,false,false,false,false,false,false,false,false,false,false,false,false,false,false]) rfl ?_
 refine wpAnyC_takeR (i:=2) (oi:=⟨some 39,.binOp .neq 3 (.tmp 37) (.tmp 38) 3,_,_,_,none⟩) (v:=.bool false) (plain_ops (by kernel_rfl)) rfl (by kernel_rfl) (by kernel_rfl) (by kernel_rfl) (fun _ _ _ h=>by cases h.1) (yC_neqf3 rfl rfl) ?_
 simp only [Act.put,List.setIfInBounds_toArray,List.set_cons_succ,List.set_cons_zero]
 refine wpAnyC_as (l':=#[true,true,true,false,false,false,false,false,false,false,false,false,false,false,false,false,false,false,false,false,false,false,false,false,false]) rfl ?_
 refine wpAnyC_takeR (i:=3) (oi:=⟨some 40,.move (.tmp 39),_,_,_,none⟩) (v:=.bool false) (plain_ops (by kernel_rfl)) rfl (by kernel_rfl) (by kernel_rfl) (by kernel_rfl) (fun _ _ _ h=>by cases h.1) (yC_move rfl) ?_
 simp only [Act.put,List.setIfInBounds_toArray,List.set_cons_succ,List.set_cons_zero]
 refine wpAnyC_as (l':=#[true,true,true,true,false,false,false,false,false,false,false,false,false,false,false,false,false,false,false,false,false,false,false,false,false]) rfl ?_
 refine wpAnyC_takeR (i:=4) (oi:=⟨some 41,.move (.tmp 8),_,_,_,some (3,false)⟩) (v:=num c) (plain_ops (by kernel_rfl)) rfl (by kernel_rfl) (by kernel_rfl) (by kernel_rfl) (fun _ _ _ h=>by cases h.1) (yG (yC_move rfl) rfl) ?_
 simp only [Act.put,List.setIfInBounds_toArray,List.set_cons_succ,List.set_cons_zero]
 refine wpAnyC_as (l':=#[true,true,true,true,true,false,false,false,false,false,false,false,false,false,false,false,false,false,false,false,false,false,false,false,false]) rfl ?_
 refine wpAnyC_takeR (i:=5) (oi:=⟨some 42,.move (.tmp 12),_,_,_,some (3,false)⟩) (v:=num c) (plain_ops (by kernel_rfl)) rfl (by kernel_rfl) (by kernel_rfl) (by kernel_rfl) (fun _ _ _ h=>by cases h.1) (yG (yC_move rfl) rfl) ?_
 simp only [Act.put,List.setIfInBounds_toArray,List.set_cons_succ,List.set_cons_zero]
 refine wpAnyC_as (l':=#[true,true,true,true,true,true,false,false,false,false,false,false,false,false,false,false,false,false,false,false,false,false,false,false,false]) rfl ?_
 refine wpAnyC_takeR (i:=6) (oi:=⟨some 43,.binOp .neq 3 (.tmp 41) (.tmp 42) 3,_,_,_,some (3,false)⟩) (v:=.bool false) (plain_ops (by kernel_rfl)) rfl (by kernel_rfl) (by kernel_rfl) (by kernel_rfl) (fun _ _ _ h=>by cases h.1) (yG (yC_neqf3 rfl rfl) rfl) ?_
 simp only [Act.put,List.setIfInBounds_toArray,List.set_cons_succ,List.set_cons_zero]
 refine wpAnyC_as (l':=#[true,true,true,true,true,true,true,false,false,false,false,false,false,false,false,false,false,false,false,false,false,false,false,false,false]) rfl ?_
 refine wpAnyC_takeR (i:=7) (oi:=⟨some 44,.pick (.tmp 40) (.const (.bool true)) (.tmp 43),_,_,_,none⟩) (v:=.bool false) (plain_ops (by kernel_rfl)) rfl (by kernel_rfl) (by kernel_rfl) (by kernel_rfl) (fun _ _ _ h=>by cases h.1) (yC_pickf rfl rfl) ?_
 simp only [Act.put,List.setIfInBounds_toArray,List.set_cons_succ,List.set_cons_zero]
 refine wpAnyC_as (l':=#[true,true,true,true,true,true,true,true,false,false,false,false,false,false,false,false,false,false,false,false,false,false,false,false,false]) rfl ?_
 refine wpAnyC_takeR (i:=8) (oi:=⟨some 45,.move (.tmp 44),_,_,_,none⟩) (v:=.bool false) (plain_ops (by kernel_rfl)) rfl (by kernel_rfl) (by kernel_rfl) (by kernel_rfl) (fun _ _ _ h=>by cases h.1) (yC_move rfl) ?_
 simp only [Act.put,List.setIfInBounds_toArray,List.set_cons_succ,List.set_cons_zero]
 refine wpAnyC_as (l':=#[true,true,true,true,true,true,true,true,true,false,false,false,false,false,false,false,false,false,false,false,false,false,false,false,false]) rfl ?_
 refine wpAnyC_takeR (i:=9) (oi:=⟨some 46,.move (.tmp 9),_,_,_,some (8,false)⟩) (v:=num t) (plain_ops (by kernel_rfl)) rfl (by kernel_rfl) (by kernel_rfl) (by kernel_rfl) (fun _ _ _ h=>by cases h.1) (yG (yC_move rfl) rfl) ?_
 simp only [Act.put,List.setIfInBounds_toArray,List.set_cons_succ,List.set_cons_zero]
 refine wpAnyC_as (l':=#[true,true,true,true,true,true,true,true,true,true,false,false,false,false,false,false,false,false,false,false,false,false,false,false,false]) rfl ?_
 refine wpAnyC_takeR (i:=10) (oi:=⟨some 47,.move (.tmp 13),_,_,_,some (8,false)⟩) (v:=num t) (plain_ops (by kernel_rfl)) rfl (by kernel_rfl) (by kernel_rfl) (by kernel_rfl) (fun _ _ _ h=>by cases h.1) (yG (yC_move rfl) rfl) ?_
 simp only [Act.put,List.setIfInBounds_toArray,List.set_cons_succ,List.set_cons_zero]
 refine wpAnyC_as (l':=#[true,true,true,true,true,true,true,true,true,true,true,false,false,false,false,false,false,false,false,false,false,false,false,false,false]) rfl ?_
 refine wpAnyC_takeR (i:=11) (oi:=⟨some 48,.binOp .neq 3 (.tmp 46) (.tmp 47) 3,_,_,_,some (8,false)⟩) (v:=.bool false) (plain_ops (by kernel_rfl)) rfl (by kernel_rfl) (by kernel_rfl) (by kernel_rfl) (fun _ _ _ h=>by cases h.1) (yG (yC_neqf3 rfl rfl) rfl) ?_
 simp only [Act.put,List.setIfInBounds_toArray,List.set_cons_succ,List.set_cons_zero]
 refine wpAnyC_as (l':=#[true,true,true,true,true,true,true,true,true,true,true,true,false,false,false,false,false,false,false,false,false,false,false,false,false]) rfl ?_
 refine wpAnyC_takeR (i:=12) (oi:=⟨some 49,.pick (.tmp 45) (.const (.bool true)) (.tmp 48),_,_,_,none⟩) (v:=.bool false) (plain_ops (by kernel_rfl)) rfl (by kernel_rfl) (by kernel_rfl) (by kernel_rfl) (fun _ _ _ h=>by cases h.1) (yC_pickf rfl rfl) ?_
 simp only [Act.put,List.setIfInBounds_toArray,List.set_cons_succ,List.set_cons_zero]
 refine wpAnyC_as (l':=#[true,true,true,true,true,true,true,true,true,true,true,true,true,false,false,false,false,false,false,false,false,false,false,false,false]) rfl ?_
 refine wpAnyC_takeR (i:=13) (oi:=⟨some 50,.move (.tmp 49),_,_,_,none⟩) (v:=.bool false) (plain_ops (by kernel_rfl)) rfl (by kernel_rfl) (by kernel_rfl) (by kernel_rfl) (fun _ _ _ h=>by cases h.1) (yC_move rfl) ?_
 simp only [Act.put,List.setIfInBounds_toArray,List.set_cons_succ,List.set_cons_zero]
 refine wpAnyC_as (l':=#[true,true,true,true,true,true,true,true,true,true,true,true,true,true,false,false,false,false,false,false,false,false,false,false,false]) rfl ?_
 refine wpAnyC_takeR (i:=14) (oi:=⟨some 51,.move (.tmp 10),_,_,_,some (13,false)⟩) (v:=num f) (plain_ops (by kernel_rfl)) rfl (by kernel_rfl) (by kernel_rfl) (by kernel_rfl) (fun _ _ _ h=>by cases h.1) (yG (yC_move rfl) rfl) ?_
 simp only [Act.put,List.setIfInBounds_toArray,List.set_cons_succ,List.set_cons_zero]
 refine wpAnyC_as (l':=#[true,true,true,true,true,true,true,true,true,true,true,true,true,true,true,false,false,false,false,false,false,false,false,false,false]) rfl ?_
 refine wpAnyC_takeR (i:=15) (oi:=⟨some 52,.move (.tmp 14),_,_,_,some (13,false)⟩) (v:=num f) (plain_ops (by kernel_rfl)) rfl (by kernel_rfl) (by kernel_rfl) (by kernel_rfl) (fun _ _ _ h=>by cases h.1) (yG (yC_move rfl) rfl) ?_
 simp only [Act.put,List.setIfInBounds_toArray,List.set_cons_succ,List.set_cons_zero]
 refine wpAnyC_as (l':=#[true,true,true,true,true,true,true,true,true,true,true,true,true,true,true,true,false,false,false,false,false,false,false,false,false]) rfl ?_
 refine wpAnyC_takeR (i:=16) (oi:=⟨some 53,.binOp .neq 37 (.tmp 51) (.tmp 52) 37,_,_,_,some (13,false)⟩) (v:=.bool false) (plain_ops (by kernel_rfl)) rfl (by kernel_rfl) (by kernel_rfl) (by kernel_rfl) (fun _ _ _ h=>by cases h.1) (yG (yC_neqf37 rfl rfl) rfl) ?_
 simp only [Act.put,List.setIfInBounds_toArray,List.set_cons_succ,List.set_cons_zero]
 refine wpAnyC_as (l':=#[true,true,true,true,true,true,true,true,true,true,true,true,true,true,true,true,true,false,false,false,false,false,false,false,false]) rfl ?_
 refine wpAnyC_takeR (i:=17) (oi:=⟨some 54,.pick (.tmp 50) (.const (.bool true)) (.tmp 53),_,_,_,none⟩) (v:=.bool false) (plain_ops (by kernel_rfl)) rfl (by kernel_rfl) (by kernel_rfl) (by kernel_rfl) (fun _ _ _ h=>by cases h.1) (yC_pickf rfl rfl) ?_
 simp only [Act.put,List.setIfInBounds_toArray,List.set_cons_succ,List.set_cons_zero]
 refine wpAnyC_as (l':=#[true,true,true,true,true,true,true,true,true,true,true,true,true,true,true,true,true,true,false,false,false,false,false,false,false]) rfl ?_
 refine wpAnyC_takeR (i:=18) (oi:=⟨some 55,.move (.tmp 54),_,_,_,none⟩) (v:=.bool false) (plain_ops (by kernel_rfl)) rfl (by kernel_rfl) (by kernel_rfl) (by kernel_rfl) (fun _ _ _ h=>by cases h.1) (yC_move rfl) ?_
 simp only [Act.put,List.setIfInBounds_toArray,List.set_cons_succ,List.set_cons_zero]
 refine wpAnyC_as (l':=#[true,true,true,true,true,true,true,true,true,true,true,true,true,true,true,true,true,true,true,false,false,false,false,false,false]) rfl ?_
 refine wpAnyC_takeR (i:=19) (oi:=⟨some 56,.load 31 (.tmp 3),_,_,_,some (18,false)⟩) (v:=d.val r) (plain_ops (by kernel_rfl)) rfl (by kernel_rfl) (by kernel_rfl) (by kernel_rfl) (fun _ _ _ h=>by cases h.1) (yG (yC_dit rfl (fun x hx=>CO.out x hx)) rfl) ?_
 simp only [Act.put,List.setIfInBounds_toArray,List.set_cons_succ,List.set_cons_zero]
 refine wpAnyC_as (l':=#[true,true,true,true,true,true,true,true,true,true,true,true,true,true,true,true,true,true,true,true,false,false,false,false,false]) rfl ?_
 refine wpAnyC_takeR (i:=21) (oi:=⟨some 58,.load 31 (.tmp 3),_,_,_,some (18,false)⟩) (v:=d.val r) (plain_ops (by kernel_rfl)) rfl (by kernel_rfl) (by kernel_rfl) (by kernel_rfl) (fun _ _ _ h=>by cases h.1) (yG (yC_dit rfl (fun x hx=>CO.out x hx)) rfl) ?_
 simp only [Act.put,List.setIfInBounds_toArray,List.set_cons_succ,List.set_cons_zero]
 refine wpAnyC_as (l':=#[true,true,true,true,true,true,true,true,true,true,true,true,true,true,true,true,true,true,true,true,false,true,false,false,false]) rfl ?_
 refine wpAnyC_only (i:=20) (o:=⟨some 57,.call { callee:=.value (.func 41),args:=#[.tmp 56],argTypes:=#[31] },_,_,_,some (18,false)⟩) (by kernel_rfl) rfl rfl (oD5) ?_
 intro K hK
 go_simp
 refine CallsIn.mono (((KC.out _ (oD5)).mono fun e w' ⟨p,q⟩=>(⟨p,Old.trans (oD5) (.nx q)⟩:e=Ending.returned (num ck)∧Old w1 w'))) ?_
 rintro e v20 ⟨rfl,y20⟩
 refine hK _ _ ?_
 refine wpAnyC_as (l':=#[true,true,true,true,true,true,true,true,true,true,true,true,true,true,true,true,true,true,true,true,true,true,false,false,false]) rfl ?_
 refine wpAnyC_only (i:=22) (o:=⟨some 59,.call { callee:=.value (.func 25),args:=#[.tmp 58],argTypes:=#[31] },_,_,_,some (18,false)⟩) (by kernel_rfl) rfl rfl (y20) ?_
 intro K hK
 go_simp
 refine CallsIn.mono (((KD.out _ (y20)).mono fun e w' ⟨p,q⟩=>(⟨p,Old.trans (y20) (.nx q)⟩:e=Ending.returned (num ck)∧Old w1 w'))) ?_
 rintro e v22 ⟨rfl,y22⟩
 refine hK _ _ ?_
 refine wpAnyC_as (l':=#[true,true,true,true,true,true,true,true,true,true,true,true,true,true,true,true,true,true,true,true,true,true,true,false,false]) rfl ?_
 refine wpAnyC_takeR (i:=23) (oi:=⟨some 60,.binOp .neq 37 (.tmp 57) (.tmp 59) 37,_,_,_,some (18,false)⟩) (v:=.bool false) (plain_ops (by kernel_rfl)) rfl (by kernel_rfl) (by kernel_rfl) (by kernel_rfl) (fun _ _ _ h=>by cases h.1) (yG (yC_neqf37 rfl rfl) rfl) ?_
 simp only [Act.put,List.setIfInBounds_toArray,List.set_cons_succ,List.set_cons_zero]
 refine wpAnyC_as (l':=#[true,true,true,true,true,true,true,true,true,true,true,true,true,true,true,true,true,true,true,true,true,true,true,true,false]) rfl ?_
 refine wpAnyC_takeR (i:=24) (oi:=⟨some 61,.pick (.tmp 55) (.const (.bool true)) (.tmp 60),_,_,_,none⟩) (v:=.bool false) (plain_ops (by kernel_rfl)) rfl (by kernel_rfl) (by kernel_rfl) (by kernel_rfl) (fun _ _ _ h=>by cases h.1) (yC_pickf rfl rfl) ?_
 simp only [Act.put,List.setIfInBounds_toArray,List.set_cons_succ,List.set_cons_zero]
 refine wpAnyC_as (l':=#[true,true,true,true,true,true,true,true,true,true,true,true,true,true,true,true,true,true,true,true,true,true,true,true,true]) rfl ?_
 refine wpAnyC_done (by kernel_rfl) (y22) ?_
 have oA6:Old w1 v22:=y22
 gi_wp2
 intro τ7
 generalize hq7:({ v22 with tape:=τ7 }:World)=u7
 have oA7:Old w1 u7:=oA6.trans (by rw [← hq7];exact .same rfl)
 clear hq7
 simp only [o7,op7,op6,op5,op4,op3,op2,op1,lawB10,seqL,seqR,Tryd.f10]
 have kk:=KR.out u7 oA7
 obtain⟨c0,c1,c2,c3,c4,c5,c6,c7,c8,c9,c10,c11,c12,c13⟩:=cells14 (CO.out u7 oA7)
 gi_wp2_with (first
  | (gi_at_call 42;refine CallsIn.mono kk ?_;rintro e v7 ⟨rfl,x7⟩)
  | gi_in)
 clear kk c0 c1 c2 c3 c4 c5 c6 c7 c8 c9 c10 c11 c12 c13
 have oB7:Old w1 v7:=oA7.trans (.nx x7)
 intro τ8
 generalize hq8:({ v7 with tape:=τ8 }:World)=u8
 have oA8:Old w1 u8:=oB7.trans (by rw [← hq8];exact .same rfl)
 clear hq8
 simp only [o8,op7,op6,op5,op4,op3,op2,op1,lawB10,seqL,seqR,Tryd.f10]
 have kk:=KS.out u8 oA8
 obtain⟨c0,c1,c2,c3,c4,c5,c6,c7,c8,c9,c10,c11,c12,c13⟩:=cells14 (CO.out u8 oA8)
 gi_wp2_with (first
  | (gi_at_call 43;refine CallsIn.mono kk ?_;rintro e v8 ⟨rfl,x8⟩)
  | gi_in)
 clear kk c0 c1 c2 c3 c4 c5 c6 c7 c8 c9 c10 c11 c12 c13
 have oB8:Old w1 v8:=oA8.trans (.nx x8)
 exact (show OwnersR W _ _ from ⟨hOw.trans oB8,n,g,rfl,rfl,rfl,rfl,rfl⟩)
end Go.Proofs.YtolholkjeehamaaDoor

namespace Go.Proofs.YtolholkjeehamaaDoor
open Go.RowKit Go.Con Go.Conc
local instance:Lone:=mainL
theorem results10 (v:Value) (t:Array Value) (h:t[6]?=some v) (σ:Rn):ResultsC Tryd.prog Tryd.f10 (t.map (ren σ)) (ren σ v):=by
 have:=resultsC_tmp (P:=Tryd.prog) (fn:=Tryd.f10) (t:=6) rfl (t.map (ren σ))
 simp only [Array.getD_eq_getD_getElem?,Array.getElem?_map,h,Option.map_some,Option.getD_some] at this
 exact this
theorem owners_go (E Fz Arg:Nat→Prop) (W0:World) (hArg:∀ x,Arg x↔x<W0.heap.size) (Post:Value→World→Prop) (φ:Ph) (d:Dit) (r:Rows6) (h b:Int) (W:World) (hd:DitSl W d r) (hb:d.Big) (hg:Glob W)
  (hPost:∀ Fz1 ρ D own A fr W1 W',Here Tryd.prog true E Fz1 Arg W0 ρ D own A fr [] W1 W'→Post (ren ρ (.bool true)) W') :
  GoM Tryd.prog true E Fz Arg W0 (AtEnd Tryd.prog Post) φ [] (Fr 10 #[d.val r,num h,num b,undef,undef,undef,undef,undef,undef,undef,undef,undef,undef,undef,undef,undef,undef,undef,undef,undef,undef,undef,undef,undef,undef,undef,undef,undef,undef,undef,undef,undef,undef,undef,undef,undef,undef,undef,undef,undef,undef,undef,undef,undef,undef,undef,undef,undef,undef,undef,undef,undef,undef,undef,undef,undef,undef,undef,undef,undef,undef,undef,undef,undef,undef,undef,undef,undef,undef,undef,undef,undef,undef,undef,undef,undef,undef,undef,undef,undef,undef,undef,undef,undef,undef,undef,undef] [.code lawB10]) [] W:=by
 have hgood:goodFn Tryd.prog (.func 10)=false:=by kernel_rfl
 have hL:=owners_lone d r h b W hd hb hg
 rw [lawB10_eq]
 refine Gm.seq ?_
 refine Gm.lone (F:=FG 10) _ rfl rfl rfl (List.mem_cons_self ..) (FG_ok 10 hgood) (by kernel_rfl) (by kernel_rfl) hL ?_
 clear hL
 intro t0 V0 hL
 refine Gm.seq (Gm.seq ?_)
 refine Gm.lone (F:=FG 10) _ rfl rfl rfl (List.mem_cons_self ..) (FG_ok 10 hgood) (by kernel_rfl) (by kernel_rfl) hL ?_
 clear hL
 rintro t W1 ⟨hO1,hs,h19 | ⟨h19,hL⟩⟩
 ·refine Gm.cond (b:=true) (eval_tmp h19) rfl ?_
  refine Gm.seq ?_
  rw [o2_eq]
  refine Gm.region ?_
  rw [show List.range opo2.size=[0,1] by kernel_rfl]
  refine Gm.enter (o:=⟨some 20,.call { callee:=.value (.func 20),args:=#[],argTypes:=#[] },_,_,_,none⟩) (c:={ callee:=.value (.func 20),args:=#[],argTypes:=#[] }) rfl rfl rfl rfl (by kernel_rfl) Tryd.func20 body20_of (by kernel_rfl) ?_
  rw [fr20]
  refine flows_go E _ Arg W0 hArg _ _ _ _ _ (hg.old hO1) ?_
  intro WL FzL φL hOL
  rw [Fr_finish (o:=⟨some 20,.call { callee:=.value (.func 20),args:=#[],argTypes:=#[] },_,_,_,none⟩) rfl]
  refine Gm.op (o:=⟨some 6,.assign (.tmp 20),_,_,_,none⟩) (.bool true) WL rfl rfl (by kernel_rfl) rfl (asg_run _ (eval_tmp (by simp only [putD_get,putD_same,putD_size,hs,ne_eq,Nat.reduceEqDiff,not_false_eq_true,Nat.reduceLT]))) id ?_
  refine Gm.regionEnd ?_
  refine Gm.done Tryd.func10 (by kernel_rfl) (results10 (.bool true) _ (by simp only [putD_get,putD_same,putD_size,hs,ne_eq,Nat.reduceEqDiff,not_false_eq_true,Nat.reduceLT])) ?_
  exact fun ρ D own A fr W' h=>hPost _ ρ D own A fr _ W' h
 ·refine Gm.cond (b:=false) (eval_tmp h19) rfl ?_
  refine Gm.skip ?_
  refine Gm.seq ?_
  refine Gm.lone (F:=FG 10) _ rfl rfl rfl (List.mem_cons_self ..) (FG_ok 10 hgood) (by kernel_rfl) (by kernel_rfl) hL ?_
  clear hL
  intro t3 V3 hL
  refine Gm.seq ?_
  refine Gm.lone (F:=FG 10) _ rfl rfl rfl (List.mem_cons_self ..) (FG_ok 10 hgood) (by kernel_rfl) (by kernel_rfl) hL ?_
  clear hL
  intro t4 V4 hL
  refine Gm.seq ?_
  refine Gm.lone (F:=FG 10) _ rfl rfl rfl (List.mem_cons_self ..) (FG_ok 10 hgood) (by kernel_rfl) (by kernel_rfl) hL ?_
  clear hL
  intro t5 V5 hL
  refine Gm.seq ?_
  refine Gm.lone (F:=FG 10) _ rfl rfl rfl (List.mem_cons_self ..) (FG_ok 10 hgood) (by kernel_rfl) (by kernel_rfl) hL ?_
  clear hL
  intro t7 V7 hL
  refine Gm.seq ?_
  refine Gm.lone (F:=FG 10) _ rfl rfl rfl (List.mem_cons_self ..) (FG_ok 10 hgood) (by kernel_rfl) (by kernel_rfl) hL ?_
  clear hL
  clear hO1 hs h19
  rintro t W2 ⟨hO2,n,f,hs,k15,k16,k10,k14⟩
  refine Gm.seq ?_
  rw [o9_eq]
  refine Gm.region ?_
  rw [show List.range opo9.size=[0,1,2,3,4,5,6,7,8,9,10,11] by kernel_rfl]
  refine Gm.op (o:=⟨some 76,.move (.tmp 15),_,_,_,none⟩) (num n) W2 rfl rfl (by kernel_rfl) rfl (mvg_run _ (eval_tmp (by simp only [putD_get,putD_same,putD_size,hs,k15,k16,k10,k14,ne_eq,Nat.reduceEqDiff,not_false_eq_true,Nat.reduceLT]))) id ?_
  refine Gm.op (o:=⟨some 77,.move (.tmp 16),_,_,_,none⟩) (num n) W2 rfl rfl (by kernel_rfl) rfl (mvg_run _ (eval_tmp (by simp only [putD_get,putD_same,putD_size,hs,k15,k16,k10,k14,ne_eq,Nat.reduceEqDiff,not_false_eq_true,Nat.reduceLT]))) id ?_
  refine Gm.op (o:=⟨some 78,.binOp .eql 3 (.tmp 76) (.tmp 77) 3,_,_,_,none⟩) (.bool true) W2 rfl rfl (by kernel_rfl) rfl (eq3_run (n:=n) _ (eval_tmp (by simp only [putD_get,putD_same,putD_size,hs,k15,k16,k10,k14,ne_eq,Nat.reduceEqDiff,not_false_eq_true,Nat.reduceLT])) (eval_tmp (by simp only [putD_get,putD_same,putD_size,hs,k15,k16,k10,k14,ne_eq,Nat.reduceEqDiff,not_false_eq_true,Nat.reduceLT]))) id ?_
  refine Gm.op (o:=⟨some 79,.move (.tmp 78),_,_,_,none⟩) (.bool true) W2 rfl rfl (by kernel_rfl) rfl (mvg_run _ (eval_tmp (by simp only [putD_get,putD_same,putD_size,hs,k15,k16,k10,k14,ne_eq,Nat.reduceEqDiff,not_false_eq_true,Nat.reduceLT]))) id ?_
  refine Gm.op (o:=⟨some 80,.move (.tmp 10),_,_,_,some (3,true)⟩) (num f) W2 rfl (wanted_guard (i:=3) (b:=true) (d:=79) rfl rfl (by simp only [putD_get,putD_same,putD_size,hs,k15,k16,k10,k14,ne_eq,Nat.reduceEqDiff,not_false_eq_true,Nat.reduceLT])) (by kernel_rfl) rfl (mvg_run _ (eval_tmp (by simp only [putD_get,putD_same,putD_size,hs,k15,k16,k10,k14,ne_eq,Nat.reduceEqDiff,not_false_eq_true,Nat.reduceLT]))) id ?_
  refine Gm.op (o:=⟨some 81,.move (.tmp 14),_,_,_,some (3,true)⟩) (num f) W2 rfl (wanted_guard (i:=3) (b:=true) (d:=79) rfl rfl (by simp only [putD_get,putD_same,putD_size,hs,k15,k16,k10,k14,ne_eq,Nat.reduceEqDiff,not_false_eq_true,Nat.reduceLT])) (by kernel_rfl) rfl (mvg_run _ (eval_tmp (by simp only [putD_get,putD_same,putD_size,hs,k15,k16,k10,k14,ne_eq,Nat.reduceEqDiff,not_false_eq_true,Nat.reduceLT]))) id ?_
  refine Gm.op (o:=⟨some 82,.binOp .eql 37 (.tmp 80) (.tmp 81) 37,_,_,_,some (3,true)⟩) (.bool true) W2 rfl (wanted_guard (i:=3) (b:=true) (d:=79) rfl rfl (by simp only [putD_get,putD_same,putD_size,hs,k15,k16,k10,k14,ne_eq,Nat.reduceEqDiff,not_false_eq_true,Nat.reduceLT])) (by kernel_rfl) rfl (eq37_run (n:=f) _ (eval_tmp (by simp only [putD_get,putD_same,putD_size,hs,k15,k16,k10,k14,ne_eq,Nat.reduceEqDiff,not_false_eq_true,Nat.reduceLT])) (eval_tmp (by simp only [putD_get,putD_same,putD_size,hs,k15,k16,k10,k14,ne_eq,Nat.reduceEqDiff,not_false_eq_true,Nat.reduceLT]))) id ?_
  refine Gm.op (o:=⟨some 83,.pick (.tmp 79) (.tmp 82) (.const (.bool false)),_,_,_,none⟩) (.bool true) W2 rfl rfl (by kernel_rfl) rfl (pick_run _ (eval_tmp (by simp only [putD_get,putD_same,putD_size,hs,k15,k16,k10,k14,ne_eq,Nat.reduceEqDiff,not_false_eq_true,Nat.reduceLT])) (eval_tmp (by simp only [putD_get,putD_same,putD_size,hs,k15,k16,k10,k14,ne_eq,Nat.reduceEqDiff,not_false_eq_true,Nat.reduceLT]))) id ?_
  refine Gm.op (o:=⟨some 84,.move (.tmp 83),_,_,_,none⟩) (.bool true) W2 rfl rfl (by kernel_rfl) rfl (mvg_run _ (eval_tmp (by simp only [putD_get,putD_same,putD_size,hs,k15,k16,k10,k14,ne_eq,Nat.reduceEqDiff,not_false_eq_true,Nat.reduceLT]))) id ?_
  refine Gm.enter (o:=⟨some 85,.call { callee:=.value (.func 20),args:=#[],argTypes:=#[] },_,_,_,some (8,true)⟩) (c:={ callee:=.value (.func 20),args:=#[],argTypes:=#[] }) rfl (wanted_guard (i:=8) (b:=true) (d:=84) rfl rfl (by simp only [putD_get,putD_same,putD_size,hs,k15,k16,k10,k14,ne_eq,Nat.reduceEqDiff,not_false_eq_true,Nat.reduceLT])) rfl rfl (by kernel_rfl) Tryd.func20 body20_of (by kernel_rfl) ?_
  rw [fr20]
  refine flows_go E _ Arg W0 hArg _ _ _ _ _ (hg.old hO2) ?_
  intro WL FzL φL hOL
  rw [Fr_finish (o:=⟨some 85,.call { callee:=.value (.func 20),args:=#[],argTypes:=#[] },_,_,_,some (8,true)⟩) rfl]
  refine Gm.op (o:=⟨some 86,.pick (.tmp 84) (.tmp 85) (.const (.bool false)),_,_,_,none⟩) (.bool true) WL rfl rfl (by kernel_rfl) rfl (pick_run _ (eval_tmp (by simp only [putD_get,putD_same,putD_size,hs,k15,k16,k10,k14,ne_eq,Nat.reduceEqDiff,not_false_eq_true,Nat.reduceLT])) (eval_tmp (by simp only [putD_get,putD_same,putD_size,hs,k15,k16,k10,k14,ne_eq,Nat.reduceEqDiff,not_false_eq_true,Nat.reduceLT]))) id ?_
  refine Gm.op (o:=⟨some 6,.assign (.tmp 86),_,_,_,none⟩) (.bool true) WL rfl rfl (by kernel_rfl) rfl (asg_run _ (eval_tmp (by simp only [putD_get,putD_same,putD_size,hs,k15,k16,k10,k14,ne_eq,Nat.reduceEqDiff,not_false_eq_true,Nat.reduceLT]))) id ?_
  refine Gm.regionEnd ?_
  refine Gm.done Tryd.func10 (by kernel_rfl) (results10 (.bool true) _ (by simp only [putD_get,putD_same,putD_size,hs,k15,k16,k10,k14,ne_eq,Nat.reduceEqDiff,not_false_eq_true,Nat.reduceLT])) ?_
  exact fun ρ D own A fr W' h=>hPost _ ρ D own A fr _ W' h
end Go.Proofs.YtolholkjeehamaaDoor

namespace Go.Proofs.YtolholkjeehamaaDoor
open Go.RowKit Go.Con Go.Conc Go.ChangeShapes Go.WideShapes Go.ChangeAt
local instance:Lone:=mainL
theorem fr10 (a0 a1 a2:Value):#[a0,a1,a2]++Array.replicate (Tryd.f10.ntmps-(#[a0,a1,a2]:Array Value).size) undef=#[a0,a1,a2,undef,undef,undef,undef,undef,undef,undef,undef,undef,undef,undef,undef,undef,undef,undef,undef,undef,undef,undef,undef,undef,undef,undef,undef,undef,undef,undef,undef,undef,undef,undef,undef,undef,undef,undef,undef,undef,undef,undef,undef,undef,undef,undef,undef,undef,undef,undef,undef,undef,undef,undef,undef,undef,undef,undef,undef,undef,undef,undef,undef,undef,undef,undef,undef,undef,undef,undef,undef,undef,undef,undef,undef,undef,undef,undef,undef,undef,undef,undef,undef,undef,undef,undef,undef]:=by
 simp only [Tryd.ntmps10,List.size_toArray,List.length_cons,List.length_nil,Nat.reduceAdd,Nat.reduceSub,Array.replicate_succ,Array.replicate_zero,List.push_toArray,List.append_toArray,List.nil_append,List.cons_append]
theorem owners_fin (d:Dit) (r:Rows6) (x1:Int) (x2:Int) (W:World) (hd:DitSl W d r) (hb:d.Big) (hg:Glob W)  :
  Con.Fin Tryd.prog (fun u W'=>u=.bool true∧Con.Left W W') (solo (G (Frame.enter Tryd.prog 10 #[d.val r,.int .i64 x1,.int .i64 x2] .normal) []) W) #[]:=by
 refine law_fin Tryd.func10 lawB10_of hg (fun v hv=>?_) fun c Post hPost=>?_
 ·simp only [List.mem_cons,List.not_mem_nil,or_false] at hv
  rcases hv with rfl | rfl | rfl
  ·exact hd.same
  ·exact⟨fun c=>by simp [ren],by simp [ren]⟩
  ·exact⟨fun c=>by simp [ren],by simp [ren]⟩
 ·rw [fr10]
  exact owners_go _ _ _ _ (fun _=>Iff.rfl) Post _ d r x1 x2 _ hd.entry hb hg.entry hPost
theorem owners_lifted (os:Os) (started:os.Started) (H:Type) (enc:TypeId×Value→H) :
  ReturnsInLeavingWide {} Tryd.checked os 10 .any (fun w args=>(Rows.turnOwnersSpec.pre enc Tryd.prog Tryd.f10 [] false w args∧laidMetH Tryd.prog laid2 w)∧sizedMet enc Tryd.prog Tryd.f10 (OpenSpec.ofChange Rows.turnOwnersSpec) false w args)
   (Rows.turnOwnersSpec.post enc Tryd.prog Tryd.f10 false true false false):=by
 refine returnsInLeavingWide_and (C:=Tryd.checked) (X:=fun w _=>laidMetH Tryd.prog laid2 w) (fun _ _ _ hh h=>h.of_heap hh) own_knob started Tryd.func10
  (ChangeSpec.witness_shaped (enc:=enc) (C:=Tryd.checked) (os:=os) (X:=fun w _=>laidMetH Tryd.prog laid2 w) false (World.doorLaid Tryd.prog 600 os)
   #[.agg #[.slice none 0 0,.slice none 0 0,.int .i64 0,.int .i64 0,.int .i64 0,.int .i64 0,.slice none 0 0,.slice none 0 0,.slice none 0 0,.int .i64 0,.int .i64 0,.int .i64 0,.int .i64 0,.slice none 0 0],.int .i64 0,.int .i64 0] 8 rfl (World.shaped_of_RefB (by kernel_rfl) (by kernel_rfl)) (by kernel_rfl) (by kernel_rfl) (by kernel_rfl) (door_met os _)) ?_
 intro W base args ds gs before hval0 hW _ hsz hL
 have hval:∀ (j:Nat) t v,Tryd.f10.params[j]?=some t→args[j]?=some v→Value.okWide Tryd.prog W .any base t v:=hval0
 have hW':=hW
 obtain⟨p,q,hA0,hV,rfl,hfz,hnd⟩:=hW
 have hA:DataW.TrodAll enc Tryd.prog W 0 (fun _=>true) true Tryd.f10.params.toList args.toList ds p:=hA0
 rw [Tryd.params10] at hA hval
 obtain⟨v0,v1,v2,d0,d1,d2,p0,p1,p2,rfl,rfl,rfl,h0,h1,h2⟩:=trodAll_three hA
 obtain⟨rfl,rfl⟩:=trodVars_none hV
 obtain⟨x1,rfl,rfl,rfl,w1⟩:=open_int Tryd.underlying3 (hval 1 3 v1 rfl rfl) h1
 obtain⟨x2,rfl,rfl,rfl,w2⟩:=open_int Tryd.underlying3 (hval 2 3 v2 rfl rfl) h2
 have hfit:Fits 31 d0:=fun n hn=>by
  have:=List.all_eq_true.1 hsz n (DataW.weights_mem_each (P:=Tryd.prog) (j:=0) (t:=31) (d:=d0) (by rw [show Tryd.checked.prog=Tryd.prog from rfl,Tryd.params10];rfl) rfl n hn)
  simpa using this
 obtain⟨d,r,rfl,hd,hb⟩:=dit_open (hval 0 31 v0 rfl rfl) h0 hfit
 clear hA0 hval0
 try simp only [List.append_nil] at hW'
 have hlt:=fun x hx=>hW'.lt x hx
 try simp only [Array.size_empty,Nat.add_zero] at hlt
 refine fin_post (owners_fin d r x1 x2 W hd hb (of_laid hL) ) fun W' hl=>?_
 have ha:=trodAll_mk3 (left_trod (by kernel_rfl) (of_decide_eq_true (by kernel_rfl)) h0 hl fun x hx=>hlt x (by simp [hx])) (shut_int Tryd.underlying3 w1) (shut_int Tryd.underlying3 w2)
 try simp only [List.append_nil] at ha
 exact⟨[d0,.lit (.int .i64 x1),.lit (.int .i64 x2)],[],_,[],_,[],hW',trodAll_mk1 (shut_bool Tryd.underlying4 _),ha,rfl,left_kept hl _,fun h=>by cases h⟩
theorem owners_holds:Rows.TurnOwnersSaid :=
 OpenClaim.holds_of_wide_leaving 10 Tryd.f10 rfl rfl rfl rfl rfl rfl rfl ⟨rfl,rfl,rfl,rfl,rfl⟩ rfl rfl rfl rfl rfl (by kernel_rfl) Tryd.func10 (by kernel_rfl)
  (of_decide_eq_true (by kernel_rfl)) (by unfold Func.isWrapper;first | (rw [if_pos (by decide +kernel)];kernel_rfl) | (rw [if_neg (by decide +kernel)];exact⟨rfl,rfl⟩))
  (fun os started H enc _=>owners_lifted os started H enc)
theorem owners_card:Rows.TurnOwnersCardSaid :=
 tied_plain_goes .later [] [.funcs,.data] true (true,"13bbfa5877394a3cde13138796d6bb679173f8167c87f9ccc98cd9f3e99a425f") false true
  owners_holds (fun _ h=>by cases h) (by kernel_rfl) (fun _ h=>by cases h) turnOwners_row_tie rfl ⟨rfl,rfl⟩ (by kernel_rfl) rfl
  (fun f fn hf hfn=>by
   obtain rfl:f=10:=Option.some.inj ((show Tryd.prog.funcNamed "crocus/crocuslaw02.TurnOwners" = some 10 by kernel_rfl).symm.trans hf) |>.symm
   obtain rfl:fn=Tryd.f10:=(Option.some.inj (Tryd.func10.symm.trans hfn)).symm
   exact⟨by kernel_rfl,fun j t ht=>by
    rw [Tryd.params10] at ht
    have hm:t∈[31,3,3]:=by simpa using Array.mem_of_getElem? ht
    have hall:([31,3,3].all fun u=>!Tryd.prog.wantsStandIn u)=true:=by kernel_rfl
    exact (show Tryd.prog.wantsStandIn t=false by simpa using List.all_eq_true.1 hall t hm)⟩)
  (by kernel_rfl)
#print axioms owners_card
end Go.Proofs.YtolholkjeehamaaDoor

