/- For every ditch and any 32 bit number the law TurnOne returns true, does not panic, and leaves the ditch as it was. Conditions: the package's variables hold what the program lays in them at its start (the statement's own word: laid), and the ditch is a value as the statement's card tells it. -/
import Derived.Test.YtolholkjeehamaaDoorK1
import Derived.Test.YtolholkjeehamaaDoorC40
import Derived.Test.YtolholkjeehamaaDoorC39
import Derived.Test.YtolholkjeehamaaDoorC34
import Derived.Test.YtolholkjeehamaaDoorC09
set_option linter.all false
set_option maxRecDepth 100000
set_option maxHeartbeats 4000000
namespace Go.Proofs.YtolholkjeehamaaDoor
theorem mine_01 (d:Dit) (holder x:Int):d.mine holder x=0∨d.mine holder x=1:=by
 unfold Dit.mine
 split
 ·exact own_01 ..
 ·exact .inl rfl
theorem Dit.Ok.hours_step {d:Dit} (hO:d.Ok) (holder a:Int) {b:Int} (hb:0≤b):d.hoursW holder a (b+1)=d.hoursW holder a b+d.mine holder b:=by
 rw [hoursW_had,hoursW_had,hO.ran_step hb]
 unfold Dit.mine
 split
 ·rw [hO.had_step (hO.ran_nonneg b)];omega
 ·rw [Int.add_zero];omega
end Go.Proofs.YtolholkjeehamaaDoor
namespace Go.Proofs.YtolholkjeehamaaDoor
open Go.RowKit
def runningF (d:Dit) (a b:Int):Int×Int:=if checkS d≠0 then (0,checkS d) else if stretchS a b≠0 then (0,stretchS a b) else (d.ran b-d.ran a,0)
theorem ran_W {w:World} {B M:Nat} {d:Dit} (hw:Wtr w B M d d.ends d.cyc d.keys d.oth) (hO:d.Ok) {h:Int} (hh : -1000000000000≤h∧h≤1000000000000) :
  CallsIn FL 0 Tryd.prog 78 #[.pointer (some ⟨B,0,none⟩),num h] w fun e w'=>e=.returned (num (d.ran h))∧Nx w w':=ran_any B d h w hw.wat.dit hO.times hh
set_option maxRecDepth 100000 in
set_option maxHeartbeats 4000000 in
theorem running_any (d:Dit) (r:Rows6) (a b:Int) (w:World) (hd:DitSl w d r) (hs:d.Small) (hg:Glob w) :
  CallsIn FL 0 Tryd.prog 42 #[d.val r,num a,num b] w fun e w'=>e=.returned (.tuple #[num (runningF d a b).1,num (runningF d a b).2])∧Nx w w':=by
 obtain⟨W,hW,n0,hWs,cW⟩:=boxed w d r
 have nWW:Nx W W:=Below.refl _ _
 obtain⟨c0,c1,c2,c3,c4,c5,c6,c7,c8,c9,c10,c11,c12,c13⟩:=cells14 (cW _ nWW)
 have fin:∀ {x y:Int},runningF d a b=(x,y)→Ending.returned (.tuple #[num x,num y])=.returned (.tuple #[num (runningF d a b).1,num (runningF d a b).2]):=fun e=>by rw [e]
 by_cases hc:checkS d=0
 ·have hO:=ok_of_check hc
  have k66:=open_any d r W (hd.nx n0) hs (hg.nx n0) hc
  have k77:=fun w1=>stretch_any a b w1
  by_cases hst:stretchS a b=0
  ·have HA:Hid (runningF d a b=(d.ran b-d.ran a,0)):=by show _=_;unfold runningF;rw [if_neg (by simp [hc]),if_neg (by simp [hst])]
   obtain⟨ha,hb,hab⟩:=stretch_ok hst
   rw [hst] at k77
   have hra:=ran_bd2 hO.times hO.roomy (h:=a) (by omega)
   have hrb:=ran_bd2 hO.times hO.roomy (h:=b) (by omega)
   clear hc cW hst
   gi_enter Tryd.func42,Tryd.ntmps42
   gi_wp2_with (first
    | (gi_at_call 66;refine CallsIn.mono k66 ?_;rintro e w1 ⟨B,M,rfl,n1,hB,hw⟩;have HW:=Lib.hid hw;have n2:Nx w1 w1:=Below.refl _ _;have k78:∀ wx h,Nx w1 wx→-1000000000000≤h∧h≤1000000000000→CallsIn FL 0 Tryd.prog 78 #[.pointer (some ⟨B,0,none⟩),num h] wx (fun e w'=>e=.returned (num (d.ran h))∧Nx w1 w'):=fun wx h nx hh=>(ran_W (hw.nx nx) hO hh).mono (fun e w' hx=>⟨hx.1,Nx.trans nx hx.2⟩);clear hw)
    | (gi_at_call 77;refine CallsIn.mono (k77 _) ?_;rintro e w1 ⟨rfl,rfl⟩)
    | (gi_at_call 78;refine CallsIn.mono (k78 _ _ (by assumption) (by omega)) ?_;rintro e w2 ⟨rfl,n2⟩)
    | gi_in)
   go_ret2
   exact⟨fin HA.out,Nx.trans n0 (Nx.trans n1 n2)⟩
  ·have HA:Hid (runningF d a b=(0,stretchS a b)):=by show _=_;unfold runningF;rw [if_neg (by simp [hc]),if_pos hst]
   have hb:(stretchS a b != 0)=true:=by simpa using hst
   clear hc cW hO hst
   gi_enter Tryd.func42,Tryd.ntmps42
   gi_wp2_with (first
    | (gi_at_call 66;refine CallsIn.mono k66 ?_;rintro e w1 ⟨B,M,rfl,n1,hB,hw⟩;clear hw)
    | (gi_at_call 77;refine CallsIn.mono (k77 _) ?_;rintro e w1 ⟨rfl,rfl⟩)
    | gi_in)
   go_ret2
   exact⟨fin HA.out,Nx.trans n0 n1⟩
 ·have k66:=open_bad d r W (hd.nx n0) hs (hg.nx n0) hc
  have HA:Hid (runningF d a b=(0,checkS d)):=by show _=_;unfold runningF;rw [if_pos hc]
  have hb:(checkS d != 0)=true:=by simpa using hc
  have hb2:(checkS d == 0)=false:=by simpa using hc
  clear cW hc
  gi_enter Tryd.func42,Tryd.ntmps42
  gi_wp2_with (first
   | (gi_at_call 66;refine CallsIn.mono k66 ?_;rintro e w1 ⟨rfl,n1⟩)
   | gi_in)
  go_ret2
  exact⟨fin HA.out,Nx.trans n0 n1⟩
end Go.Proofs.YtolholkjeehamaaDoor

namespace Go.Proofs.YtolholkjeehamaaDoor
theorem Dit.Ok.oth_len {d:Dit} (hO:d.Ok) (c:Int):(d.oth c).length=d.turns.length:=by
 by_cases hc:c∈d.keys
 ·rw [hO.chg.len c hc]
 ·rw [oth_us hc];simp [Dit.us]
theorem Dit.Ok.owner_mine {d:Dit} (hO:d.Ok) {k h:Int} (hk:0≤k) (hh:0≤h):(d.owner h).1=k↔d.mine k h=1:=by
 have hs:=hO.ran_step hh
 by_cases hr:d.runs h=true
 ·have hr0:=hO.ran_nonneg h
  have hT:=hO.cyc_pos
  rw [if_pos hr] at hs
  have hq:0≤(d.ran h).tdiv d.cyc:=Int.tdiv_nonneg hr0 (by omega)
  have htl:=hO.turn_lt (d.ran h)
  have hl:=hO.oth_len ((d.ran h).tdiv d.cyc)
  have hw:(if (d.ran h).tdiv d.cyc∈d.keys then d.oth ((d.ran h).tdiv d.cyc) else d.us)=d.oth ((d.ran h).tdiv d.cyc):=by
   split
   ·rfl
   ·rename_i hn;rw [oth_us hn]
  have hat:d.at d.ends d.cyc h=((d.ran h).tdiv d.cyc,(turnS d.ends ((d.ran h).tmod d.cyc) 12 0:Int)):=by unfold Dit.at;rw [if_neg (by omega)]
  unfold Dit.mine Dit.owner Dit.own Dit.has whoS
  rw [if_pos hr,hat]
  simp only []
  rw [if_neg (by omega),hw,Int.toNat_natCast]
  have e1:d.ran h / d.cyc=(d.ran h).tdiv d.cyc:=(Int.tdiv_eq_ediv_of_nonneg hr0).symm
  have e2:d.turn (d.ran h % d.cyc)=turnS d.ends ((d.ran h).tmod d.cyc) 12 0:=by
   unfold Dit.turn;rw [Int.tmod_eq_emod_of_nonneg hr0]
  rw [e1,e2]
  generalize turnS d.ends ((d.ran h).tmod d.cyc) 12 0=t at htl
  generalize d.oth ((d.ran h).tdiv d.cyc)=l at hl
  rw [List.getElem?_eq_getElem (show t<l.length by omega)]
  simp
 ·rw [if_neg hr] at hs
  have hat:d.at d.ends d.cyc h=(-1,-1):=by unfold Dit.at;rw [if_pos (by omega)]
  unfold Dit.mine Dit.owner whoS
  rw [if_neg hr,hat]
  simp
  omega
theorem ask_zero {d:Dit} (hc:checkS d=0) {k a b:Int} (hk:0≤k∧k≤(d.holders.length:Int)-1) (ha:0≤a) (hab:a≤b) (hb:b≤999999999):askS d k a b=0:=by
 unfold askS stretchS
 rw [if_neg (by simp [hc]),if_neg (by simpa using hk)]
 split
 ·omega
 ·split<;>omega
end Go.Proofs.YtolholkjeehamaaDoor

namespace Go.Proofs.YtolholkjeehamaaDoor
theorem all_set {P:Int→Prop} {l:List Int} (h:∀ x∈l,P x) {v:Int} (hv:P v) (i:Nat):∀ x∈l.set i v,P x:=fun x hx=>by
 rcases List.mem_or_eq_of_mem_set hx with h1 | h1
 ·exact h x h1
 ·rw [h1];exact hv
theorem all_getD {P:Int→Prop} {l:List Int} (h:∀ x∈l,P x) (h0:P 0) (i:Nat):P ((l[i]?).getD 0):=by
 rcases hi:l[i]? with _ | x
 ·exact h0
 ·exact h x (List.mem_of_getElem? hi)
theorem all_oth2 {P:Int→Prop} (h0:P 0) (x:Int):∀ (sw:List (Int×Int×Int)) (us:List Int),(∀ v∈us,P v)→∀ v∈oth2 us sw x,P v
 | [],_,h=>h
 | s :: sw,us,h=>by
  show ∀ v∈oth2 (if s.1=x then swapL us s.2.1.toNat s.2.2.toNat else us) sw x,P v
  refine all_oth2 h0 x sw _ ?_
  split
  ·exact all_set (all_set h (all_getD h h0 _) _) (all_getD h h0 _) _
  ·exact h
theorem all_oth3 {P:Int→Prop} (x:Int):∀ (lo:List (Int×Int×Int)) (us:List Int),(∀ s∈lo,P s.2.2)→(∀ v∈us,P v)→∀ v∈oth3 us lo x,P v
 | [],_,_,h=>h
 | s :: lo,us,hl,h=>by
  show ∀ v∈oth3 (if s.1=x then us.set s.2.1.toNat s.2.2 else us) lo x,P v
  refine all_oth3 x lo _ (fun s hs=>hl s (List.mem_cons_of_mem _ hs)) ?_
  split
  ·exact all_set h (hl s (List.mem_cons_self ..)) _
  ·exact h
theorem Dit.Ok.oth_all {d:Dit} (hO:d.Ok) (x:Int):∀ v∈d.oth x,0≤v∧v≤(d.holders.length:Int)-1:=by
 have hu:∀ v∈d.us,0≤v∧v≤(d.holders.length:Int)-1:=fun v hv=>by
  obtain⟨y,hy,rfl⟩:=List.mem_map.1 hv
  exact (hO.th y hy).1
 have h0:0≤(0:Int)∧(0:Int)≤(d.holders.length:Int)-1:=by
  rcases ht:d.turns with _ | ⟨y,l⟩
  ·have:=hO.t12;rw [ht] at this;simp at this
  ·have:=(hO.th y (by rw [ht];exact List.mem_cons_self ..)).1;omega
 exact all_oth3 (P:=fun v=>0≤v∧v≤(d.holders.length:Int)-1) x _ _ (fun s hs=>(hO.lo s hs).2.2) (all_oth2 h0 x _ _ hu)
theorem Dit.Ok.hour {d:Dit} (hO:d.Ok) {h:Int} (hh:0≤h):(d.owner h=(-1,-1,-1)∧d.ran (h+1)=d.ran h) ∨
  (∃ k c t,d.owner h=(k,c,t)∧(0≤k∧k≤(d.holders.length:Int)-1)∧0≤c∧(0≤t∧t<(d.turns.length:Int))∧d.begin_≤h∧d.ran (h+1)=d.ran h+1):=by
 have hs:=hO.ran_step hh
 by_cases hr:d.runs h=true
 ·have hr0:=hO.ran_nonneg h
  have hT:=hO.cyc_pos
  rw [if_pos hr] at hs
  have hq:0≤(d.ran h).tdiv d.cyc:=Int.tdiv_nonneg hr0 (by omega)
  have htl:=hO.turn_lt (d.ran h)
  have hl:=hO.oth_len ((d.ran h).tdiv d.cyc)
  have ha:=hO.oth_all ((d.ran h).tdiv d.cyc)
  have hw:(if (d.ran h).tdiv d.cyc∈d.keys then d.oth ((d.ran h).tdiv d.cyc) else d.us)=d.oth ((d.ran h).tdiv d.cyc):=by
   split
   ·rfl
   ·rename_i hn;rw [oth_us hn]
  have hat:d.at d.ends d.cyc h=((d.ran h).tdiv d.cyc,(turnS d.ends ((d.ran h).tmod d.cyc) 12 0:Int)):=by unfold Dit.at;rw [if_neg (by omega)]
  have hb:d.begin_≤h:=by
   rcases Int.lt_or_le h d.begin_ with hlt | hle
   ·have:=ran_low (d:=d) (h:=h) (by omega)
    have:=ran_low (d:=d) (h:=h+1) (by omega)
    omega
   ·exact hle
  refine .inr ⟨_,_,_,rfl,?_,?_,?_,hb,hs⟩
  ·rw [hat]
   unfold whoS
   simp only []
   rw [if_neg (by omega),hw,Int.toNat_natCast]
   generalize turnS d.ends ((d.ran h).tmod d.cyc) 12 0=t at htl
   generalize d.oth ((d.ran h).tdiv d.cyc)=l at hl ha
   rw [List.getElem?_eq_getElem (show t<l.length by omega)]
   exact ha _ (List.getElem_mem _)
  ·rw [hat];exact hq
  ·rw [hat];exact⟨by simp,by simpa using htl⟩
 ·rw [if_neg hr] at hs
  have hat:d.at d.ends d.cyc h=(-1,-1):=by unfold Dit.at;rw [if_pos (by omega)]
  refine .inl ⟨?_,by omega⟩
  unfold Dit.owner whoS
  rw [hat]
  simp
theorem one_law {d:Dit} (hc:checkS d=0) {a:Int} (ha:0≤a∧a≤999999998) :
  ((ownerF d a=((-1,-1,-1),0)∧runningF d a (a+1)=(0,0)∧∀ i:Nat,i<d.holders.length→hoursF d i a (a+1)=(0,0)∧∃ n f,nextF d i a=(n,f,0)∧(f && n == a)=false) ∨
   ∃ k c t,ownerF d a=((k,c,t),0)∧runningF d a (a+1)=(1,0)∧(0≤k∧k≤(d.holders.length:Int)-1)∧0≤c∧(0≤t∧t<(d.turns.length:Int))∧d.begin_≤a ∧
    ∀ i:Nat,i<d.holders.length→hoursF d i a (a+1)=(if (i:Int)=k then 1 else 0,0)∧∃ n f,nextF d i a=(n,f,0)∧(f && n == a)=decide ((i:Int)=k)):=by
 have hO:=ok_of_check hc
 have own:ownerF d a=(d.owner a,0):=by unfold ownerF;rw [if_neg (by simp [hc]),if_neg (by simp;omega)]
 have run:runningF d a (a+1)=(d.ran (a+1)-d.ran a,0):=by
  have hst:stretchS a (a+1)=0:=by unfold stretchS;rw [if_neg (by omega),if_neg (by omega)]
  unfold runningF;rw [if_neg (by simp [hc]),if_neg (by simp [hst])]
 have hrs:∀ i:Nat,i<d.holders.length→hoursF d i a (a+1)=(d.mine i a,0)∧∃ n f,nextF d i a=(n,f,0)∧(f && n == a)=decide (d.mine i a=1):=fun i hi=>by
  have hs:=hO.hours_step i a (b:=a) ha.1
  rw [hours_self] at hs
  refine⟨by unfold hoursF;rw [if_neg (by simp [ask_zero (d:=d) (k:=i) hc (by omega) ha.1 (show a≤a+1 by omega) (by omega)]),hs,Int.zero_add],?_⟩
  obtain⟨⟨b1,b2⟩,b3,b4⟩:=hO.least i (h:=a) (by omega)
  unfold nextF
  rw [if_neg (by simp [ask_zero (d:=d) (k:=i) hc (by omega) ha.1 (show a≤999999999 by omega) (Int.le_refl _)])]
  by_cases hm:leastH d i a > 999999999
  ·rw [if_pos hm]
   refine⟨_,_,rfl,?_⟩
   have:=b3 a (Int.le_refl _) (by omega)
   simp;omega
  ·rw [if_neg hm]
   refine⟨_,_,rfl,?_⟩
   by_cases e:leastH d i a=a
   ·have:=b4 (by omega)
    rw [e] at this
    have:=mine_01 d i a
    simp [e];omega
   ·have h3:=b3 a (Int.le_refl _) (by omega)
    have h4:¬ d.mine i a=1:=by omega
    rw [decide_eq_false h4]
    show (true && (leastH d i a == a))=false
    rw [Bool.true_and]
    exact beq_false_of_ne e
 have hk:=fun i:Nat=>hO.owner_mine (k:=i) (h:=a) (by omega) ha.1
 rcases hO.hour ha.1 with ⟨e1,e2⟩ | ⟨k,c,t,e1,e2,e3,e4,e5,e6⟩
 ·refine .inl ⟨by rw [own,e1],by rw [run,e2];simp,fun i hi=>?_⟩
  have h1:=hk i
  rw [e1] at h1
  have h0:d.mine i a≠1:=fun e=>by have:=h1.2 e;simp at this
  have h2:=mine_01 d i a
  obtain⟨g1,n,f,g2,g3⟩:=hrs i hi
  exact⟨by rw [g1,show d.mine i a=0 by omega],n,f,g2,by rw [g3];exact decide_eq_false h0⟩
 ·refine .inr ⟨k,c,t,by rw [own,e1],by rw [run,e6,show d.ran a+1-d.ran a=1 by omega],e2,e3,e4,e5,fun i hi=>?_⟩
  have h1:=hk i
  rw [e1] at h1
  have h2:=mine_01 d i a
  obtain⟨g1,n,f,g2,g3⟩:=hrs i hi
  by_cases e:(i:Int)=k
  ·have h3:=h1.1 e.symm
   exact⟨by rw [g1,if_pos e,h3],n,f,g2,by rw [g3,h3];simp [e]⟩
  ·have h3:d.mine i a≠1:=fun h=>e (h1.2 h).symm
   exact⟨by rw [g1,if_neg e,show d.mine i a=0 by omega],n,f,g2,by rw [g3,decide_eq_false h3,decide_eq_false e]⟩
end Go.Proofs.YtolholkjeehamaaDoor

namespace Go.Proofs.YtolholkjeehamaaDoor
open Go.RowKit Go.Con Go.Conc
local instance:Lone:=mainL
noncomputable def bodyO:Code:=match Tryd.f11.body with | some c=>c | none=>.skip
noncomputable def o1:Code:=seqR bodyO
noncomputable def o3:Code:=seqR o1
noncomputable def o4:Code:=seqR o3
noncomputable def o5:Code:=seqR o4
noncomputable def o6:Code:=seqR o5
noncomputable def o8:Code:=seqR o6
noncomputable def o10:Code:=seqR o8
noncomputable def o17:Code:=seqR o10
noncomputable def m0:Code:=seqL bodyO
noncomputable def m1:Code:=seqL (seqL o1)
noncomputable def m2:Code:=match seqR (seqL o1) with | .cond _ x _=>seqL x | c=>c
noncomputable def m3:Code:=seqL o3
noncomputable def m4:Code:=seqL o4
noncomputable def m5:Code:=seqL o5
noncomputable def m6:Code:=seqL o6
noncomputable def m8:Code:=seqL o8
noncomputable def m10:Code:=seqL o10
noncomputable def m17:Code:=seqL o17
theorem bodyO_eq:bodyO=.seq m0 (.seq (.seq m1 (.cond (.tmp 25) (.seq m2 .ret) .skip)) (.seq m3 (.seq m4 (.seq m5 (.seq m6 (.seq m8 (.seq m10 (.seq m17 .ret)))))))):=by kernel_rfl
theorem bodyO_of:Tryd.f11.body=some bodyO:=by kernel_rfl
noncomputable def opo2:Array Oper:=opsOf m2
theorem m2_eq:m2=.region 2 opo2 false:=by kernel_rfl
noncomputable def opo17:Array Oper:=opsOf m17
theorem m17_eq:m17=.region 17 opo17 false:=by kernel_rfl
def OneR (W:World) (t:Array Value) (W2:World):Prop:=Old W W2∧t.size=172
theorem one_still (d:Dit) (r:Rows6) (y a:Int) (W w1:World) (B:Nat) (ah at1:Option Addr) (caph capt:Nat) (HD:Hid (DitSl W d r)) (HG:Hid (Glob W)) (hOw:Old W w1) (hs:d.Small) (hat:0≤a∧a≤999999998)
  (CH:Hid (∀ w2,Old w1 w2→w2.cell? ⟨B,0,none⟩=some (.slice ah d.holders.length caph))) (CT:Hid (∀ w2,Old w1 w2→w2.cell? ⟨B,1,none⟩=some (.slice at1 d.turns.length capt)))
  (CO:Hid (∀ w2,Old w1 w2→∀ i v,(d.cellsA r)[i]?=some v→w2.cell? ⟨B,i,none⟩=some v)) (e1:ownerF d a=((-1,-1,-1),0)) (e2:runningF d a (a+1)=(0,0)) (e3:∀ i:Nat,i<d.holders.length→hoursF d i a (a+1)=(0,0)∧∃ n f,nextF d i a=(n,f,0)∧(f && n == a)=false)
  (u3:World) (oB3:Old w1 u3) (x18 x19 x20 x21 x22 x23 x24 x25 x26 x27 x28 x29:Value) :
  Lones Tryd.prog (FG 11) [m4,m5,m6,m8,m10] (OneR W) #[d.val r,.int .u32 y,.pointer (some ⟨B,0,none⟩),undef,.bool false,num a,undef,undef,undef,undef,undef,undef,undef,undef,undef,undef,undef,undef,x18,x19,x20,x21,x22,x23,x24,x25,x26,x27,x28,x29,undef,undef,undef,undef,undef,undef,undef,undef,undef,undef,undef,undef,undef,undef,undef,undef,undef,undef,undef,undef,undef,undef,undef,undef,undef,undef,undef,undef,undef,undef,undef,undef,undef,undef,undef,undef,undef,undef,undef,undef,undef,undef,undef,undef,undef,undef,undef,undef,undef,undef,undef,undef,undef,undef,undef,undef,undef,undef,undef,undef,undef,undef,undef,undef,undef,undef,undef,undef,undef,undef,undef,undef,undef,undef,undef,undef,undef,undef,undef,undef,undef,undef,undef,undef,undef,undef,undef,undef,undef,undef,undef,undef,undef,undef,undef,undef,undef,undef,undef,undef,undef,undef,undef,undef,undef,undef,undef,undef,undef,undef,undef,undef,undef,undef,undef,undef,undef,undef,undef,undef,undef,undef,undef,undef,undef,undef,undef,undef,undef,undef,undef,undef,undef,undef,undef,undef,undef,undef,undef,undef,undef,undef] u3:=by
 have hlh:=hs.h
 have hlt1:=hs.t
 have KO:=Lib.hid (fun u (o:Old w1 u)=>show CallsIn (FG 11) 0 Tryd.prog 26 #[d.val r,num a] u fun e w'=>e=.returned (.tuple #[num (-1),num (-1),num (-1),num 0])∧Nx u w' by
  have:=toFG 11 (m:=0) (owner_any d r a u (HD.out.old (hOw.trans o)) hs (HG.out.old (hOw.trans o)))
  rw [e1] at this;exact this)
 have KR:=Lib.hid (fun u (o:Old w1 u)=>show CallsIn (FG 11) 0 Tryd.prog 42 #[d.val r,num a,num (a+1)] u fun e w'=>e=.returned (.tuple #[num 0,num 0])∧Nx u w' by
  have:=toFG 11 (m:=0) (running_any d r a (a+1) u (HD.out.old (hOw.trans o)) hs (HG.out.old (hOw.trans o)))
  rw [e2] at this;exact this)
 have KH:=Lib.hid (fun (i:Nat) (hi:i<d.holders.length) u (o:Old w1 u)=>show CallsIn (FG 11) 0 Tryd.prog 21 #[d.val r,num i,num a,num (a+1)] u fun e w'=>e=.returned (.tuple #[num 0,num 0])∧Nx u w' by
  have:=toFG 11 (m:=0) (hoursP_any d r i a (a+1) u (HD.out.old (hOw.trans o)) hs (HG.out.old (hOw.trans o)))
  rw [(e3 i hi).1] at this;exact this)
 have KN:=Lib.hid (fun (i:Nat) (hi:i<d.holders.length)=>show ∃ n f,(f && n == a)=false∧∀ u,Old w1 u→CallsIn (FG 11) 0 Tryd.prog 23 #[d.val r,num i,num a] u fun e w'=>e=.returned (.tuple #[num n,.bool f,num 0])∧Nx u w' by
  obtain⟨n,f,g1,g2⟩:=(e3 i hi).2
  refine⟨n,f,g2,fun u o=>?_⟩
  have:=toFG 11 (m:=0) (next_any d r i a u (HD.out.old (hOw.trans o)) hs (HG.out.old (hOw.trans o)))
  rw [g1] at this;exact this)
 clear e1 e2 e3
 intro τ4
 generalize hq4:({ u3 with tape:=τ4 }:World)=u4
 have oA4:Old w1 u4:=oB3.trans (by rw [← hq4];exact .same rfl)
 clear hq4
 simp only [m4,o1,o3,o4,o5,o6,o8,o10,o17,bodyO,seqL,seqR,Tryd.f11]
 have kk:=KO.out u4 oA4
 obtain⟨c0,c1,c2,c3,c4,c5,c6,c7,c8,c9,c10,c11,c12,c13⟩:=cells14 (CO.out u4 oA4)
 gi_wp2_with (first
  | (gi_at_call 26;refine CallsIn.mono kk ?_;rintro e v4 ⟨rfl,x4⟩)
  | gi_in)
 clear kk c0 c1 c2 c3 c4 c5 c6 c7 c8 c9 c10 c11 c12 c13
 have oB4:Old w1 v4:=oA4.trans (.nx x4)
 intro τ5
 generalize hq5:({ v4 with tape:=τ5 }:World)=u5
 have oA5:Old w1 u5:=oB4.trans (by rw [← hq5];exact .same rfl)
 clear hq5
 simp only [m5,o1,o3,o4,o5,o6,o8,o10,o17,bodyO,seqL,seqR,Tryd.f11]
 have kk:=KR.out u5 oA5
 obtain⟨c0,c1,c2,c3,c4,c5,c6,c7,c8,c9,c10,c11,c12,c13⟩:=cells14 (CO.out u5 oA5)
 gi_wp2_with (first
  | (gi_at_call 42;refine CallsIn.mono kk ?_;rintro e v5 ⟨rfl,x5⟩)
  | gi_in)
 clear kk c0 c1 c2 c3 c4 c5 c6 c7 c8 c9 c10 c11 c12 c13
 have oB5:Old w1 v5:=oA5.trans (.nx x5)
 intro τ6
 generalize hq6:({ v5 with tape:=τ6 }:World)=u6
 have oA6:Old w1 u6:=oB5.trans (by rw [← hq6];exact .same rfl)
 clear hq6
 simp only [m6,o1,o3,o4,o5,o6,o8,o10,o17,bodyO,seqL,seqR,Tryd.f11]
 have c0:=CH.out u6 oA6
 have b1:decide ((d.holders.length:Int)≤-1)=false:=by simp;omega
 gi_wp2
 clear c0 b1
 intro τ8
 generalize hq8:({ u6 with tape:=τ8 }:World)=u8
 have oA8:Old w1 u8:=oA6.trans (by rw [← hq8];exact .same rfl)
 clear hq8
 generalize hmm:(-1:Int)=mm
 simp only [m8,o1,o3,o4,o5,o6,o8,o10,o17,bodyO,seqL,seqR,Tryd.f11]
 have b1:(mm == -1)=true:=by rw [← hmm];rfl
 have b2:(mm != -1)=false:=by rw [← hmm];rfl
 have b4:decide (0≤mm)=false:=by rw [← hmm];rfl
 have HM:=Lib.hid hmm
 clear hmm
 gi_wp2
 any_goals (exact absurd ‹some undef=some (Value.bool _)› (by unfold undef;simp))
 clear b1 b2 b4
 intro τ10
 generalize hq10:({ u8 with tape:=τ10 }:World)=u10
 have oA10:Old w1 u10:=oA8.trans (by rw [← hq10];exact .same rfl)
 clear hq10
 simp only [m10,o1,o3,o4,o5,o6,o8,o10,o17,bodyO,seqL,seqR,Tryd.f11]
 have oA10' : Old w1 u10:=oA10
 have c0:=CH.out u10 oA10
 gi_wp2
 clear c0
 gi_loopw [12] (fun i wr=>∃ k:Nat,k≤d.holders.length∧i=num k∧Nx u10 wr) (fun i _=>d.holders.length-(intOf i).toNat)
 case atStart=>exact⟨0,Nat.zero_le _,rfl,Below.refl _ _⟩
 case round =>
  obtain⟨i,hi,rfl,n2⟩:=hrel
  have oR:Old w1 wr:=oA10.trans (.nx n2)
  by_cases hlt:i<d.holders.length
  ·have kh:=KH.out i hlt wr oR
   obtain⟨n,f,hnf,kN⟩:=KN.out i hlt
   have c0:=CH.out wr oR
   gi_upto_region 13 with fail
   clear c0
   obtain⟨c0,c1,c2,c3,c4,c5,c6,c7,c8,c9,c10,c11,c12,c13⟩:=cells14 (CO.out wr oR)
   have b1:((i:Int) == mm)=false:=by rw [← HM.out];simp
   cases f with
   | false =>
    gi_wp2_with (first
     | (gi_at_call 21;refine CallsIn.mono kh ?_;rintro e w5 ⟨rfl,x5⟩;clear c0 c1 c2 c3 c4 c5 c6 c7 c8 c9 c10 c11 c12 c13;obtain⟨c0,c1,c2,c3,c4,c5,c6,c7,c8,c9,c10,c11,c12,c13⟩:=cells14 (CO.out w5 (oR.trans (.nx x5)));have kn:=kN w5 (oR.trans (.nx x5)))
     | (gi_at_call 23;refine CallsIn.mono kn ?_;rintro e w6 ⟨rfl,x6⟩;clear c0 c1 c2 c3 c4 c5 c6 c7 c8 c9 c10 c11 c12 c13)
     | gi_in)
    exact⟨⟨i+1,hlt,by simp,Nx.trans n2 (Nx.trans x5 x6)⟩,by simp [intOf];omega⟩
   | true =>
    have b2:(n == a)=false:=by simpa using hnf
    gi_wp2_with (first
     | (gi_at_call 21;refine CallsIn.mono kh ?_;rintro e w5 ⟨rfl,x5⟩;clear c0 c1 c2 c3 c4 c5 c6 c7 c8 c9 c10 c11 c12 c13;obtain⟨c0,c1,c2,c3,c4,c5,c6,c7,c8,c9,c10,c11,c12,c13⟩:=cells14 (CO.out w5 (oR.trans (.nx x5)));have kn:=kN w5 (oR.trans (.nx x5)))
     | (gi_at_call 23;refine CallsIn.mono kn ?_;rintro e w6 ⟨rfl,x6⟩;clear c0 c1 c2 c3 c4 c5 c6 c7 c8 c9 c10 c11 c12 c13)
     | gi_in)
    exact⟨⟨i+1,hlt,by simp,Nx.trans n2 (Nx.trans x5 x6)⟩,by simp [intOf];omega⟩
  ·obtain rfl:i=d.holders.length:=by omega
   have c0:=CH.out wr oR
   gi_wp2
   exact (show OneR W _ _ from ⟨hOw.trans oR,rfl⟩)
end Go.Proofs.YtolholkjeehamaaDoor

namespace Go.Proofs.YtolholkjeehamaaDoor
open Go.RowKit Go.Con Go.Conc
local instance:Lone:=mainL
theorem one_runs (d:Dit) (r:Rows6) (y a:Int) (W w1:World) (B:Nat) (ah at1:Option Addr) (caph capt:Nat) (HD:Hid (DitSl W d r)) (HG:Hid (Glob W)) (hOw:Old W w1) (hs:d.Small) (hat:0≤a∧a≤999999998)
  (CH:Hid (∀ w2,Old w1 w2→w2.cell? ⟨B,0,none⟩=some (.slice ah d.holders.length caph))) (CT:Hid (∀ w2,Old w1 w2→w2.cell? ⟨B,1,none⟩=some (.slice at1 d.turns.length capt)))
  (CO:Hid (∀ w2,Old w1 w2→∀ i v,(d.cellsA r)[i]?=some v→w2.cell? ⟨B,i,none⟩=some v)) (k c t:Int) (e1:ownerF d a=((k,c,t),0)) (e2:runningF d a (a+1)=(1,0)) (hk:0≤k∧k≤(d.holders.length:Int)-1) (hcc:0≤c) (ht:0≤t∧t<(d.turns.length:Int)) (hbg:d.begin_≤a) (e3:∀ i:Nat,i<d.holders.length→hoursF d i a (a+1)=(if (i:Int)=k then 1 else 0,0)∧∃ n f,nextF d i a=(n,f,0)∧(f && n == a)=decide ((i:Int)=k))
  (u3:World) (oB3:Old w1 u3) (x18 x19 x20 x21 x22 x23 x24 x25 x26 x27 x28 x29:Value) :
  Lones Tryd.prog (FG 11) [m4,m5,m6,m8,m10] (OneR W) #[d.val r,.int .u32 y,.pointer (some ⟨B,0,none⟩),undef,.bool false,num a,undef,undef,undef,undef,undef,undef,undef,undef,undef,undef,undef,undef,x18,x19,x20,x21,x22,x23,x24,x25,x26,x27,x28,x29,undef,undef,undef,undef,undef,undef,undef,undef,undef,undef,undef,undef,undef,undef,undef,undef,undef,undef,undef,undef,undef,undef,undef,undef,undef,undef,undef,undef,undef,undef,undef,undef,undef,undef,undef,undef,undef,undef,undef,undef,undef,undef,undef,undef,undef,undef,undef,undef,undef,undef,undef,undef,undef,undef,undef,undef,undef,undef,undef,undef,undef,undef,undef,undef,undef,undef,undef,undef,undef,undef,undef,undef,undef,undef,undef,undef,undef,undef,undef,undef,undef,undef,undef,undef,undef,undef,undef,undef,undef,undef,undef,undef,undef,undef,undef,undef,undef,undef,undef,undef,undef,undef,undef,undef,undef,undef,undef,undef,undef,undef,undef,undef,undef,undef,undef,undef,undef,undef,undef,undef,undef,undef,undef,undef,undef,undef,undef,undef,undef,undef,undef,undef,undef,undef,undef,undef,undef,undef,undef,undef,undef,undef] u3:=by
 have hlh:=hs.h
 have hlt1:=hs.t
 have KO:=Lib.hid (fun u (o:Old w1 u)=>show CallsIn (FG 11) 0 Tryd.prog 26 #[d.val r,num a] u fun e w'=>e=.returned (.tuple #[num k,num c,num t,num 0])∧Nx u w' by
  have:=toFG 11 (m:=0) (owner_any d r a u (HD.out.old (hOw.trans o)) hs (HG.out.old (hOw.trans o)))
  rw [e1] at this;exact this)
 have KR:=Lib.hid (fun u (o:Old w1 u)=>show CallsIn (FG 11) 0 Tryd.prog 42 #[d.val r,num a,num (a+1)] u fun e w'=>e=.returned (.tuple #[num 1,num 0])∧Nx u w' by
  have:=toFG 11 (m:=0) (running_any d r a (a+1) u (HD.out.old (hOw.trans o)) hs (HG.out.old (hOw.trans o)))
  rw [e2] at this;exact this)
 have KH:=Lib.hid (fun (i:Nat) (hi:i<d.holders.length) u (o:Old w1 u)=>show CallsIn (FG 11) 0 Tryd.prog 21 #[d.val r,num i,num a,num (a+1)] u fun e w'=>e=.returned (.tuple #[num (if (i:Int)=k then 1 else 0),num 0])∧Nx u w' by
  have:=toFG 11 (m:=0) (hoursP_any d r i a (a+1) u (HD.out.old (hOw.trans o)) hs (HG.out.old (hOw.trans o)))
  rw [(e3 i hi).1] at this;exact this)
 have KN:=Lib.hid (fun (i:Nat) (hi:i<d.holders.length)=>show ∃ n f,(f && n == a)=decide ((i:Int)=k)∧∀ u,Old w1 u→CallsIn (FG 11) 0 Tryd.prog 23 #[d.val r,num i,num a] u fun e w'=>e=.returned (.tuple #[num n,.bool f,num 0])∧Nx u w' by
  obtain⟨n,f,g1,g2⟩:=(e3 i hi).2
  refine⟨n,f,g2,fun u o=>?_⟩
  have:=toFG 11 (m:=0) (next_any d r i a u (HD.out.old (hOw.trans o)) hs (HG.out.old (hOw.trans o)))
  rw [g1] at this;exact this)
 clear e1 e2 e3
 intro τ4
 generalize hq4:({ u3 with tape:=τ4 }:World)=u4
 have oA4:Old w1 u4:=oB3.trans (by rw [← hq4];exact .same rfl)
 clear hq4
 simp only [m4,o1,o3,o4,o5,o6,o8,o10,o17,bodyO,seqL,seqR,Tryd.f11]
 have kk:=KO.out u4 oA4
 obtain⟨c0,c1,c2,c3,c4,c5,c6,c7,c8,c9,c10,c11,c12,c13⟩:=cells14 (CO.out u4 oA4)
 gi_wp2_with (first
  | (gi_at_call 26;refine CallsIn.mono kk ?_;rintro e v4 ⟨rfl,x4⟩)
  | gi_in)
 clear kk c0 c1 c2 c3 c4 c5 c6 c7 c8 c9 c10 c11 c12 c13
 have oB4:Old w1 v4:=oA4.trans (.nx x4)
 intro τ5
 generalize hq5:({ v4 with tape:=τ5 }:World)=u5
 have oA5:Old w1 u5:=oB4.trans (by rw [← hq5];exact .same rfl)
 clear hq5
 simp only [m5,o1,o3,o4,o5,o6,o8,o10,o17,bodyO,seqL,seqR,Tryd.f11]
 have kk:=KR.out u5 oA5
 obtain⟨c0,c1,c2,c3,c4,c5,c6,c7,c8,c9,c10,c11,c12,c13⟩:=cells14 (CO.out u5 oA5)
 gi_wp2_with (first
  | (gi_at_call 42;refine CallsIn.mono kk ?_;rintro e v5 ⟨rfl,x5⟩)
  | gi_in)
 clear kk c0 c1 c2 c3 c4 c5 c6 c7 c8 c9 c10 c11 c12 c13
 have oB5:Old w1 v5:=oA5.trans (.nx x5)
 intro τ6
 generalize hq6:({ v5 with tape:=τ6 }:World)=u6
 have oA6:Old w1 u6:=oB5.trans (by rw [← hq6];exact .same rfl)
 clear hq6
 simp only [m6,o1,o3,o4,o5,o6,o8,o10,o17,bodyO,seqL,seqR,Tryd.f11]
 have c0:=CH.out u6 oA6
 have b1:decide ((d.holders.length:Int)≤k)=false:=by simp;omega
 have b2:decide (k < -1)=false:=by simp;omega
 have b3:(k == -1)=false:=by simp;omega
 gi_wp2
 clear c0 b1 b2
 intro τ8
 generalize hq8:({ u6 with tape:=τ8 }:World)=u8
 have oA8:Old w1 u8:=oA6.trans (by rw [← hq8];exact .same rfl)
 clear hq8
 simp only [m8,o1,o3,o4,o5,o6,o8,o10,o17,bodyO,seqL,seqR,Tryd.f11]
 have c1:=CT.out u8 oA8
 have c2:u8.cell? ⟨B,2,none⟩=some (num d.begin_):=CO.out u8 oA8 2 _ rfl
 have b4:decide (0≤k)=true:=by simp;omega
 have b5:decide (c<0)=false:=by simp;omega
 have b6:decide (t<0)=false:=by simp;omega
 have b7:decide ((d.turns.length:Int)≤t)=false:=by simp;omega
 have b8:decide (a<d.begin_)=false:=by simp;omega
 gi_wp2
 clear c1 c2 b3 b4 b5 b6 b7 b8
 intro τ10
 generalize hq10:({ u8 with tape:=τ10 }:World)=u10
 have oA10:Old w1 u10:=oA8.trans (by rw [← hq10];exact .same rfl)
 clear hq10
 simp only [m10,o1,o3,o4,o5,o6,o8,o10,o17,bodyO,seqL,seqR,Tryd.f11]
 have oA10' : Old w1 u10:=oA10
 have c0:=CH.out u10 oA10
 gi_wp2
 clear c0
 gi_loopw [12] (fun i wr=>∃ k:Nat,k≤d.holders.length∧i=num k∧Nx u10 wr) (fun i _=>d.holders.length-(intOf i).toNat)
 case atStart=>exact⟨0,Nat.zero_le _,rfl,Below.refl _ _⟩
 case round =>
  obtain⟨i,hi,rfl,n2⟩:=hrel
  have oR:Old w1 wr:=oA10.trans (.nx n2)
  by_cases hlt:i<d.holders.length
  ·have kh:=KH.out i hlt wr oR
   obtain⟨n,f,hnf,kN⟩:=KN.out i hlt
   have c0:=CH.out wr oR
   gi_upto_region 13 with fail
   clear c0
   obtain⟨c0,c1,c2,c3,c4,c5,c6,c7,c8,c9,c10,c11,c12,c13⟩:=cells14 (CO.out wr oR)
   by_cases hik:(i:Int)=k
   ·rw [if_pos hik] at kh
    rw [decide_eq_true hik] at hnf
    subst hik
    obtain⟨rfl,hna⟩:=Bool.and_eq_true_iff.1 hnf
    gi_wp2_with (first
     | (gi_at_call 21;refine CallsIn.mono kh ?_;rintro e w5 ⟨rfl,x5⟩;clear c0 c1 c2 c3 c4 c5 c6 c7 c8 c9 c10 c11 c12 c13;obtain⟨c0,c1,c2,c3,c4,c5,c6,c7,c8,c9,c10,c11,c12,c13⟩:=cells14 (CO.out w5 (oR.trans (.nx x5)));have kn:=kN w5 (oR.trans (.nx x5)))
     | (gi_at_call 23;refine CallsIn.mono kn ?_;rintro e w6 ⟨rfl,x6⟩;clear c0 c1 c2 c3 c4 c5 c6 c7 c8 c9 c10 c11 c12 c13)
     | gi_in)
    exact⟨⟨i+1,hlt,by simp,Nx.trans n2 (Nx.trans x5 x6)⟩,by simp [intOf];omega⟩
   ·rw [if_neg hik] at kh
    rw [decide_eq_false hik] at hnf
    have b1:((i:Int) == k)=false:=beq_false_of_ne hik
    cases f with
    | false =>
     gi_wp2_with (first
      | (gi_at_call 21;refine CallsIn.mono kh ?_;rintro e w5 ⟨rfl,x5⟩;clear c0 c1 c2 c3 c4 c5 c6 c7 c8 c9 c10 c11 c12 c13;obtain⟨c0,c1,c2,c3,c4,c5,c6,c7,c8,c9,c10,c11,c12,c13⟩:=cells14 (CO.out w5 (oR.trans (.nx x5)));have kn:=kN w5 (oR.trans (.nx x5)))
      | (gi_at_call 23;refine CallsIn.mono kn ?_;rintro e w6 ⟨rfl,x6⟩;clear c0 c1 c2 c3 c4 c5 c6 c7 c8 c9 c10 c11 c12 c13)
      | gi_in)
     exact⟨⟨i+1,hlt,by simp,Nx.trans n2 (Nx.trans x5 x6)⟩,by simp [intOf];omega⟩
    | true =>
     have b2:(n == a)=false:=by simpa using hnf
     gi_wp2_with (first
      | (gi_at_call 21;refine CallsIn.mono kh ?_;rintro e w5 ⟨rfl,x5⟩;clear c0 c1 c2 c3 c4 c5 c6 c7 c8 c9 c10 c11 c12 c13;obtain⟨c0,c1,c2,c3,c4,c5,c6,c7,c8,c9,c10,c11,c12,c13⟩:=cells14 (CO.out w5 (oR.trans (.nx x5)));have kn:=kN w5 (oR.trans (.nx x5)))
      | (gi_at_call 23;refine CallsIn.mono kn ?_;rintro e w6 ⟨rfl,x6⟩;clear c0 c1 c2 c3 c4 c5 c6 c7 c8 c9 c10 c11 c12 c13)
      | gi_in)
     exact⟨⟨i+1,hlt,by simp,Nx.trans n2 (Nx.trans x5 x6)⟩,by simp [intOf];omega⟩
  ·obtain rfl:i=d.holders.length:=by omega
   have c0:=CH.out wr oR
   gi_wp2
   exact (show OneR W _ _ from ⟨hOw.trans oR,rfl⟩)
end Go.Proofs.YtolholkjeehamaaDoor

namespace Go.Proofs.YtolholkjeehamaaDoor
open Go.RowKit Go.Con Go.Conc
local instance:Lone:=mainL
theorem one_lone (d:Dit) (r:Rows6) (y:Int) (W:World) (hd:DitSl W d r) (hb:d.Big) (hg:Glob W) (hy:0≤y∧y≤4294967295) :
  Lones Tryd.prog (FG 11) [m0,m1] (fun t W1=>Old W W1∧t.size=172∧(t[25]?=some (.bool true)∨(t[25]?=some (.bool false) ∧
   Lones Tryd.prog (FG 11) [m3,m4,m5,m6,m8,m10] (OneR W) t W1)))
   #[d.val r,.int .u32 y,undef,undef,undef,undef,undef,undef,undef,undef,undef,undef,undef,undef,undef,undef,undef,undef,undef,undef,undef,undef,undef,undef,undef,undef,undef,undef,undef,undef,undef,undef,undef,undef,undef,undef,undef,undef,undef,undef,undef,undef,undef,undef,undef,undef,undef,undef,undef,undef,undef,undef,undef,undef,undef,undef,undef,undef,undef,undef,undef,undef,undef,undef,undef,undef,undef,undef,undef,undef,undef,undef,undef,undef,undef,undef,undef,undef,undef,undef,undef,undef,undef,undef,undef,undef,undef,undef,undef,undef,undef,undef,undef,undef,undef,undef,undef,undef,undef,undef,undef,undef,undef,undef,undef,undef,undef,undef,undef,undef,undef,undef,undef,undef,undef,undef,undef,undef,undef,undef,undef,undef,undef,undef,undef,undef,undef,undef,undef,undef,undef,undef,undef,undef,undef,undef,undef,undef,undef,undef,undef,undef,undef,undef,undef,undef,undef,undef,undef,undef,undef,undef,undef,undef,undef,undef,undef,undef,undef,undef,undef,undef,undef,undef,undef,undef,undef,undef,undef,undef,undef,undef] W:=by
 intro τ
 generalize hw0:({ W with tape:=τ }:World)=w0
 have hO0:Old W w0:=by rw [← hw0];exact .same rfl
 clear hw0
 have hd0:=hd.old hO0
 obtain⟨V,hV,nV,hVs,cV⟩:=boxed w0 d r
 have nVV:Nx V V:=Below.refl _ _
 simp only [m0,bodyO,seqL,seqR,Tryd.f11]
 gi_wp2
 intro τ1
 generalize hw1:({ V with tape:=τ1 }:World)=w1
 have hO1:Old V w1:=by rw [← hw1];exact .same rfl
 have hOw:Old W w1:=hO0.trans ((Old.nx nV).trans hO1)
 have cO:∀ w2,Old w1 w2→∀ i v,(d.cellsA r)[i]?=some v→w2.cell? ⟨w0.heap.size,i,none⟩=some v:=fun w2 o i v h=>((hO1.trans o).cell ⟨w0.heap.size,i,none⟩ (by show w0.heap.size<_;omega)).trans (cV _ nVV i v h)
 clear hw1
 simp only [m1,o1,o3,o4,o5,o6,o8,o10,o17,bodyO,seqL,seqR,Tryd.f11]
 have k19:=toFG 11 (m:=0) (great_big d r 0 0 (.slice none 0 0) [] w1 (hd.old hOw) hb ⟨0,.inl ⟨rfl,rfl⟩⟩ (Nat.zero_le _))
 obtain⟨ah,caph,eh⟩:=hd.holders.cases
 obtain⟨at1,capt,et⟩:=hd.turns.cases
 rw [List.length_map] at eh et
 obtain⟨c0,c1,c2,c3,c4,c5,c6,c7,c8,c9,c10,c11,c12,c13⟩:=cells14 (cO w1 (Old.refl _))
 have CH:=Lib.hid (show ∀ w2,Old w1 w2→w2.cell? ⟨w0.heap.size,0,none⟩=some (.slice ah d.holders.length caph) from fun w2 o=>(cO w2 o 0 r.h rfl).trans (by rw [eh]))
 have CT:=Lib.hid (show ∀ w2,Old w1 w2→w2.cell? ⟨w0.heap.size,1,none⟩=some (.slice at1 d.turns.length capt) from fun w2 o=>(cO w2 o 1 r.t rfl).trans (by rw [et]))
 have CO:=Lib.hid cO
 have HD:=Lib.hid hd
 have HG:=Lib.hid hg
 have HB:=Lib.hid hb
 clear cO cV hd hg hb hd0 hV nV eh et
 cases hgr:greatS d 0 with
 | true =>
  rw [show ([]:List (List Value)).length=0 from rfl,hgr] at k19
  gi_wp2_with (first
   | (gi_at_call 19;refine CallsIn.mono k19 ?_;rintro e w2 ⟨rfl,x2⟩)
   | gi_in)
  exact⟨hOw.trans (.nx x2),rfl,.inl rfl⟩
 | false =>
 rw [show ([]:List (List Value)).length=0 from rfl,hgr] at k19
 have hs:=small_of_great hgr
 have k25:=fun w2 (o:Old w1 w2)=>toFG 11 (m:=0) (check25_any d r w2 (HD.out.old (hOw.trans o)) hs)
 clear hgr
 rcases (Decidable.em (checkS d=0)).symm with hc | hc
 ·have b1:(checkS d != 0)=true:=by simpa using hc
  gi_wp2_with (first
   | (gi_at_call 19;refine CallsIn.mono k19 ?_;rintro e w2 ⟨rfl,x2⟩;clear c0 c1 c2 c3 c4 c5 c6 c7 c8 c9 c10 c11 c12 c13;obtain⟨c0,c1,c2,c3,c4,c5,c6,c7,c8,c9,c10,c11,c12,c13⟩:=cells14 (CO.out w2 (.nx x2));have kk:=k25 w2 (.nx x2))
   | (gi_at_call 25;refine CallsIn.mono kk ?_;rintro e w3 ⟨rfl,x3⟩)
   | gi_in)
  exact⟨hOw.trans (.trans (.nx x2) (.nx x3)),rfl,.inl rfl⟩
 have HC:=Lib.hid hc
 rw [hc] at k25
 clear hc
 gi_wp2_with (first
  | (gi_at_call 19;refine CallsIn.mono k19 ?_;rintro e w2 ⟨rfl,x2⟩;clear c0 c1 c2 c3 c4 c5 c6 c7 c8 c9 c10 c11 c12 c13;obtain⟨c0,c1,c2,c3,c4,c5,c6,c7,c8,c9,c10,c11,c12,c13⟩:=cells14 (CO.out w2 (.nx x2));have kk:=k25 w2 (.nx x2))
  | (gi_at_call 25;refine CallsIn.mono kk ?_;rintro e w3 ⟨rfl,x3⟩;clear c0 c1 c2 c3 c4 c5 c6 c7 c8 c9 c10 c11 c12 c13)
  | gi_in)
 have hO2:Old w1 w3:=.trans (.nx x2) (.nx x3)
 refine⟨hOw.trans hO2,rfl,.inr ⟨rfl,?_⟩⟩
 clear k19 k25 kk
 have hO1o:Old w1 w3:=hO2
 intro τ3
 generalize hq3:({ w3 with tape:=τ3 }:World)=u3
 have oA3:Old w1 u3:=hO1o.trans (by rw [← hq3];exact .same rfl)
 clear hq3
 simp only [m3,o1,o3,o4,o5,o6,o8,o10,o17,bodyO,seqL,seqR,Tryd.f11]
 gi_wp2
 have hat:0≤y % 999999999∧y % 999999999≤999999998:=by omega
 generalize y % 999999999=a at hat ⊢
 have oB3:Old w1 u3:=oA3
 have hlh:=hs.h
 have hlt1:=hs.t
 clear hy
 rcases one_law HC.out hat with ⟨e1,e2,e3⟩ | ⟨k,c,t,e1,e2,hk,hcc,ht,hbg,e3⟩
 ·exact one_still d r y a W w1 w0.heap.size ah at1 caph capt HD HG hOw hs hat CH CT CO e1 e2 e3 u3 oB3 _ _ _ _ _ _ _ _ _ _ _ _
 ·exact one_runs d r y a W w1 w0.heap.size ah at1 caph capt HD HG hOw hs hat CH CT CO k c t e1 e2 hk hcc ht hbg e3 u3 oB3 _ _ _ _ _ _ _ _ _ _ _ _
end Go.Proofs.YtolholkjeehamaaDoor

namespace Go.Proofs.YtolholkjeehamaaDoor
open Go.RowKit Go.Con Go.Conc
local instance:Lone:=mainL
theorem results11 (v:Value) (t:Array Value) (h:t[4]?=some v) (σ:Rn):ResultsC Tryd.prog Tryd.f11 (t.map (ren σ)) (ren σ v):=by
 have:=resultsC_tmp (P:=Tryd.prog) (fn:=Tryd.f11) (t:=4) rfl (t.map (ren σ))
 simp only [Array.getD_eq_getD_getElem?,Array.getElem?_map,h,Option.map_some,Option.getD_some] at this
 exact this
theorem one_go (E Fz Arg:Nat→Prop) (W0:World) (hArg:∀ x,Arg x↔x<W0.heap.size) (Post:Value→World→Prop) (φ:Ph) (d:Dit) (r:Rows6) (y:Int) (W:World) (hd:DitSl W d r) (hb:d.Big) (hg:Glob W) (hy:0≤y∧y≤4294967295)
  (hPost:∀ Fz1 ρ D own A fr W1 W',Here Tryd.prog true E Fz1 Arg W0 ρ D own A fr [] W1 W'→Post (ren ρ (.bool true)) W') :
  GoM Tryd.prog true E Fz Arg W0 (AtEnd Tryd.prog Post) φ [] (Fr 11 #[d.val r,.int .u32 y,undef,undef,undef,undef,undef,undef,undef,undef,undef,undef,undef,undef,undef,undef,undef,undef,undef,undef,undef,undef,undef,undef,undef,undef,undef,undef,undef,undef,undef,undef,undef,undef,undef,undef,undef,undef,undef,undef,undef,undef,undef,undef,undef,undef,undef,undef,undef,undef,undef,undef,undef,undef,undef,undef,undef,undef,undef,undef,undef,undef,undef,undef,undef,undef,undef,undef,undef,undef,undef,undef,undef,undef,undef,undef,undef,undef,undef,undef,undef,undef,undef,undef,undef,undef,undef,undef,undef,undef,undef,undef,undef,undef,undef,undef,undef,undef,undef,undef,undef,undef,undef,undef,undef,undef,undef,undef,undef,undef,undef,undef,undef,undef,undef,undef,undef,undef,undef,undef,undef,undef,undef,undef,undef,undef,undef,undef,undef,undef,undef,undef,undef,undef,undef,undef,undef,undef,undef,undef,undef,undef,undef,undef,undef,undef,undef,undef,undef,undef,undef,undef,undef,undef,undef,undef,undef,undef,undef,undef,undef,undef,undef,undef,undef,undef,undef,undef,undef,undef,undef,undef] [.code bodyO]) [] W:=by
 have hgood:goodFn Tryd.prog (.func 11)=false:=by kernel_rfl
 have hL:=one_lone d r y W hd hb hg hy
 rw [bodyO_eq]
 refine Gm.seq ?_
 refine Gm.lone (F:=FG 11) _ rfl rfl rfl (List.mem_cons_self ..) (FG_ok 11 hgood) (by kernel_rfl) (by kernel_rfl) hL ?_
 intro t0 V0 hL
 refine Gm.seq (Gm.seq ?_)
 refine Gm.lone (F:=FG 11) _ rfl rfl rfl (List.mem_cons_self ..) (FG_ok 11 hgood) (by kernel_rfl) (by kernel_rfl) hL ?_
 rintro t W1 ⟨hO1,hs,h25 | ⟨h25,hL⟩⟩
 ·refine Gm.cond (b:=true) (eval_tmp h25) rfl ?_
  refine Gm.seq ?_
  rw [m2_eq]
  refine Gm.region ?_
  rw [show List.range opo2.size=[0,1] by kernel_rfl]
  refine Gm.enter (o:=⟨some 26,.call { callee:=.value (.func 20),args:=#[],argTypes:=#[] },_,_,_,none⟩) (c:={ callee:=.value (.func 20),args:=#[],argTypes:=#[] }) rfl rfl rfl rfl (by kernel_rfl) Tryd.func20 body20_of (by kernel_rfl) ?_
  rw [fr20]
  refine flows_go E _ Arg W0 hArg _ _ _ _ _ (hg.old hO1) ?_
  intro WL FzL φL hOL
  rw [Fr_finish (o:=⟨some 26,.call { callee:=.value (.func 20),args:=#[],argTypes:=#[] },_,_,_,none⟩) rfl]
  refine Gm.op (o:=⟨some 4,.assign (.tmp 26),_,_,_,none⟩) (.bool true) WL rfl rfl (by kernel_rfl) rfl (asg_run _ (eval_tmp (by simp only [putD_get,putD_same,putD_size,hs,ne_eq,Nat.reduceEqDiff,not_false_eq_true,Nat.reduceLT]))) id ?_
  refine Gm.regionEnd ?_
  refine Gm.done Tryd.func11 (by kernel_rfl) (results11 (.bool true) _ (by simp only [putD_get,putD_same,putD_size,hs,ne_eq,Nat.reduceEqDiff,not_false_eq_true,Nat.reduceLT])) ?_
  exact fun ρ D own A fr W' h=>hPost _ ρ D own A fr _ W' h
 ·refine Gm.cond (b:=false) (eval_tmp h25) rfl ?_
  refine Gm.skip (Gm.seq ?_)
  refine Gm.lone (F:=FG 11) _ rfl rfl rfl (List.mem_cons_self ..) (FG_ok 11 hgood) (by kernel_rfl) (by kernel_rfl) hL ?_
  clear hL
  intro t3 V3 hL
  refine Gm.seq ?_
  refine Gm.lone (F:=FG 11) _ rfl rfl rfl (List.mem_cons_self ..) (FG_ok 11 hgood) (by kernel_rfl) (by kernel_rfl) hL ?_
  clear hL
  intro t4 V4 hL
  refine Gm.seq ?_
  refine Gm.lone (F:=FG 11) _ rfl rfl rfl (List.mem_cons_self ..) (FG_ok 11 hgood) (by kernel_rfl) (by kernel_rfl) hL ?_
  clear hL
  intro t5 V5 hL
  refine Gm.seq ?_
  refine Gm.lone (F:=FG 11) _ rfl rfl rfl (List.mem_cons_self ..) (FG_ok 11 hgood) (by kernel_rfl) (by kernel_rfl) hL ?_
  clear hL
  intro t6 V6 hL
  refine Gm.seq ?_
  refine Gm.lone (F:=FG 11) _ rfl rfl rfl (List.mem_cons_self ..) (FG_ok 11 hgood) (by kernel_rfl) (by kernel_rfl) hL ?_
  clear hL
  intro t8 V8 hL
  refine Gm.seq ?_
  refine Gm.lone (F:=FG 11) _ rfl rfl rfl (List.mem_cons_self ..) (FG_ok 11 hgood) (by kernel_rfl) (by kernel_rfl) hL ?_
  clear hL hs h25 hO1
  rintro t W2 ⟨hO2,hs⟩
  refine Gm.seq ?_
  rw [m17_eq]
  refine Gm.region ?_
  rw [show List.range opo17.size=[0,1] by kernel_rfl]
  refine Gm.enter (o:=⟨some 171,.call { callee:=.value (.func 20),args:=#[],argTypes:=#[] },_,_,_,none⟩) (c:={ callee:=.value (.func 20),args:=#[],argTypes:=#[] }) rfl rfl rfl rfl (by kernel_rfl) Tryd.func20 body20_of (by kernel_rfl) ?_
  rw [fr20]
  refine flows_go E _ Arg W0 hArg _ _ _ _ _ (hg.old hO2) ?_
  intro WL FzL φL hOL
  rw [Fr_finish (o:=⟨some 171,.call { callee:=.value (.func 20),args:=#[],argTypes:=#[] },_,_,_,none⟩) rfl]
  refine Gm.op (o:=⟨some 4,.assign (.tmp 171),_,_,_,none⟩) (.bool true) WL rfl rfl (by kernel_rfl) rfl (asg_run _ (eval_tmp (by simp only [putD_get,putD_same,putD_size,hs,ne_eq,Nat.reduceEqDiff,not_false_eq_true,Nat.reduceLT]))) id ?_
  refine Gm.regionEnd ?_
  refine Gm.done Tryd.func11 (by kernel_rfl) (results11 (.bool true) _ (by simp only [putD_get,putD_same,putD_size,hs,ne_eq,Nat.reduceEqDiff,not_false_eq_true,Nat.reduceLT])) ?_
  exact fun ρ D own A fr W' h=>hPost _ ρ D own A fr _ W' h
end Go.Proofs.YtolholkjeehamaaDoor

namespace Go.Proofs.YtolholkjeehamaaDoor
open Go.RowKit Go.Con Go.Conc Go.ChangeShapes Go.WideShapes Go.ChangeAt
local instance:Lone:=mainL
theorem fr11 (a b:Value):#[a,b]++Array.replicate (Tryd.f11.ntmps-(#[a,b]:Array Value).size) undef=#[a,b,undef,undef,undef,undef,undef,undef,undef,undef,undef,undef,undef,undef,undef,undef,undef,undef,undef,undef,undef,undef,undef,undef,undef,undef,undef,undef,undef,undef,undef,undef,undef,undef,undef,undef,undef,undef,undef,undef,undef,undef,undef,undef,undef,undef,undef,undef,undef,undef,undef,undef,undef,undef,undef,undef,undef,undef,undef,undef,undef,undef,undef,undef,undef,undef,undef,undef,undef,undef,undef,undef,undef,undef,undef,undef,undef,undef,undef,undef,undef,undef,undef,undef,undef,undef,undef,undef,undef,undef,undef,undef,undef,undef,undef,undef,undef,undef,undef,undef,undef,undef,undef,undef,undef,undef,undef,undef,undef,undef,undef,undef,undef,undef,undef,undef,undef,undef,undef,undef,undef,undef,undef,undef,undef,undef,undef,undef,undef,undef,undef,undef,undef,undef,undef,undef,undef,undef,undef,undef,undef,undef,undef,undef,undef,undef,undef,undef,undef,undef,undef,undef,undef,undef,undef,undef,undef,undef,undef,undef,undef,undef,undef,undef,undef,undef,undef,undef,undef,undef,undef,undef]:=by
 simp only [Tryd.ntmps11,List.size_toArray,List.length_cons,List.length_nil,Nat.reduceAdd,Nat.reduceSub,Array.replicate_succ,Array.replicate_zero,List.push_toArray,List.append_toArray,List.nil_append,List.cons_append]
theorem one_fin (d:Dit) (r:Rows6) (y:Int) (W:World) (hd:DitSl W d r) (hb:d.Big) (hg:Glob W) (hy:0≤y∧y≤4294967295) :
  Con.Fin Tryd.prog (fun u W'=>u=.bool true∧Con.Left W W') (solo (G (Frame.enter Tryd.prog 11 #[d.val r,.int .u32 y] .normal) []) W) #[]:=by
 refine law_fin Tryd.func11 bodyO_of hg (fun v hv=>?_) fun c Post hPost=>?_
 ·simp only [List.mem_cons,List.not_mem_nil,or_false] at hv
  rcases hv with rfl | rfl
  ·exact hd.same
  ·exact⟨fun c=>by simp [ren],by simp [ren]⟩
 ·rw [fr11]
  exact one_go _ _ _ _ (fun _=>Iff.rfl) Post _ d r y _ hd.entry hb hg.entry hy hPost
theorem one_lifted (os:Os) (started:os.Started) (H:Type) (enc:TypeId×Value→H) :
  ReturnsInLeavingWide {} Tryd.checked os 11 .any (fun w args=>(Rows.turnOneSpec.pre enc Tryd.prog Tryd.f11 [] false w args∧laidMetH Tryd.prog laid2 w)∧sizedMet enc Tryd.prog Tryd.f11 (OpenSpec.ofChange Rows.turnOneSpec) false w args)
   (Rows.turnOneSpec.post enc Tryd.prog Tryd.f11 false true false false):=by
 refine returnsInLeavingWide_and (C:=Tryd.checked) (X:=fun w _=>laidMetH Tryd.prog laid2 w) (fun _ _ _ hh h=>h.of_heap hh) own_knob started Tryd.func11
  (ChangeSpec.witness_shaped (enc:=enc) (C:=Tryd.checked) (os:=os) (X:=fun w _=>laidMetH Tryd.prog laid2 w) false (World.doorLaid Tryd.prog 600 os)
   #[.agg #[.slice none 0 0,.slice none 0 0,.int .i64 0,.int .i64 0,.int .i64 0,.int .i64 0,.slice none 0 0,.slice none 0 0,.slice none 0 0,.int .i64 0,.int .i64 0,.int .i64 0,.int .i64 0,.slice none 0 0],.int .u32 0] 8 rfl (World.shaped_of_RefB (by kernel_rfl) (by kernel_rfl)) (by kernel_rfl) (by kernel_rfl) (by kernel_rfl) (door_met os _)) ?_
 intro W base args ds gs before hval0 hW _ hsz hL
 have hval:∀ (j:Nat) t v,Tryd.f11.params[j]?=some t→args[j]?=some v→Value.okWide Tryd.prog W .any base t v:=hval0
 have hW':=hW
 obtain⟨p,q,hA0,hV,rfl,hfz,hnd⟩:=hW
 have hA:DataW.TrodAll enc Tryd.prog W 0 (fun _=>true) true Tryd.f11.params.toList args.toList ds p:=hA0
 rw [Tryd.params11] at hA hval
 obtain⟨v0,v2,d0,d2,p0,p2,rfl,rfl,rfl,h0,h2⟩:=trodAll_two hA
 obtain⟨rfl,rfl⟩:=trodVars_none hV
 obtain⟨x2,rfl,rfl,rfl,w2⟩:=open_int Tryd.underlying43 (hval 1 43 v2 rfl rfl) h2
 have hy:0≤x2∧x2≤4294967295:=by
  have h:=w2
  simp only [Lit.wf,Bool.and_eq_true,decide_eq_true_eq] at h
  exact h
 have hfit:Fits 31 d0:=fun n hn=>by
  have:=List.all_eq_true.1 hsz n (DataW.weights_mem_each (P:=Tryd.prog) (j:=0) (t:=31) (d:=d0) (by rw [show Tryd.checked.prog=Tryd.prog from rfl,Tryd.params11];rfl) rfl n hn)
  simpa using this
 obtain⟨d,r,rfl,hd,hb⟩:=dit_open (hval 0 31 v0 rfl rfl) h0 hfit
 clear hA0 hval0
 simp only [List.append_nil] at hW'
 have hlt:∀ x∈p0++[],x.block<W.heap.size:=fun x hx=>by
  have:=hW'.lt x (by simpa using hx)
  simpa using this
 refine fin_post (one_fin d r x2 W hd hb (of_laid hL) hy) fun W' hl=>?_
 have ha:=trodAll_mk2 (left_trod (by kernel_rfl) (of_decide_eq_true (by kernel_rfl)) h0 hl fun x hx=>hlt x (by simpa using hx)) (shut_int Tryd.underlying43 w2)
 exact⟨[d0,.lit (.int .u32 x2)],[],p0,[],_,[],hW',trodAll_mk1 (shut_bool Tryd.underlying4 _),ha,rfl,left_kept hl _,fun h=>by cases h⟩
theorem one_holds:Rows.TurnOneSaid :=
 OpenClaim.holds_of_wide_leaving 11 Tryd.f11 rfl rfl rfl rfl rfl rfl rfl ⟨rfl,rfl,rfl,rfl,rfl⟩ rfl rfl rfl rfl rfl (by kernel_rfl) Tryd.func11 (by kernel_rfl)
  (of_decide_eq_true (by kernel_rfl)) (by unfold Func.isWrapper;first | (rw [if_pos (by decide +kernel)];kernel_rfl) | (rw [if_neg (by decide +kernel)];exact⟨rfl,rfl⟩))
  (fun os started H enc _=>one_lifted os started H enc)
theorem one_card:Rows.TurnOneCardSaid :=
 tied_plain_goes .later [] [.funcs,.data] true (true,"13bbfa5877394a3cde13138796d6bb679173f8167c87f9ccc98cd9f3e99a425f") false true
  one_holds (fun _ h=>by cases h) (by kernel_rfl) (fun _ h=>by cases h) turnOne_row_tie rfl ⟨rfl,rfl⟩ (by kernel_rfl) rfl
  (fun f fn hf hfn=>by
   obtain rfl:f=11:=Option.some.inj ((show Tryd.prog.funcNamed "crocus/crocuslaw02.TurnOne" = some 11 by kernel_rfl).symm.trans hf) |>.symm
   obtain rfl:fn=Tryd.f11:=(Option.some.inj (Tryd.func11.symm.trans hfn)).symm
   exact⟨by kernel_rfl,fun j t ht=>by
    rw [Tryd.params11] at ht
    have hm:t∈[31,43]:=by simpa using Array.mem_of_getElem? ht
    have hall:([31,43].all fun u=>!Tryd.prog.wantsStandIn u)=true:=by kernel_rfl
    exact (show Tryd.prog.wantsStandIn t=false by simpa using List.all_eq_true.1 hall t hm)⟩)
  (by kernel_rfl)
#print axioms one_card
end Go.Proofs.YtolholkjeehamaaDoor

