/- For every ditch and any two 16 bit numbers the law TurnShares returns true, does not panic, and leaves the ditch as it was. Conditions: the package's variables hold what the program lays in them at its start (the statement's own word: laid), and the ditch is a value as the statement's card tells it. -/
import Derived.Test.YtolholkjeehamaaDoorK1
import Derived.Test.YtolholkjeehamaaDoorC40
import Derived.Test.YtolholkjeehamaaDoorC39
import Derived.Test.YtolholkjeehamaaDoorC34
import Derived.Test.YtolholkjeehamaaDoorC09
set_option linter.all false
set_option maxRecDepth 100000
set_option maxHeartbeats 4000000
namespace Go.Proofs.YtolholkjeehamaaDoor
end Go.Proofs.YtolholkjeehamaaDoor
namespace Go.Proofs.YtolholkjeehamaaDoor
open Go.RowKit
def runningF (d:Dit) (a b:Int):Int×Int:=if checkS d≠0 then (0,checkS d) else if stretchS a b≠0 then (0,stretchS a b) else (d.ran b-d.ran a,0)
theorem ran_W {w:World} {B M:Nat} {d:Dit} (hw:Wtr w B M d d.ends d.cyc d.keys d.oth) (hO:d.Ok) {h:Int} (hh : -1000000000000≤h∧h≤1000000000000) :
  CallsIn FL 0 Tryd.prog 78 #[.pointer (some ⟨B,0,none⟩),num h] w fun e w'=>e=.returned (num (d.ran h))∧Nx w w':=ran_any B d h w hw.wat.dit hO.times hh
set_option maxRecDepth 100000 in
set_option maxHeartbeats 4000000 in
theorem running_any (d:Dit) (r:Rows6) (a b:Int) (w:World) (hd:DitSl w d r) (hs:d.Small) (hg:Glob w) :
  CallsIn FL 0 Tryd.prog 42 #[d.val r,num a,num b] w fun e w'=>e=.returned (.tuple #[num (runningF d a b).1,num (runningF d a b).2])∧Nx w w':=by
 obtain⟨W,hW,n0,hWs,cW⟩:=boxed w d r
 have nWW:Nx W W:=Below.refl _ _
 obtain⟨c0,c1,c2,c3,c4,c5,c6,c7,c8,c9,c10,c11,c12,c13⟩:=cells14 (cW _ nWW)
 have fin:∀ {x y:Int},runningF d a b=(x,y)→Ending.returned (.tuple #[num x,num y])=.returned (.tuple #[num (runningF d a b).1,num (runningF d a b).2]):=fun e=>by rw [e]
 by_cases hc:checkS d=0
 ·have hO:=ok_of_check hc
  have k66:=open_any d r W (hd.nx n0) hs (hg.nx n0) hc
  have k77:=fun w1=>stretch_any a b w1
  by_cases hst:stretchS a b=0
  ·have HA:Hid (runningF d a b=(d.ran b-d.ran a,0)):=by show _=_;unfold runningF;rw [if_neg (by simp [hc]),if_neg (by simp [hst])]
   obtain⟨ha,hb,hab⟩:=stretch_ok hst
   rw [hst] at k77
   have hra:=ran_bd2 hO.times hO.roomy (h:=a) (by omega)
   have hrb:=ran_bd2 hO.times hO.roomy (h:=b) (by omega)
   clear hc cW hst
   gi_enter Tryd.func42,Tryd.ntmps42
   gi_wp2_with (first
    | (gi_at_call 66;refine CallsIn.mono k66 ?_;rintro e w1 ⟨B,M,rfl,n1,hB,hw⟩;have HW:=Lib.hid hw;have n2:Nx w1 w1:=Below.refl _ _;have k78:∀ wx h,Nx w1 wx→-1000000000000≤h∧h≤1000000000000→CallsIn FL 0 Tryd.prog 78 #[.pointer (some ⟨B,0,none⟩),num h] wx (fun e w'=>e=.returned (num (d.ran h))∧Nx w1 w'):=fun wx h nx hh=>(ran_W (hw.nx nx) hO hh).mono (fun e w' hx=>⟨hx.1,Nx.trans nx hx.2⟩);clear hw)
    | (gi_at_call 77;refine CallsIn.mono (k77 _) ?_;rintro e w1 ⟨rfl,rfl⟩)
    | (gi_at_call 78;refine CallsIn.mono (k78 _ _ (by assumption) (by omega)) ?_;rintro e w2 ⟨rfl,n2⟩)
    | gi_in)
   go_ret2
   exact⟨fin HA.out,Nx.trans n0 (Nx.trans n1 n2)⟩
  ·have HA:Hid (runningF d a b=(0,stretchS a b)):=by show _=_;unfold runningF;rw [if_neg (by simp [hc]),if_pos hst]
   have hb:(stretchS a b != 0)=true:=by simpa using hst
   clear hc cW hO hst
   gi_enter Tryd.func42,Tryd.ntmps42
   gi_wp2_with (first
    | (gi_at_call 66;refine CallsIn.mono k66 ?_;rintro e w1 ⟨B,M,rfl,n1,hB,hw⟩;clear hw)
    | (gi_at_call 77;refine CallsIn.mono (k77 _) ?_;rintro e w1 ⟨rfl,rfl⟩)
    | gi_in)
   go_ret2
   exact⟨fin HA.out,Nx.trans n0 n1⟩
 ·have k66:=open_bad d r W (hd.nx n0) hs (hg.nx n0) hc
  have HA:Hid (runningF d a b=(0,checkS d)):=by show _=_;unfold runningF;rw [if_pos hc]
  have hb:(checkS d != 0)=true:=by simpa using hc
  have hb2:(checkS d == 0)=false:=by simpa using hc
  clear cW hc
  gi_enter Tryd.func42,Tryd.ntmps42
  gi_wp2_with (first
   | (gi_at_call 66;refine CallsIn.mono k66 ?_;rintro e w1 ⟨rfl,n1⟩)
   | gi_in)
  go_ret2
  exact⟨fin HA.out,Nx.trans n0 n1⟩
end Go.Proofs.YtolholkjeehamaaDoor

namespace Go.Proofs.YtolholkjeehamaaDoor
theorem Dit.Ok.oth_len {d:Dit} (hO:d.Ok) (c:Int):(d.oth c).length=d.turns.length:=by
 by_cases hc:c∈d.keys
 ·rw [hO.chg.len c hc]
 ·rw [oth_us hc];simp [Dit.us]
theorem ask_zero {d:Dit} (hc:checkS d=0) {k a b:Int} (hk:0≤k∧k≤(d.holders.length:Int)-1) (ha:0≤a) (hab:a≤b) (hb:b≤999999999):askS d k a b=0:=by
 unfold askS stretchS
 rw [if_neg (by simp [hc]),if_neg (by simpa using hk)]
 split
 ·omega
 ·split<;>omega
end Go.Proofs.YtolholkjeehamaaDoor

namespace Go.Proofs.YtolholkjeehamaaDoor
theorem all_set {P:Int→Prop} {l:List Int} (h:∀ x∈l,P x) {v:Int} (hv:P v) (i:Nat):∀ x∈l.set i v,P x:=fun x hx=>by
 rcases List.mem_or_eq_of_mem_set hx with h1 | h1
 ·exact h x h1
 ·rw [h1];exact hv
theorem all_getD {P:Int→Prop} {l:List Int} (h:∀ x∈l,P x) (h0:P 0) (i:Nat):P ((l[i]?).getD 0):=by
 rcases hi:l[i]? with _ | x
 ·exact h0
 ·exact h x (List.mem_of_getElem? hi)
theorem all_oth2 {P:Int→Prop} (h0:P 0) (x:Int):∀ (sw:List (Int×Int×Int)) (us:List Int),(∀ v∈us,P v)→∀ v∈oth2 us sw x,P v
 | [],_,h=>h
 | s :: sw,us,h=>by
  show ∀ v∈oth2 (if s.1=x then swapL us s.2.1.toNat s.2.2.toNat else us) sw x,P v
  refine all_oth2 h0 x sw _ ?_
  split
  ·exact all_set (all_set h (all_getD h h0 _) _) (all_getD h h0 _) _
  ·exact h
theorem all_oth3 {P:Int→Prop} (x:Int):∀ (lo:List (Int×Int×Int)) (us:List Int),(∀ s∈lo,P s.2.2)→(∀ v∈us,P v)→∀ v∈oth3 us lo x,P v
 | [],_,_,h=>h
 | s :: lo,us,hl,h=>by
  show ∀ v∈oth3 (if s.1=x then us.set s.2.1.toNat s.2.2 else us) lo x,P v
  refine all_oth3 x lo _ (fun s hs=>hl s (List.mem_cons_of_mem _ hs)) ?_
  split
  ·exact all_set h (hl s (List.mem_cons_self ..)) _
  ·exact h
theorem Dit.Ok.oth_all {d:Dit} (hO:d.Ok) (x:Int):∀ v∈d.oth x,0≤v∧v≤(d.holders.length:Int)-1:=by
 have hu:∀ v∈d.us,0≤v∧v≤(d.holders.length:Int)-1:=fun v hv=>by
  obtain⟨y,hy,rfl⟩:=List.mem_map.1 hv
  exact (hO.th y hy).1
 have h0:0≤(0:Int)∧(0:Int)≤(d.holders.length:Int)-1:=by
  rcases ht:d.turns with _ | ⟨y,l⟩
  ·have:=hO.t12;rw [ht] at this;simp at this
  ·have:=(hO.th y (by rw [ht];exact List.mem_cons_self ..)).1;omega
 exact all_oth3 (P:=fun v=>0≤v∧v≤(d.holders.length:Int)-1) x _ _ (fun s hs=>(hO.lo s hs).2.2) (all_oth2 h0 x _ _ hu)
theorem Dit.Ok.hour {d:Dit} (hO:d.Ok) {h:Int} (hh:0≤h):(d.owner h=(-1,-1,-1)∧d.ran (h+1)=d.ran h) ∨
  (∃ k c t,d.owner h=(k,c,t)∧(0≤k∧k≤(d.holders.length:Int)-1)∧0≤c∧(0≤t∧t<(d.turns.length:Int))∧d.begin_≤h∧d.ran (h+1)=d.ran h+1):=by
 have hs:=hO.ran_step hh
 by_cases hr:d.runs h=true
 ·have hr0:=hO.ran_nonneg h
  have hT:=hO.cyc_pos
  rw [if_pos hr] at hs
  have hq:0≤(d.ran h).tdiv d.cyc:=Int.tdiv_nonneg hr0 (by omega)
  have htl:=hO.turn_lt (d.ran h)
  have hl:=hO.oth_len ((d.ran h).tdiv d.cyc)
  have ha:=hO.oth_all ((d.ran h).tdiv d.cyc)
  have hw:(if (d.ran h).tdiv d.cyc∈d.keys then d.oth ((d.ran h).tdiv d.cyc) else d.us)=d.oth ((d.ran h).tdiv d.cyc):=by
   split
   ·rfl
   ·rename_i hn;rw [oth_us hn]
  have hat:d.at d.ends d.cyc h=((d.ran h).tdiv d.cyc,(turnS d.ends ((d.ran h).tmod d.cyc) 12 0:Int)):=by unfold Dit.at;rw [if_neg (by omega)]
  have hb:d.begin_≤h:=by
   rcases Int.lt_or_le h d.begin_ with hlt | hle
   ·have:=ran_low (d:=d) (h:=h) (by omega)
    have:=ran_low (d:=d) (h:=h+1) (by omega)
    omega
   ·exact hle
  refine .inr ⟨_,_,_,rfl,?_,?_,?_,hb,hs⟩
  ·rw [hat]
   unfold whoS
   simp only []
   rw [if_neg (by omega),hw,Int.toNat_natCast]
   generalize turnS d.ends ((d.ran h).tmod d.cyc) 12 0=t at htl
   generalize d.oth ((d.ran h).tdiv d.cyc)=l at hl ha
   rw [List.getElem?_eq_getElem (show t<l.length by omega)]
   exact ha _ (List.getElem_mem _)
  ·rw [hat];exact hq
  ·rw [hat];exact⟨by simp,by simpa using htl⟩
 ·rw [if_neg hr] at hs
  have hat:d.at d.ends d.cyc h=(-1,-1):=by unfold Dit.at;rw [if_pos (by omega)]
  refine .inl ⟨?_,by omega⟩
  unfold Dit.owner whoS
  rw [hat]
  simp
end Go.Proofs.YtolholkjeehamaaDoor

namespace Go.Proofs.YtolholkjeehamaaDoor
end Go.Proofs.YtolholkjeehamaaDoor

namespace Go.Proofs.YtolholkjeehamaaDoor
end Go.Proofs.YtolholkjeehamaaDoor

namespace Go.Proofs.YtolholkjeehamaaDoor
theorem own_eq {d:Dit} (hc:checkS d=0) {n:Int} (hn:0≤n∧n≤999999999):ownerF d n=(d.owner n,0):=by
 unfold ownerF;rw [if_neg (by simp [hc]),if_neg (by simp;omega)]
end Go.Proofs.YtolholkjeehamaaDoor

namespace Go.Proofs.YtolholkjeehamaaDoor
def shareS (l:List (Int×Int)) (holder:Int):Nat→Int
 | 0=>0
 | k+1=>shareS l holder k+if (l[k]?).map (·.1)=some holder then ((l[k]?).map (·.2)).getD 0 else 0
theorem share_bd {l:List (Int×Int)} {holder:Int} (h:∀ x∈l,1≤x.2∧x.2≤100):∀ k,k≤l.length→0≤shareS l holder k∧shareS l holder k≤100 * k
 | 0,_=>by simp [shareS]
 | k+1,hk=>by
  have ih:=share_bd (holder:=holder) h k (by omega)
  have hg:l[k]?=some l[k]:=List.getElem?_eq_getElem (by omega)
  have:=h l[k] (List.getElem_mem _)
  unfold shareS
  rw [hg]
  simp only [Option.map_some,Option.getD_some]
  split<;>omega
theorem Dit.Ok.part_share {d:Dit} (hO:d.Ok) (holder:Int):∀ k,k≤d.turns.length→partTo d.ends d.us holder d.cyc k=shareS d.turns holder k
 | 0,_=>rfl
 | k+1,hk=>by
  have ih:=hO.part_share holder k (by omega)
  have hth:=fun x hx=>(hO.th x hx).2
  have hs:startS d.ends k=sumTo d.turns k:=start_sum (by omega)
  have he:d.ends k=sumTo d.turns (k+1):=by unfold Dit.ends endsTo;rw [if_pos (by omega)]
  have hle:=sumTo_le hth (show k+1≤d.turns.length by omega)
  have hg:d.turns[k]?=some d.turns[k]:=List.getElem?_eq_getElem (by omega)
  have hb:=hth d.turns[k] (List.getElem_mem _)
  have hu:d.us[k]?=(d.turns[k]?).map (·.1):=by unfold Dit.us;rw [List.getElem?_map]
  have hq:sumTo d.turns (k+1)=sumTo d.turns k+((d.turns[k]?).map (·.2)).getD 0:=rfl
  unfold partTo shareS
  rw [ih,hs,he,hu]
  have hc:d.cyc=sumTo d.turns d.turns.length:=rfl
  rw [hg] at hq ⊢
  simp only [Option.map_some,Option.getD_some] at hq ⊢
  split<;>omega
structure StartAt (d:Dit) (n a:Int):Prop where
 bd:0≤a∧a≤999999999
 ran:d.ran a=n
 own:0≤(d.owner a).1
theorem Dit.Ok.start_runs {d:Dit} (hO:d.Ok) {n a:Int} (h:StartAt d n a):d.ran (a+1)=n+1:=by
 rcases hO.hour h.bd.1 with ⟨e1,e2⟩ | ⟨k,c,t,e1,e2,e3,e4,e5,e6⟩
 ·have:=h.own;rw [e1] at this;simp at this
 ·rw [e6,h.ran]
theorem shares_law {d:Dit} (hc:checkS d=0) (hs:d.swaps=[]) (hl:d.loans=[]) {f m a b:Int} (hf:0≤f) (hm:0≤m) (ha:StartAt d (f * d.cyc) a) (hb:StartAt d ((f+m) * d.cyc) b) :
  (∀ i:Nat,i<d.holders.length→hoursF d i a b=(shareS d.turns i d.turns.length * m,0))∧(∃ x y,d.turns[0]?=some (x,y)∧ownerF d a=((x,f,0),0)):=by
 have hO:=ok_of_check hc
 have hT:=hO.cyc_pos
 have hk:d.keys=[]:=by unfold Dit.keys;rw [hs,hl];rfl
 have hus:∀ c,d.oth c=d.us:=fun c=>oth_us (by rw [hk];exact List.not_mem_nil)
 have hlen:d.us.length=d.turns.length:=by simp [Dit.us]
 have hab:a≤b:=by
  rcases Int.lt_or_le b a with hlt | hle
  ·have h1:=hO.start_runs hb
   have h2:=(hO.ran_mono (a:=b+1) (b:=a) (by have:=hb.bd;omega) (by omega)).1
   rw [h1,ha.ran,Int.add_mul] at h2
   have:=Int.mul_nonneg hm (Int.le_of_lt hT)
   omega
  ·exact hle
 have had:∀ (i c:Int),d.had i (c * d.cyc)=c * shareS d.turns i d.turns.length:=fun i c=>by
  unfold Dit.had hadS
  rw [hk,hlen,Int.mul_tdiv_cancel _ (by omega),Int.mul_tmod_left,part_le0 hO (Int.le_refl _) _ (Nat.le_refl _),hO.part_share i _ (Nat.le_refl _)]
  simp [sumS]
 refine⟨fun i hi=>?_,?_⟩
 ·unfold hoursF
  rw [if_neg (by simp [ask_zero (d:=d) (k:=i) hc (by omega) ha.bd.1 hab hb.bd.2]),hoursW_had,ha.ran,hb.ran,had,had,Int.add_mul,Int.mul_comm (shareS ..) m]
  congr 1
  omega
 ·have h1:=hO.start_runs ha
  have hat:d.at d.ends d.cyc a=(f,0):=by
   unfold Dit.at
   rw [if_neg (by have:=ha.ran;have:=ha.bd;omega),ha.ran,Int.mul_tdiv_cancel _ (by omega),Int.mul_tmod_left]
   obtain⟨g1,g2,g3⟩:=hO.turn_at (r:=0) (Int.le_refl _) hT
   have h2:=(sumTo_bd (fun x hx=>(hO.th x hx).2) (d.turn 0) (by omega)).1
   have h3:d.turn 0=0:=by omega
   unfold Dit.turn at h3
   rw [h3]
   rfl
  have hne:0<d.turns.length:=by have:=hO.t12;omega
  have hg:d.turns[0]?=some d.turns[0]:=List.getElem?_eq_getElem hne
  refine⟨d.turns[0].1,d.turns[0].2,hg,?_⟩
  rw [own_eq hc ha.bd]
  unfold Dit.owner whoS
  rw [hat]
  simp only []
  rw [if_neg (by omega),hk,if_neg List.not_mem_nil]
  have:d.us[(0:Int).toNat]?=some d.turns[0].1:=by unfold Dit.us;rw [List.getElem?_map];show (d.turns[0]?).map _=_;rw [hg];rfl
  rw [this]
  rfl
end Go.Proofs.YtolholkjeehamaaDoor

namespace Go.Proofs.YtolholkjeehamaaDoor
open Go.RowKit Go.Con Go.Conc
local instance:Lone:=mainL
section
variable {dst:Option Nat} {ty:TypeId} {pos:String} {af:Array Edge} {x y c b o:Nat} {w:World} {gd:Option (Nat×Bool)} (e:Operand→Value)
theorem eqcR3_run {n:Int} (h:e (.tmp x)=num n) (h2:e (.const (.int .i64 n))=num n) (τ:Tape):(execOp e ⟨dst,.binOp .eql 3 (.tmp x) (.const (.int .i64 n)) 3,ty,pos,af,gd⟩).run Tryd.prog { w with tape:=τ }=.ok (.value (.bool true)) { w with tape:=τ }:=by
 simp [execOp,go_sem,h,h2]
theorem eqcR37_run {n:Int} (h:e (.tmp x)=num n) (h2:e (.const (.int .i64 n))=num n) (τ:Tape):(execOp e ⟨dst,.binOp .eql 37 (.tmp x) (.const (.int .i64 n)) 37,ty,pos,af,gd⟩).run Tryd.prog { w with tape:=τ }=.ok (.value (.bool true)) { w with tape:=τ }:=by
 simp [execOp,go_sem,h,h2]
theorem fa31_1g_run (h:e (.tmp x)=.pointer (some ⟨b,0,none⟩)) (τ:Tape):(execOp e ⟨dst,.fieldAddr 31 (.tmp x) 1,ty,pos,af,gd⟩).run Tryd.prog { w with tape:=τ }=.ok (.value (.pointer (some ⟨b,1,none⟩))) { w with tape:=τ }:=by
 simp [execOp,go_sem,h]
theorem fa83_0g_run (h:e (.tmp x)=.pointer (some ⟨b,o,none⟩)) (τ:Tape):(execOp e ⟨dst,.fieldAddr 83 (.tmp x) 0,ty,pos,af,gd⟩).run Tryd.prog { w with tape:=τ }=.ok (.value (.pointer (some ⟨b,o,none⟩))) { w with tape:=τ }:=by
 simp [execOp,go_sem,h]
theorem ld3g_run {a:Addr} {v:Value} (h:e (.tmp x)=.pointer (some a)) (hc:w.cell? a=some v) (τ:Tape) :
  (execOp e ⟨dst,.load 3 (.tmp x),ty,pos,af,gd⟩).run Tryd.prog { w with tape:=τ }=.ok (.value v) { w with tape:=τ }:=by
 have hc' : ({ w with tape:=τ }:World).cell? a=some v:=hc
 simp [execOp,go_sem,h,hc']
theorem ld23g_run {a:Addr} {v:Value} (h:e (.tmp x)=.pointer (some a)) (hc:w.cell? a=some v) (τ:Tape) :
  (execOp e ⟨dst,.load 23 (.tmp x),ty,pos,af,gd⟩).run Tryd.prog { w with tape:=τ }=.ok (.value v) { w with tape:=τ }:=by
 have hc' : ({ w with tape:=τ }:World).cell? a=some v:=hc
 simp [execOp,go_sem,h,hc']
theorem ix23cg_run {n c:Nat} (h:e (.tmp x)=.slice (some ⟨b,o,none⟩) n c) (h2:e (.const (.int .i64 0))=num 0) (hn:0<n) (τ:Tape) :
  (execOp e ⟨dst,.indexAddr 23 (.tmp x) (.const (.int .i64 0)),ty,pos,af,gd⟩).run Tryd.prog { w with tape:=τ }=.ok (.value (.pointer (some ⟨b,o,none⟩))) { w with tape:=τ }:=by
 simp [execOp,go_sem,h,h2,hn]
theorem cv77g_run {n:Int} (h:e (.tmp x)=.int .u16 n) (hn:0≤n∧n≤65535) (τ:Tape) :
  (execOp e ⟨dst,.convert 77 3 (.tmp x),ty,pos,af,gd⟩).run Tryd.prog { w with tape:=τ }=.ok (.value (num n)) { w with tape:=τ }:=by
 simp [execOp,go_sem,h]
 exact IntWalk.i64_in _ (by omega)
theorem rem200g_run {n:Int} (h:e (.tmp x)=num n) (h2:e (.const (.int .i64 200))=num 200) (hn:0≤n∧n≤9223372036854775807) (τ:Tape) :
  (execOp e ⟨dst,.binOp .rem 3 (.tmp x) (.const (.int .i64 200)) 3,ty,pos,af,gd⟩).run Tryd.prog { w with tape:=τ }=.ok (.value (num (n % 200))) { w with tape:=τ }:=by
 have h3:n.tmod 200=n % 200:=Int.tmod_eq_emod_of_nonneg hn.1
 simp [execOp,go_sem,h,h2,h3]
end
end Go.Proofs.YtolholkjeehamaaDoor

namespace Go.Proofs.YtolholkjeehamaaDoor
open Go.RowKit Go.Con Go.Conc
section
variable {dst:Option Nat} {ty:TypeId} {pos:String} {af:Array Edge} {x y:Nat} {w:World} (e:Operand→Value)
end
theorem old_blocks {w w' : World} (hs:w.heap.size≤w'.heap.size) (h:∀ b,b<w.heap.size→w'.heap[b]?=w.heap[b]?):Old w w':=by
 refine⟨hs,fun a ha=>?_,fun b hb=>?_,fun b es k hb=>?_⟩
 ·unfold World.cell?
  rw [h _ ha]
 ·obtain⟨cs,t,fz,e⟩:=hb
  exact⟨cs,t,fz,(h b (Array.getElem?_eq_some_iff.1 e).1).trans e⟩
 ·exact (h b (Array.getElem?_eq_some_iff.1 hb).1).trans hb
end Go.Proofs.YtolholkjeehamaaDoor

namespace Go.Proofs.YtolholkjeehamaaDoor
open Go.RowKit
theorem share_next {l:List (Int×Int)} {holder:Int} {k:Nat} {x:Int×Int} (h:l[k]?=some x):shareS l holder (k+1)=shareS l holder k+if x.1=holder then x.2 else 0:=by
 simp only [shareS,h,Option.map_some,Option.some.injEq,Option.getD_some]
theorem share_any (d:Dit) (r:Rows6) (holder:Int) (w:World) (hd:DitSl w d r) (hO:d.Ok):CallsIn FL 0 Tryd.prog 46 #[d.val r,num holder] w fun e w'=>e=.returned (num (shareS d.turns holder d.turns.length))∧Nx w w':=by
 obtain⟨W,hW,n0,hWs,cW⟩:=boxed w d r
 obtain⟨at',capt,et⟩:=hd.turns.cases
 rw [List.length_map] at et
 have hv:=hd.turns.nx n0
 rw [et] at hv
 have c1:∀ w1,Nx W w1→w1.cell? ⟨w.heap.size,1,none⟩=some (.slice at' d.turns.length capt):=fun w1 n1=>(cW _ n1 1 r.t rfl).trans (by rw [et])
 have ht:=hO.t12
 have hb:=Lib.hid (fun k hk=>share_bd (holder:=holder) (fun x hx=>(hO.th x hx).2) k hk)
 clear cW et hO
 gi_enter Tryd.func46,Tryd.ntmps46
 gi_wp2
 gi_loopw [5,6] (fun n i wr=>∃ k:Nat,k≤d.turns.length∧i=num k∧n=num (shareS d.turns holder k)∧Nx W wr) (fun _ i _=>d.turns.length-(intOf i).toNat)
 case atStart=>exact⟨0,Nat.zero_le _,rfl,rfl,Below.refl _ _⟩
 case round =>
  obtain⟨k,hk,rfl,rfl,n2⟩:=hrel
  have f1:wr.cell? ⟨w.heap.size,1,none⟩=some (.slice at' d.turns.length capt):=c1 _ n2
  by_cases hlt:k<d.turns.length
  ·obtain⟨b,off,ha,hbl,hcl⟩:=(hv.nx n2).get (by simp;omega)
   subst ha
   have hx:d.turns[k]?=some d.turns[k]:=List.getElem?_eq_getElem hlt
   have g0:=hcl k 0 (two d.turns[k]) (num d.turns[k].1) (by simp [hlt]) rfl
   rw [Nat.add_zero] at g0
   have g1:=hcl k 1 (two d.turns[k]) (num d.turns[k].2) (by simp [hlt]) rfl
   have hs:=share_next (holder:=holder) hx
   have hb1:=hb.out k hk
   have hb2:=hb.out (k+1) hlt
   rw [hs] at hb2
   have HS:=Lib.hid hs
   generalize d.turns[k].1=y at g0 HS hb2
   generalize d.turns[k].2=x at g1 HS hb2
   generalize shareS d.turns holder k=z at HS hb1 hb2 ⊢
   clear hcl hs hx hv
   by_cases hy:y=holder
   ·have b1:(y == holder)=true:=by simpa using hy
    rw [if_pos hy] at hb2
    have HY:=Lib.hid hy
    clear hy
    gi_wp2
    exact⟨⟨k+1,hlt,by simp,by rw [HS.out,if_pos HY.out],n2⟩,by simp [intOf];omega⟩
   ·have b1:(y == holder)=false:=beq_false_of_ne hy
    have HY:=Lib.hid hy
    clear hy
    gi_wp2
    exact⟨⟨k+1,hlt,by simp,by rw [HS.out,if_neg HY.out];simp,n2⟩,by simp [intOf];omega⟩
  ·obtain rfl:k=d.turns.length:=by omega
   clear hv
   gi_wp2
   go_ret
   exact⟨rfl,Nx.trans n0 n2⟩
def StartsPost (d:Dit) (m:Int) (e:Ending):Prop:=∃ a b,e=.returned (.tuple #[num a,.bool b])∧(b=true→StartAt d m a)
theorem starts_any (d:Dit) (r:Rows6) (m:Int) (w:World) (hd:DitSl w d r) (hs:d.Small) (hg:Glob w) (hc:checkS d=0) (hm:0≤m∧m≤1000000) :
  CallsIn FL 0 Tryd.prog 45 #[d.val r,num m] w fun e w'=>StartsPost d m e∧Nx w w':=by
 obtain⟨W,hW,n0,hWs,cW⟩:=boxed w d r
 have hO:=ok_of_check hc
 have hbg:=hO.times.begin_
 have KR:=Lib.hid (fun n (hn:0≤n∧n≤999999999) u (o:Nx W u)=>show CallsIn FL 0 Tryd.prog 42 #[d.val r,num 0,num n] u fun e w'=>e=.returned (.tuple #[num (d.ran n),num 0])∧Nx u w' by
  have:=running_any d r 0 n u ((hd.nx n0).nx o) hs ((hg.nx n0).nx o)
  have e1:runningF d 0 n=(d.ran n,0):=by
   have hst:stretchS 0 n=0:=by unfold stretchS;rw [if_neg (by omega),if_neg (by omega)]
   unfold runningF;rw [if_neg (by simp [hc]),if_neg (by simp [hst]),ran_low (h:=0) hbg.1,Int.sub_zero]
  rw [e1] at this;exact this)
 have KO:=Lib.hid (fun n (hn:0≤n∧n≤999999999) u (o:Nx W u)=>show CallsIn FL 0 Tryd.prog 26 #[d.val r,num n] u fun e w'=>e=.returned (.tuple #[num (d.owner n).1,num (d.owner n).2.1,num (d.owner n).2.2,num 0])∧Nx u w' by
  have:=owner_any d r n u ((hd.nx n0).nx o) hs ((hg.nx n0).nx o)
  rw [own_eq hc hn] at this;exact this)
 have CO:=Lib.hid cW
 have c2:∀ w1,Nx W w1→w1.cell? ⟨w.heap.size,2,none⟩=some (num d.begin_):=fun w1 n1=>cW _ n1 2 _ rfl
 have HO:=Lib.hid hO
 have hWl:w.heap.size<W.heap.size:=by omega
 clear cW hc hd hg hs hO
 gi_enter Tryd.func45,Tryd.ntmps45
 have f2:=c2 W (Below.refl _ _)
 clear c2
 gi_wp2
 clear f2
 gi_loopw [6,7] (fun l h wr=>∃ a b:Int,l=num a∧h=num b∧(0≤a∧a≤b∧b≤999999999)∧Nx W wr) (fun l h _=>(intOf h-intOf l).toNat)
 case atStart=>exact⟨_,_,rfl,rfl,by omega,Below.refl _ _⟩
 case round =>
  obtain⟨a,b,rfl,rfl,hab,n2⟩:=hrel
  by_cases hlt:a<b
  ·have hq:(a+b).tdiv 2=(a+b) / 2:=Int.tdiv_eq_ediv_of_nonneg (by omega)
   have hn:a≤(a+b).tdiv 2∧(a+b).tdiv 2<b:=by omega
   clear hq
   have kr:=KR.out ((a+b).tdiv 2+1) (by omega) wr n2
   gi_upto_region 4 with fail
   generalize (a+b).tdiv 2=n at hn kr ⊢
   obtain⟨c0,c1,c2,c3,c4,c5,c6,c7,c8,c9,c10,c11,c12,c13⟩:=cells14 (CO.out wr n2)
   by_cases hk:d.ran (n+1) > m
   ·have HK:=Lib.hid hk
    have b1:decide (d.ran (n+1) > m)=true:=by simpa using hk
    have b2:decide (m<d.ran (n+1))=true:=by simpa using hk
    clear hk
    gi_wp2_with (first
     | (gi_at_call 42;refine CallsIn.mono kr ?_;rintro e w3 ⟨rfl,n3⟩)
     | gi_in)
    exact⟨⟨_,_,rfl,rfl,by omega,Nx.trans n2 n3⟩,by simp [intOf];omega⟩
   ·have HK:=Lib.hid hk
    have b1:decide (d.ran (n+1) > m)=false:=by simpa using hk
    have b2:decide (m<d.ran (n+1))=false:=by simpa using hk
    clear hk
    gi_wp2_with (first
     | (gi_at_call 42;refine CallsIn.mono kr ?_;rintro e w3 ⟨rfl,n3⟩)
     | gi_in)
    exact⟨⟨_,_,rfl,rfl,by omega,Nx.trans n2 n3⟩,by simp [intOf];omega⟩
  ·obtain rfl:a=b:=by omega
   have ha:0≤a∧a≤999999999:=by omega
   have kr:=KR.out a ha wr n2
   gi_upto_region 8 with fail
   obtain⟨c0,c1,c2,c3,c4,c5,c6,c7,c8,c9,c10,c11,c12,c13⟩:=cells14 (CO.out wr n2)
   gi_upto_region 9 with (first
    | (gi_at_call 42;refine CallsIn.mono kr ?_;rintro e w3 ⟨rfl,n3⟩)
    | gi_in)
   clear c0 c1 c2 c3 c4 c5 c6 c7 c8 c9 c10 c11 c12 c13 kr
   have n4:=Nx.trans n2 n3
   have ko:=KO.out a ha w3 n4
   obtain⟨c0,c1,c2,c3,c4,c5,c6,c7,c8,c9,c10,c11,c12,c13⟩:=cells14 (CO.out w3 n4)
   gi_upto_region 10 with (first
    | (gi_at_call 26;refine CallsIn.mono ko ?_;rintro e w5 ⟨rfl,n5⟩)
    | gi_in)
   clear c0 c1 c2 c3 c4 c5 c6 c7 c8 c9 c10 c11 c12 c13 ko
   have hnx:=Nx.trans n0 (Nx.trans n4 n5)
   generalize hk:(d.owner a).1=k at *
   have HK:=Lib.hid hk
   clear hk
   by_cases hr:d.ran a=m
   ·have b1:(d.ran a == m)=true:=by simpa using hr
    by_cases hk0:0≤k
    ·have b2:decide (0≤k)=true:=by simpa using hk0
     have HR:=Lib.hid hr
     clear hr
     gi_wp2
     go_ret2
     exact⟨show StartsPost d m _ from ⟨_,_,rfl,fun _=>⟨ha,HR.out,by rw [HK.out];exact hk0⟩⟩,hnx⟩
    ·have b2:decide (0≤k)=false:=by simpa using hk0
     clear hr
     gi_wp2
     go_ret2
     exact⟨show StartsPost d m _ from ⟨_,_,rfl,fun h=>by cases h⟩,hnx⟩
   ·have b1:(d.ran a == m)=false:=beq_false_of_ne hr
    clear hr
    gi_wp2
    go_ret2
    exact⟨show StartsPost d m _ from ⟨_,_,rfl,fun h=>by cases h⟩,hnx⟩
end Go.Proofs.YtolholkjeehamaaDoor

namespace Go.Proofs.YtolholkjeehamaaDoor
open Go.RowKit Go.Con Go.Conc
local instance:Lone:=mainL
noncomputable def lawB13:Code:=match Tryd.f13.body with | some c=>c | none=>.skip
noncomputable def a0:Code:=seqL lawB13
noncomputable def ap1:Code:=seqR lawB13
noncomputable def a1:Code:=seqL ap1
noncomputable def ap2:Code:=seqR ap1
noncomputable def a2:Code:=seqL (seqL ap2)
noncomputable def a3:Code:=match seqR (seqL ap2) with | .cond _ x _=>seqL x | c=>c
noncomputable def ap3:Code:=seqR ap2
noncomputable def a4:Code:=seqL ap3
noncomputable def ap4:Code:=seqR ap3
noncomputable def a5:Code:=seqL ap4
noncomputable def ap5:Code:=seqR ap4
noncomputable def a6:Code:=seqL ap5
noncomputable def ap6:Code:=seqR ap5
noncomputable def a7:Code:=seqL (seqL ap6)
noncomputable def a8:Code:=match seqR (seqL ap6) with | .cond _ x _=>seqL x | c=>c
noncomputable def ap7:Code:=seqR ap6
noncomputable def a9:Code:=seqL ap7
noncomputable def ap8:Code:=seqR ap7
noncomputable def a15:Code:=seqL ap8
noncomputable def ap9:Code:=seqR ap8
noncomputable def a16:Code:=seqL ap9
theorem lawB13_eq:lawB13=.seq a0 (.seq a1 (.seq (.seq a2 (.cond (.tmp 28) (.seq a3 .ret) .skip)) (.seq a4 (.seq a5 (.seq a6 (.seq (.seq a7 (.cond (.tmp 61) (.seq a8 .ret) .skip)) (.seq a9 (.seq a15 (.seq a16 .ret))))))))):=by kernel_rfl
theorem lawB13_of:Tryd.f13.body=some lawB13:=by kernel_rfl
noncomputable def opa3:Array Oper:=opsOf a3
theorem a3_eq:a3=.region 3 opa3 false:=by kernel_rfl
noncomputable def opa8:Array Oper:=opsOf a8
theorem a8_eq:a8=.region 8 opa8 false:=by kernel_rfl
noncomputable def opa16:Array Oper:=opsOf a16
theorem a16_eq:a16=.region 16 opa16 false:=by kernel_rfl
def SharesR (x:Int) (W:World) (t:Array Value) (W2:World):Prop:=Old W W2∧∃ (h0:Int) (b tb to tn tc:Nat),0<tn∧t.size=124∧t[18]?=some (num 0)∧t[15]?=some (num h0)∧t[3]?=some (.pointer (some ⟨b,0,none⟩))∧t[16]?=some (num (x % 200))∧t[1]?=some (.int .u16 x)∧t[17]?=some (num 0) ∧
 W2.cell? ⟨b,1,none⟩=some (.slice (some ⟨tb,to,none⟩) tn tc)∧W2.cell? ⟨tb,to,none⟩=some (num h0)
def Dit.bare (d:Dit):Dit:={ d with swaps:=[],loans:=[] }
def Rows6.bare (r:Rows6):Rows6:={ r with s:=.slice none 0 0,l:=.slice none 0 0 }
theorem DitSl.bare {W:World} {d:Dit} {r:Rows6} (h:DitSl W d r):DitSl W d.bare r.bare :=
 ⟨h.holders,h.turns,h.feasts,⟨0,.inl ⟨rfl,rfl⟩⟩,⟨0,.inl ⟨rfl,rfl⟩⟩,h.plots,h.cap0,h.cap13,fun v hv=>by
  have hk:=h.kinds
  simp only [List.mem_cons,List.not_mem_nil,or_false,forall_eq_or_imp,forall_eq] at hk
  obtain⟨h1,h2,h3,_,_,h6⟩:=hk
  simp only [Rows6.bare,List.mem_cons,List.not_mem_nil,or_false] at hv
  rcases hv with rfl | rfl | rfl | rfl | rfl | rfl
  ·exact h1
  ·exact h2
  ·exact h3
  ·exact fun a n k e=>by cases e
  ·exact fun a n k e=>by cases e
  ·exact h6⟩
theorem Dit.Big.bare {d:Dit} (h:d.Big):d.bare.Big:=⟨h.h,h.t,h.f,Nat.zero_le _,Nat.zero_le _,h.p,h.hn,h.pn⟩
theorem mul_bd {a b m n:Int} (h1:0≤a) (h2:0≤b) (h3:a≤m) (h4:b≤n) (h5:m * n≤1000000:=by decide):0≤a * b∧a * b≤1000000 :=
 ⟨Int.mul_nonneg h1 h2,Int.le_trans (Int.mul_le_mul h3 h4 h2 (Int.le_trans h1 h3)) h5⟩
theorem cyc_bd {d:Dit} (hO:d.Ok):1≤d.cyc∧d.cyc≤1200:=by
 have h1:=hO.cyc_pos
 have h2:=(sumTo_bd (fun x hx=>(hO.th x hx).2) d.turns.length (Nat.le_refl _)).2
 have h3:=hO.t12
 have h4:d.cyc=sumTo d.turns d.turns.length:=rfl
 omega
theorem DitSl.turns_at {W:World} {d:Dit} {r:Rows6} (h:DitSl W d r) (h0:0<d.turns.length):∃ tb to cap,(∀ B,W.cell? ⟨B,1,none⟩=some r.t→W.cell? ⟨B,1,none⟩=some (.slice (some ⟨tb,to,none⟩) d.turns.length cap))∧(∀ x y,d.turns[0]?=some (x,y)→W.cell? ⟨tb,to,none⟩=some (num x)):=by
 obtain⟨a,cap,e⟩:=h.turns.cases
 have hv:=h.turns
 rw [e] at hv
 obtain⟨b,o,rfl,hb,hc⟩:=hv.get (by simp;omega)
 rw [List.length_map] at e
 refine⟨b,o,cap,fun B hB=>by rw [hB,e],fun x y hx=>?_⟩
 have:=hc 0 0 (two (x,y)) (num x) (by simp [hx]) rfl
 simpa using this
theorem shares_rest (d:Dit) (r:Rows6) (x y:Int) (W w1:World) (B:Nat) (v0 v19 v20:Value) (hd:DitSl W d r) (hb:d.Big) (hg:Glob W) (hx:0≤x∧x≤65535) (hy:0≤y∧y≤65535) (HSW:Hid (d.swaps=[])) (HLO:Hid (d.loans=[])) (hOw:Old W w1)
  (cO:∀ w2,Old w1 w2→∀ i v,(d.cellsA r)[i]?=some v→w2.cell? ⟨B,i,none⟩=some v) :
  Lones Tryd.prog (FG 13) [a2] (fun t W1=>Old W W1∧t.size=124∧(t[28]?=some (.bool true)∨(t[28]?=some (.bool false)∧Lones Tryd.prog (FG 13) [a4,a5,a6,a7] (fun t W1=>Old W W1∧t.size=124∧(t[61]?=some (.bool true)∨(t[61]?=some (.bool false)∧Lones Tryd.prog (FG 13) [a9,a15] (SharesR x W) t W1))) t W1))) #[v0,.int .u16 x,.int .u16 y,.pointer (some ⟨B,0,none⟩),undef,undef,.bool false,undef,undef,undef,undef,undef,undef,undef,undef,undef,undef,undef,undef,v19,v20,undef,undef,undef,undef,undef,undef,undef,undef,undef,undef,undef,undef,undef,undef,undef,undef,undef,undef,undef,undef,undef,undef,undef,undef,undef,undef,undef,undef,undef,undef,undef,undef,undef,undef,undef,undef,undef,undef,undef,undef,undef,undef,undef,undef,undef,undef,undef,undef,undef,undef,undef,undef,undef,undef,undef,undef,undef,undef,undef,undef,undef,undef,undef,undef,undef,undef,undef,undef,undef,undef,undef,undef,undef,undef,undef,undef,undef,undef,undef,undef,undef,undef,undef,undef,undef,undef,undef,undef,undef,undef,undef,undef,undef,undef,undef,undef,undef,undef,undef,undef,undef,undef,undef] w1:=by
 intro τ1
 generalize hw1:({ w1 with tape:=τ1 }:World)=w2
 have hq:Old w1 w2:=by rw [← hw1];exact .same rfl
 replace hOw:=hOw.trans hq
 replace cO:∀ w3,Old w2 w3→∀ i v,(d.cellsA r)[i]?=some v→w3.cell? ⟨B,i,none⟩=some v:=fun w3 o=>cO w3 (hq.trans o)
 clear hw1 hq
 revert hOw cO
 generalize w2=w1
 intro hOw cO
 simp only [a2,ap9,ap8,ap7,ap6,ap5,ap4,ap3,ap2,ap1,lawB13,seqL,seqR,Tryd.f13]
 have k19:=toFG 13 (m:=0) (great_big d r 0 0 (.slice none 0 0) [] w1 (hd.old hOw) hb ⟨0,.inl ⟨rfl,rfl⟩⟩ (Nat.zero_le _))
 obtain⟨ah,caph,eh⟩:=hd.holders.cases
 obtain⟨at1,capt,et⟩:=hd.turns.cases
 rw [List.length_map] at eh et
 obtain⟨c0,c1,c2,c3,c4,c5,c6,c7,c8,c9,c10,c11,c12,c13⟩:=cells14 (cO w1 (Old.refl _))
 have CH:=Lib.hid (show ∀ w2,Old w1 w2→w2.cell? ⟨B,0,none⟩=some (.slice ah d.holders.length caph) from fun w2 o=>(cO w2 o 0 r.h rfl).trans (by rw [eh]))
 have CT:=Lib.hid (show ∀ w2,Old w1 w2→w2.cell? ⟨B,1,none⟩=some (.slice at1 d.turns.length capt) from fun w2 o=>(cO w2 o 1 r.t rfl).trans (by rw [et]))
 have CO:=Lib.hid cO
 have HD:=Lib.hid hd
 have HG:=Lib.hid hg
 have HB:=Lib.hid hb
 clear cO hd hg hb eh et
 cases hgr:greatS d 0 with
 | true =>
  rw [show ([]:List (List Value)).length=0 from rfl,hgr] at k19
  gi_wp2_with (first
   | (gi_at_call 19;refine CallsIn.mono k19 ?_;rintro e w2 ⟨rfl,x2⟩)
   | gi_in)
  exact⟨hOw.trans (.nx x2),rfl,.inl rfl⟩
 | false =>
 rw [show ([]:List (List Value)).length=0 from rfl,hgr] at k19
 have hs:=small_of_great hgr
 have k25:=fun w2 (o:Old w1 w2)=>toFG 13 (m:=0) (check25_any d r w2 (HD.out.old (hOw.trans o)) hs)
 clear hgr
 rcases (Decidable.em (checkS d=0)).symm with hc | hc
 ·have b1:(checkS d != 0)=true:=by simpa using hc
  gi_wp2_with (first
   | (gi_at_call 19;refine CallsIn.mono k19 ?_;rintro e w2 ⟨rfl,x2⟩;clear c0 c1 c2 c3 c4 c5 c6 c7 c8 c9 c10 c11 c12 c13;obtain⟨c0,c1,c2,c3,c4,c5,c6,c7,c8,c9,c10,c11,c12,c13⟩:=cells14 (CO.out w2 (.nx x2));have kk:=k25 w2 (.nx x2))
   | (gi_at_call 25;refine CallsIn.mono kk ?_;rintro e w3 ⟨rfl,x3⟩)
   | gi_in)
  exact⟨hOw.trans (.trans (.nx x2) (.nx x3)),rfl,.inl rfl⟩
 have HC:=Lib.hid hc
 rw [hc] at k25
 clear hc
 gi_wp2_with (first
  | (gi_at_call 19;refine CallsIn.mono k19 ?_;rintro e w2 ⟨rfl,x2⟩;clear c0 c1 c2 c3 c4 c5 c6 c7 c8 c9 c10 c11 c12 c13;obtain⟨c0,c1,c2,c3,c4,c5,c6,c7,c8,c9,c10,c11,c12,c13⟩:=cells14 (CO.out w2 (.nx x2));have kk:=k25 w2 (.nx x2))
  | (gi_at_call 25;refine CallsIn.mono kk ?_;rintro e w3 ⟨rfl,x3⟩;clear c0 c1 c2 c3 c4 c5 c6 c7 c8 c9 c10 c11 c12 c13)
  | gi_in)
 have oB2:Old w1 w3:=.trans (.nx x2) (.nx x3)
 refine⟨hOw.trans oB2,rfl,.inr ⟨rfl,?_⟩⟩
 clear k19 k25 kk
 have HO:=Lib.hid (ok_of_check HC.out)
 have hcy:=cyc_bd HO.out
 have hxm:0≤x % 200∧x % 200≤199:=by omega
 have hym:0≤y % 200∧y % 200≤199:=by omega
 have hm1:0≤x % 200 * d.cyc∧x % 200 * d.cyc≤1000000:=mul_bd (m:=199) (n:=1200) (by omega) (by omega) (by omega) (by omega)
 have hm2:0≤(x % 200+y % 200) * d.cyc∧(x % 200+y % 200) * d.cyc≤1000000:=mul_bd (m:=398) (n:=1200) (by omega) (by omega) (by omega) (by omega)
 have KC:=Lib.hid (fun u (o:Old w1 u)=>show CallsIn (FG 13) 0 Tryd.prog 44 #[d.val r] u fun e w'=>e=Ending.returned (num d.cyc)∧Nx u w' from toFG 13 (m:=0) (cycle44_any d r u (HD.out.old (hOw.trans o)) HO.out))
 have KA:=Lib.hid (fun u (o:Old w1 u)=>show CallsIn (FG 13) 0 Tryd.prog 45 #[d.val r,num (x % 200 * d.cyc)] u fun e w'=>StartsPost d (x % 200 * d.cyc) e∧Nx u w' from toFG 13 (m:=0) (starts_any d r _ u (HD.out.old (hOw.trans o)) hs (HG.out.old (hOw.trans o)) HC.out hm1))
 have KB:=Lib.hid (fun u (o:Old w1 u)=>show CallsIn (FG 13) 0 Tryd.prog 45 #[d.val r,num ((x % 200+y % 200) * d.cyc)] u fun e w'=>StartsPost d ((x % 200+y % 200) * d.cyc) e∧Nx u w' from toFG 13 (m:=0) (starts_any d r _ u (HD.out.old (hOw.trans o)) hs (HG.out.old (hOw.trans o)) HC.out hm2))
 intro τ4
 generalize hq4:({ w3 with tape:=τ4 }:World)=u4
 have oA4:Old w1 u4:=oB2.trans (by rw [← hq4];exact .same rfl)
 clear hq4
 simp only [a4,ap9,ap8,ap7,ap6,ap5,ap4,ap3,ap2,ap1,lawB13,seqL,seqR,Tryd.f13]
 have kk:=KC.out u4 oA4
 obtain⟨c0,c1,c2,c3,c4,c5,c6,c7,c8,c9,c10,c11,c12,c13⟩:=cells14 (CO.out u4 oA4)
 gi_wp2_with (first
  | (gi_at_call 44;refine CallsIn.mono kk ?_;rintro e v4 ⟨rfl,x4⟩)
  | gi_in)
 clear kk c0 c1 c2 c3 c4 c5 c6 c7 c8 c9 c10 c11 c12 c13
 have oB4:Old w1 v4:=oA4.trans (.nx x4)
 intro τ5
 generalize hq5:({ v4 with tape:=τ5 }:World)=u5
 have oA5:Old w1 u5:=oB4.trans (by rw [← hq5];exact .same rfl)
 clear hq5
 simp only [a5,ap9,ap8,ap7,ap6,ap5,ap4,ap3,ap2,ap1,lawB13,seqL,seqR,Tryd.f13]
 have kk:=KA.out u5 oA5
 obtain⟨c0,c1,c2,c3,c4,c5,c6,c7,c8,c9,c10,c11,c12,c13⟩:=cells14 (CO.out u5 oA5)
 gi_wp2_with (first
  | (gi_at_call 45;refine CallsIn.mono kk ?_;rintro e v5 ⟨⟨p,b1,rfl,hst5⟩,x5⟩)
  | gi_in)
 clear kk c0 c1 c2 c3 c4 c5 c6 c7 c8 c9 c10 c11 c12 c13
 have HT5:=Lib.hid hst5
 clear hst5
 have oB5:Old w1 v5:=oA5.trans (.nx x5)
 intro τ6
 generalize hq6:({ v5 with tape:=τ6 }:World)=u6
 have oA6:Old w1 u6:=oB5.trans (by rw [← hq6];exact .same rfl)
 clear hq6
 simp only [a6,ap9,ap8,ap7,ap6,ap5,ap4,ap3,ap2,ap1,lawB13,seqL,seqR,Tryd.f13]
 have kk:=KB.out u6 oA6
 obtain⟨c0,c1,c2,c3,c4,c5,c6,c7,c8,c9,c10,c11,c12,c13⟩:=cells14 (CO.out u6 oA6)
 gi_wp2_with (first
  | (gi_at_call 45;refine CallsIn.mono kk ?_;rintro e v6 ⟨⟨q,b2,rfl,hst6⟩,x6⟩)
  | gi_in)
 clear kk c0 c1 c2 c3 c4 c5 c6 c7 c8 c9 c10 c11 c12 c13
 have HT6:=Lib.hid hst6
 clear hst6
 have oB6:Old w1 v6:=oA6.trans (.nx x6)
 intro τ7
 generalize hq7:({ v6 with tape:=τ7 }:World)=u7
 have oA7:Old w1 u7:=oB6.trans (by rw [← hq7];exact .same rfl)
 clear hq7
 simp only [a7,ap9,ap8,ap7,ap6,ap5,ap4,ap3,ap2,ap1,lawB13,seqL,seqR,Tryd.f13]
 cases b1 with
 | false =>
  gi_wp2
  exact⟨hOw.trans oA7,rfl,.inl rfl⟩
 | true =>
 cases b2 with
 | false =>
  gi_wp2
  exact⟨hOw.trans oA7,rfl,.inl rfl⟩
 | true =>
 gi_wp2
 refine⟨hOw.trans oA7,rfl,.inr ⟨rfl,?_⟩⟩
 have hsa:=HT5.out trivial
 have hsb:=HT6.out trivial
 obtain⟨e1,h0,y0,e2,e3⟩:=shares_law HC.out HSW.out HLO.out hxm.1 hym.1 hsa hsb
 have KH:=Lib.hid (fun (i:Nat) (hi:i<d.holders.length) u (o:Old w1 u)=>show CallsIn (FG 13) 0 Tryd.prog 21 #[d.val r,num i,num p,num q] u fun e w'=>e=Ending.returned (.tuple #[num (shareS d.turns i d.turns.length * (y % 200)),num 0])∧Nx u w' by
  have:=toFG 13 (m:=0) (hoursP_any d r i p q u (HD.out.old (hOw.trans o)) hs (HG.out.old (hOw.trans o)))
  rw [e1 i hi] at this;exact this)
 have KS:=Lib.hid (fun (i:Nat) u (o:Old w1 u)=>show CallsIn (FG 13) 0 Tryd.prog 46 #[d.val r,num i] u fun e w'=>e=Ending.returned (num (shareS d.turns i d.turns.length))∧Nx u w' from toFG 13 (m:=0) (share_any d r i u (HD.out.old (hOw.trans o)) HO.out))
 have KO:=Lib.hid (fun u (o:Old w1 u)=>show CallsIn (FG 13) 0 Tryd.prog 26 #[d.val r,num p] u fun e w'=>e=Ending.returned (.tuple #[num h0,num (x % 200),num 0,num 0])∧Nx u w' by
  have:=toFG 13 (m:=0) (owner_any d r p u (HD.out.old (hOw.trans o)) hs (HG.out.old (hOw.trans o)))
  rw [e3] at this;exact this)
 have hsh:=Lib.hid (fun i:Int=>share_bd (holder:=i) (fun x hx=>(HO.out.th x hx).2) d.turns.length (Nat.le_refl _))
 have HE2:=Lib.hid e2
 have ht12:=HO.out.t12
 have hh6:=HO.out.h6
 clear e1 e2 e3 hsa hsb hm1 hm2
 intro τ9
 generalize hq9:({ u7 with tape:=τ9 }:World)=u9
 have oA9:Old w1 u9:=oA7.trans (by rw [← hq9];exact .same rfl)
 clear hq9
 simp only [a9,ap9,ap8,ap7,ap6,ap5,ap4,ap3,ap2,ap1,lawB13,seqL,seqR,Tryd.f13]
 have c0:=CH.out u9 oA9
 gi_wp2
 clear c0
 gi_loopw [12] (fun i wr=>∃ k:Nat,k≤d.holders.length∧i=num k∧Nx u9 wr) (fun i _=>d.holders.length-(intOf i).toNat)
 case atStart=>exact⟨0,Nat.zero_le _,rfl,Below.refl _ _⟩
 case round =>
  obtain⟨i,hi,rfl,n2⟩:=hrel
  have oR:Old w1 wr:=oA9.trans (.nx n2)
  by_cases hlt:i<d.holders.length
  ·have kh:=KH.out i hlt wr oR
   have hsi:=hsh.out i
   have hmm:0≤shareS d.turns i d.turns.length * (y % 200)∧shareS d.turns i d.turns.length * (y % 200)≤1000000:=mul_bd (m:=1200) (n:=199) (by omega) (by omega) (by omega) (by omega)
   have c0:=CH.out wr oR
   gi_upto_region 12 with fail
   clear c0
   obtain⟨c0,c1,c2,c3,c4,c5,c6,c7,c8,c9,c10,c11,c12,c13⟩:=cells14 (CO.out wr oR)
   gi_wp2_with (first
    | (gi_at_call 21;refine CallsIn.mono kh ?_;rintro e w5 ⟨rfl,x5⟩;clear kh;clear c0 c1 c2 c3 c4 c5 c6 c7 c8 c9 c10 c11 c12 c13;obtain⟨c0,c1,c2,c3,c4,c5,c6,c7,c8,c9,c10,c11,c12,c13⟩:=cells14 (CO.out w5 (oR.trans (.nx x5)));have ks:=KS.out i w5 (oR.trans (.nx x5)))
    | (gi_at_call 46;refine CallsIn.mono ks ?_;rintro e w6 ⟨rfl,x6⟩;clear ks;clear c0 c1 c2 c3 c4 c5 c6 c7 c8 c9 c10 c11 c12 c13)
    | gi_in)
   exact⟨⟨i+1,hlt,by simp,Nx.trans n2 (Nx.trans x5 x6)⟩,by simp [intOf];omega⟩
  ·obtain rfl:i=d.holders.length:=by omega
   have c0:=CH.out wr oR
   gi_wp2
   clear c0
   intro τ15
   generalize hq15:({ wr with tape:=τ15 }:World)=u15
   have oA15:Old w1 u15:=oR.trans (by rw [← hq15];exact .same rfl)
   clear hq15
   simp only [a15,ap9,ap8,ap7,ap6,ap5,ap4,ap3,ap2,ap1,lawB13,seqL,seqR,Tryd.f13]
   have kk:=KO.out u15 oA15
   obtain⟨c0,c1,c2,c3,c4,c5,c6,c7,c8,c9,c10,c11,c12,c13⟩:=cells14 (CO.out u15 oA15)
   gi_wp2_with (first
    | (gi_at_call 26;refine CallsIn.mono kk ?_;rintro e v15 ⟨rfl,x15⟩)
    | gi_in)
   clear kk c0 c1 c2 c3 c4 c5 c6 c7 c8 c9 c10 c11 c12 c13
   have oB15:Old w1 v15:=oA15.trans (.nx x15)
   obtain⟨tb,to,e4,e5,e6⟩:=(HD.out.old (hOw.trans oB15)).turns_at (by omega:0<d.turns.length)
   exact (show SharesR x W _ _ from ⟨hOw.trans oB15,h0,B,tb,to,d.turns.length,e4,by omega,rfl,rfl,rfl,rfl,rfl,rfl,rfl,e5 B (CO.out v15 oB15 1 r.t rfl),e6 _ _ HE2.out⟩)
theorem shares_lone (d:Dit) (r:Rows6) (x y:Int) (W:World) (hd:DitSl W d r) (hb:d.Big) (hg:Glob W) (hx:0≤x∧x≤65535) (hy:0≤y∧y≤65535) :
  Lones Tryd.prog (FG 13) [a0,a1,a2] (fun t W1=>Old W W1∧t.size=124∧(t[28]?=some (.bool true)∨(t[28]?=some (.bool false)∧Lones Tryd.prog (FG 13) [a4,a5,a6,a7] (fun t W1=>Old W W1∧t.size=124∧(t[61]?=some (.bool true)∨(t[61]?=some (.bool false)∧Lones Tryd.prog (FG 13) [a9,a15] (SharesR x W) t W1))) t W1)))
   #[d.val r,.int .u16 x,.int .u16 y,undef,undef,undef,undef,undef,undef,undef,undef,undef,undef,undef,undef,undef,undef,undef,undef,undef,undef,undef,undef,undef,undef,undef,undef,undef,undef,undef,undef,undef,undef,undef,undef,undef,undef,undef,undef,undef,undef,undef,undef,undef,undef,undef,undef,undef,undef,undef,undef,undef,undef,undef,undef,undef,undef,undef,undef,undef,undef,undef,undef,undef,undef,undef,undef,undef,undef,undef,undef,undef,undef,undef,undef,undef,undef,undef,undef,undef,undef,undef,undef,undef,undef,undef,undef,undef,undef,undef,undef,undef,undef,undef,undef,undef,undef,undef,undef,undef,undef,undef,undef,undef,undef,undef,undef,undef,undef,undef,undef,undef,undef,undef,undef,undef,undef,undef,undef,undef,undef,undef,undef,undef] W:=by
 intro τ
 generalize hw0:({ W with tape:=τ }:World)=w0
 have hO0:Old W w0:=by rw [← hw0];exact .same rfl
 clear hw0
 have hd0:=hd.old hO0
 have hOs:=hO0.size
 obtain⟨V,hV,nV,hVs,cV⟩:=boxed w0 d r
 have nVV:Nx V V:=Below.refl _ _
 simp only [a0,lawB13,seqL,seqR,Tryd.f13]
 gi_wp2
 intro τ1
 generalize hw1:({ V with tape:=τ1 }:World)=w1
 have hO1:Old V w1:=by rw [← hw1];exact .same rfl
 have hOw:Old W w1:=hO0.trans ((Old.nx nV).trans hO1)
 have hrow:w1.heap[w0.heap.size]?=some (.cells (d.cellsA r) 31 (0,0)):=by rw [← hw1,← hV];exact heap_alloc_new _ _
 have hold:∀ b,b<w0.heap.size→w1.heap[b]?=w0.heap[b]?:=fun b hb=>by rw [← hw1,← hV];exact heap_alloc_old _ _ hb
 have hsz:w1.heap.size=w0.heap.size+1:=by rw [← hw1,← hV];simp
 clear hw1
 have c7:w1.cell? ⟨w0.heap.size,7,none⟩=some r.s:=by unfold World.cell?;dsimp only;rw [hrow];rfl
 have c8:w1.cell? ⟨w0.heap.size,8,none⟩=some r.l:=by unfold World.cell?;dsimp only;rw [hrow];rfl
 have f7:w1.frozen? ⟨w0.heap.size,7,none⟩=false:=frozen_of_row _ _ _ _ _ hrow
 have f8:w1.frozen? ⟨w0.heap.size,8,none⟩=false:=frozen_of_row _ _ _ _ _ hrow
 simp only [a1,ap9,ap8,ap7,ap6,ap5,ap4,ap3,ap2,ap1,lawB13,seqL,seqR,Tryd.f13]
 gi_wp2
 have ecl:d.cellsA r=#[r.h,r.t,num d.begin_,num d.week,num d.from_,num d.long,r.f,r.s,r.l,num d.flow.1,num d.flow.2,num d.loss.1,num d.loss.2,r.p]:=rfl
 rw [ecl] at hrow
 generalize hW2:(w1.setCell ⟨w0.heap.size,7,none⟩ (.slice none 0 0)).setCell ⟨w0.heap.size,8,none⟩ (.slice none 0 0)=w2
 have hrow2:w2.heap[w0.heap.size]?=some (.cells (d.bare.cellsA r.bare) 31 (0,0)):=by
  show w2.heap[w0.heap.size]?=some (.cells #[r.h,r.t,num d.begin_,num d.week,num d.from_,num d.long,r.f,.slice none 0 0,.slice none 0 0,num d.flow.1,num d.flow.2,num d.loss.1,num d.loss.2,r.p] 31 (0,0))
  rw [← hW2]
  unfold World.setCell
  simp [Array.getElem?_modify,hrow]
 have hold2:∀ b,b<w0.heap.size→w2.heap[b]?=w0.heap[b]?:=fun b hb=>by
  rw [← hW2,heap_setCell_other _ _ _ _ (by show b≠w0.heap.size;omega),heap_setCell_other _ _ _ _ (by show b≠w0.heap.size;omega)]
  exact hold b hb
 have hsz2:w2.heap.size=w0.heap.size+1:=by rw [← hW2];simpa using hsz
 clear hW2
 exact shares_rest d.bare r.bare x y W w2 w0.heap.size _ _ _ hd.bare hb.bare hg hx hy rfl rfl (hO0.trans (old_blocks (by omega) hold2)) fun w3 o i v h=>by
  rw [o.cell ⟨w0.heap.size,i,none⟩ (by show w0.heap.size<_;omega)]
  unfold World.cell?
  dsimp only
  rw [hrow2]
  exact h
end Go.Proofs.YtolholkjeehamaaDoor

namespace Go.Proofs.YtolholkjeehamaaDoor
open Go.RowKit Go.Con Go.Conc
local instance:Lone:=mainL
theorem results13 (v:Value) (t:Array Value) (h:t[6]?=some v) (σ:Rn):ResultsC Tryd.prog Tryd.f13 (t.map (ren σ)) (ren σ v):=by
 have:=resultsC_tmp (P:=Tryd.prog) (fn:=Tryd.f13) (t:=6) rfl (t.map (ren σ))
 simp only [Array.getD_eq_getD_getElem?,Array.getElem?_map,h,Option.map_some,Option.getD_some] at this
 exact this
theorem shares_go (E Fz Arg:Nat→Prop) (W0:World) (hArg:∀ x,Arg x↔x<W0.heap.size) (Post:Value→World→Prop) (φ:Ph) (d:Dit) (r:Rows6) (x y:Int) (W:World) (hd:DitSl W d r) (hb:d.Big) (hg:Glob W) (hx:0≤x∧x≤65535) (hy:0≤y∧y≤65535)
  (hPost:∀ Fz1 ρ D own A fr W1 W',Here Tryd.prog true E Fz1 Arg W0 ρ D own A fr [] W1 W'→Post (ren ρ (.bool true)) W') :
  GoM Tryd.prog true E Fz Arg W0 (AtEnd Tryd.prog Post) φ [] (Fr 13 #[d.val r,.int .u16 x,.int .u16 y,undef,undef,undef,undef,undef,undef,undef,undef,undef,undef,undef,undef,undef,undef,undef,undef,undef,undef,undef,undef,undef,undef,undef,undef,undef,undef,undef,undef,undef,undef,undef,undef,undef,undef,undef,undef,undef,undef,undef,undef,undef,undef,undef,undef,undef,undef,undef,undef,undef,undef,undef,undef,undef,undef,undef,undef,undef,undef,undef,undef,undef,undef,undef,undef,undef,undef,undef,undef,undef,undef,undef,undef,undef,undef,undef,undef,undef,undef,undef,undef,undef,undef,undef,undef,undef,undef,undef,undef,undef,undef,undef,undef,undef,undef,undef,undef,undef,undef,undef,undef,undef,undef,undef,undef,undef,undef,undef,undef,undef,undef,undef,undef,undef,undef,undef,undef,undef,undef,undef,undef,undef] [.code lawB13]) [] W:=by
 have hgood:goodFn Tryd.prog (.func 13)=false:=by kernel_rfl
 have hL:=shares_lone d r x y W hd hb hg hx hy
 rw [lawB13_eq]
 refine Gm.seq ?_
 refine Gm.lone (F:=FG 13) _ rfl rfl rfl (List.mem_cons_self ..) (FG_ok 13 hgood) (by kernel_rfl) (by kernel_rfl) hL ?_
 clear hL
 intro t0 V0 hL
 refine Gm.seq ?_
 refine Gm.lone (F:=FG 13) _ rfl rfl rfl (List.mem_cons_self ..) (FG_ok 13 hgood) (by kernel_rfl) (by kernel_rfl) hL ?_
 clear hL
 intro t1 V1 hL
 refine Gm.seq (Gm.seq ?_)
 refine Gm.lone (F:=FG 13) _ rfl rfl rfl (List.mem_cons_self ..) (FG_ok 13 hgood) (by kernel_rfl) (by kernel_rfl) hL ?_
 clear hL
 rintro t W1 ⟨hO1,hs,h28 | ⟨h28,hL⟩⟩
 ·refine Gm.cond (b:=true) (eval_tmp h28) rfl ?_
  refine Gm.seq ?_
  rw [a3_eq]
  refine Gm.region ?_
  rw [show List.range opa3.size=[0,1] by kernel_rfl]
  refine Gm.enter (o:=⟨some 29,.call { callee:=.value (.func 20),args:=#[],argTypes:=#[] },_,_,_,none⟩) (c:={ callee:=.value (.func 20),args:=#[],argTypes:=#[] }) rfl rfl rfl rfl (by kernel_rfl) Tryd.func20 body20_of (by kernel_rfl) ?_
  rw [fr20]
  refine flows_go E _ Arg W0 hArg _ _ _ _ _ (hg.old hO1) ?_
  intro WL FzL φL hOL
  rw [Fr_finish (o:=⟨some 29,.call { callee:=.value (.func 20),args:=#[],argTypes:=#[] },_,_,_,none⟩) rfl]
  refine Gm.op (o:=⟨some 6,.assign (.tmp 29),_,_,_,none⟩) (.bool true) WL rfl rfl (by kernel_rfl) rfl (asg_run _ (eval_tmp (by simp only [putD_get,putD_same,putD_size,hs,ne_eq,Nat.reduceEqDiff,not_false_eq_true,Nat.reduceLT]))) id ?_
  refine Gm.regionEnd ?_
  refine Gm.done Tryd.func13 (by kernel_rfl) (results13 (.bool true) _ (by simp only [putD_get,putD_same,putD_size,hs,ne_eq,Nat.reduceEqDiff,not_false_eq_true,Nat.reduceLT])) ?_
  exact fun ρ D own A fr W' h=>hPost _ ρ D own A fr _ W' h
 ·refine Gm.cond (b:=false) (eval_tmp h28) rfl ?_
  refine Gm.skip ?_
  refine Gm.seq ?_
  refine Gm.lone (F:=FG 13) _ rfl rfl rfl (List.mem_cons_self ..) (FG_ok 13 hgood) (by kernel_rfl) (by kernel_rfl) hL ?_
  clear hL
  intro t4 V4 hL
  refine Gm.seq ?_
  refine Gm.lone (F:=FG 13) _ rfl rfl rfl (List.mem_cons_self ..) (FG_ok 13 hgood) (by kernel_rfl) (by kernel_rfl) hL ?_
  clear hL
  intro t5 V5 hL
  refine Gm.seq ?_
  refine Gm.lone (F:=FG 13) _ rfl rfl rfl (List.mem_cons_self ..) (FG_ok 13 hgood) (by kernel_rfl) (by kernel_rfl) hL ?_
  clear hL
  intro t6 V6 hL
  refine Gm.seq (Gm.seq ?_)
  refine Gm.lone (F:=FG 13) _ rfl rfl rfl (List.mem_cons_self ..) (FG_ok 13 hgood) (by kernel_rfl) (by kernel_rfl) hL ?_
  clear hL
  clear hO1 hs h28
  rintro t W2 ⟨hO2,hs,h61 | ⟨h61,hL⟩⟩
  ·refine Gm.cond (b:=true) (eval_tmp h61) rfl ?_
   refine Gm.seq ?_
   rw [a8_eq]
   refine Gm.region ?_
   rw [show List.range opa8.size=[0,1] by kernel_rfl]
   refine Gm.enter (o:=⟨some 62,.call { callee:=.value (.func 20),args:=#[],argTypes:=#[] },_,_,_,none⟩) (c:={ callee:=.value (.func 20),args:=#[],argTypes:=#[] }) rfl rfl rfl rfl (by kernel_rfl) Tryd.func20 body20_of (by kernel_rfl) ?_
   rw [fr20]
   refine flows_go E _ Arg W0 hArg _ _ _ _ _ (hg.old hO2) ?_
   intro WL FzL φL hOL
   rw [Fr_finish (o:=⟨some 62,.call { callee:=.value (.func 20),args:=#[],argTypes:=#[] },_,_,_,none⟩) rfl]
   refine Gm.op (o:=⟨some 6,.assign (.tmp 62),_,_,_,none⟩) (.bool true) WL rfl rfl (by kernel_rfl) rfl (asg_run _ (eval_tmp (by simp only [putD_get,putD_same,putD_size,hs,ne_eq,Nat.reduceEqDiff,not_false_eq_true,Nat.reduceLT]))) id ?_
   refine Gm.regionEnd ?_
   refine Gm.done Tryd.func13 (by kernel_rfl) (results13 (.bool true) _ (by simp only [putD_get,putD_same,putD_size,hs,ne_eq,Nat.reduceEqDiff,not_false_eq_true,Nat.reduceLT])) ?_
   exact fun ρ D own A fr W' h=>hPost _ ρ D own A fr _ W' h
  ·refine Gm.cond (b:=false) (eval_tmp h61) rfl ?_
   refine Gm.skip ?_
   refine Gm.seq ?_
   refine Gm.lone (F:=FG 13) _ rfl rfl rfl (List.mem_cons_self ..) (FG_ok 13 hgood) (by kernel_rfl) (by kernel_rfl) hL ?_
   clear hL
   intro t9 V9 hL
   refine Gm.seq ?_
   refine Gm.lone (F:=FG 13) _ rfl rfl rfl (List.mem_cons_self ..) (FG_ok 13 hgood) (by kernel_rfl) (by kernel_rfl) hL ?_
   clear hL
   clear hO2 hs h61
   rintro t W3 ⟨hO3,h0,b,tb,to,tn,tc,hn,hs,k18,k15,k3,k16,k1,k17,g1,g2⟩
   refine Gm.seq ?_
   rw [a16_eq]
   refine Gm.region ?_
   rw [show List.range opa16.size=[0,1,2,3,4,5,6,7,8,9,10,11,12,13,14,15,16,17,18,19,20,21,22,23,24,25] by kernel_rfl]
   refine Gm.op (o:=⟨some 99,.move (.tmp 18),_,_,_,none⟩) (num 0) W3 rfl rfl (by kernel_rfl) rfl (mvg_run _ (eval_tmp (by simp only [putD_get,putD_same,putD_size,hs,k18,k15,k3,k16,k1,k17,ne_eq,Nat.reduceEqDiff,not_false_eq_true,Nat.reduceLT]))) id ?_
   refine Gm.op (o:=⟨some 100,.binOp .eql 37 (.tmp 99) (.const (.int .i64 0)) 37,_,_,_,none⟩) (.bool true) W3 rfl rfl (by kernel_rfl) rfl (eqcR37_run (n:=0) _ (eval_tmp (by simp only [putD_get,putD_same,putD_size,hs,k18,k15,k3,k16,k1,k17,ne_eq,Nat.reduceEqDiff,not_false_eq_true,Nat.reduceLT])) rfl) id ?_
   refine Gm.op (o:=⟨some 101,.move (.tmp 100),_,_,_,none⟩) (.bool true) W3 rfl rfl (by kernel_rfl) rfl (mvg_run _ (eval_tmp (by simp only [putD_get,putD_same,putD_size,hs,k18,k15,k3,k16,k1,k17,ne_eq,Nat.reduceEqDiff,not_false_eq_true,Nat.reduceLT]))) id ?_
   refine Gm.op (o:=⟨some 102,.move (.tmp 15),_,_,_,some (2,true)⟩) (num h0) W3 rfl (wanted_guard (i:=2) (b:=true) (d:=101) rfl rfl (by simp only [putD_get,putD_same,putD_size,hs,k18,k15,k3,k16,k1,k17,ne_eq,Nat.reduceEqDiff,not_false_eq_true,Nat.reduceLT])) (by kernel_rfl) rfl (mvg_run _ (eval_tmp (by simp only [putD_get,putD_same,putD_size,hs,k18,k15,k3,k16,k1,k17,ne_eq,Nat.reduceEqDiff,not_false_eq_true,Nat.reduceLT]))) id ?_
   refine Gm.op (o:=⟨some 103,.fieldAddr 31 (.tmp 3) 1,_,_,_,some (2,true)⟩) (.pointer (some ⟨b,1,none⟩)) W3 rfl (wanted_guard (i:=2) (b:=true) (d:=101) rfl rfl (by simp only [putD_get,putD_same,putD_size,hs,k18,k15,k3,k16,k1,k17,ne_eq,Nat.reduceEqDiff,not_false_eq_true,Nat.reduceLT])) (by kernel_rfl) rfl (fa31_1g_run _ (eval_tmp (by simp only [putD_get,putD_same,putD_size,hs,k18,k15,k3,k16,k1,k17,ne_eq,Nat.reduceEqDiff,not_false_eq_true,Nat.reduceLT]))) id ?_
   refine Gm.op (o:=⟨some 104,.load 23 (.tmp 103),_,_,_,some (2,true)⟩) (.slice (some ⟨tb,to,none⟩) tn tc) W3 rfl (wanted_guard (i:=2) (b:=true) (d:=101) rfl rfl (by simp only [putD_get,putD_same,putD_size,hs,k18,k15,k3,k16,k1,k17,ne_eq,Nat.reduceEqDiff,not_false_eq_true,Nat.reduceLT])) (by kernel_rfl) rfl (ld23g_run _ (eval_tmp (by simp only [putD_get,putD_same,putD_size,hs,k18,k15,k3,k16,k1,k17,ne_eq,Nat.reduceEqDiff,not_false_eq_true,Nat.reduceLT])) g1) id ?_
   refine Gm.op (o:=⟨some 105,.indexAddr 23 (.tmp 104) (.const (.int .i64 0)),_,_,_,some (2,true)⟩) (.pointer (some ⟨tb,to,none⟩)) W3 rfl (wanted_guard (i:=2) (b:=true) (d:=101) rfl rfl (by simp only [putD_get,putD_same,putD_size,hs,k18,k15,k3,k16,k1,k17,ne_eq,Nat.reduceEqDiff,not_false_eq_true,Nat.reduceLT])) (by kernel_rfl) rfl (ix23cg_run (n:=tn) (c:=tc) _ (eval_tmp (by simp only [putD_get,putD_same,putD_size,hs,k18,k15,k3,k16,k1,k17,ne_eq,Nat.reduceEqDiff,not_false_eq_true,Nat.reduceLT])) rfl hn) id ?_
   refine Gm.op (o:=⟨some 106,.fieldAddr 83 (.tmp 105) 0,_,_,_,some (2,true)⟩) (.pointer (some ⟨tb,to,none⟩)) W3 rfl (wanted_guard (i:=2) (b:=true) (d:=101) rfl rfl (by simp only [putD_get,putD_same,putD_size,hs,k18,k15,k3,k16,k1,k17,ne_eq,Nat.reduceEqDiff,not_false_eq_true,Nat.reduceLT])) (by kernel_rfl) rfl (fa83_0g_run _ (eval_tmp (by simp only [putD_get,putD_same,putD_size,hs,k18,k15,k3,k16,k1,k17,ne_eq,Nat.reduceEqDiff,not_false_eq_true,Nat.reduceLT]))) id ?_
   refine Gm.op (o:=⟨some 107,.load 3 (.tmp 106),_,_,_,some (2,true)⟩) (num h0) W3 rfl (wanted_guard (i:=2) (b:=true) (d:=101) rfl rfl (by simp only [putD_get,putD_same,putD_size,hs,k18,k15,k3,k16,k1,k17,ne_eq,Nat.reduceEqDiff,not_false_eq_true,Nat.reduceLT])) (by kernel_rfl) rfl (ld3g_run _ (eval_tmp (by simp only [putD_get,putD_same,putD_size,hs,k18,k15,k3,k16,k1,k17,ne_eq,Nat.reduceEqDiff,not_false_eq_true,Nat.reduceLT])) g2) id ?_
   refine Gm.op (o:=⟨some 108,.binOp .eql 3 (.tmp 102) (.tmp 107) 3,_,_,_,some (2,true)⟩) (.bool true) W3 rfl (wanted_guard (i:=2) (b:=true) (d:=101) rfl rfl (by simp only [putD_get,putD_same,putD_size,hs,k18,k15,k3,k16,k1,k17,ne_eq,Nat.reduceEqDiff,not_false_eq_true,Nat.reduceLT])) (by kernel_rfl) rfl (eq3_run (n:=h0) _ (eval_tmp (by simp only [putD_get,putD_same,putD_size,hs,k18,k15,k3,k16,k1,k17,ne_eq,Nat.reduceEqDiff,not_false_eq_true,Nat.reduceLT])) (eval_tmp (by simp only [putD_get,putD_same,putD_size,hs,k18,k15,k3,k16,k1,k17,ne_eq,Nat.reduceEqDiff,not_false_eq_true,Nat.reduceLT]))) id ?_
   refine Gm.op (o:=⟨some 109,.pick (.tmp 101) (.tmp 108) (.const (.bool false)),_,_,_,none⟩) (.bool true) W3 rfl rfl (by kernel_rfl) rfl (pick_run _ (eval_tmp (by simp only [putD_get,putD_same,putD_size,hs,k18,k15,k3,k16,k1,k17,ne_eq,Nat.reduceEqDiff,not_false_eq_true,Nat.reduceLT])) (eval_tmp (by simp only [putD_get,putD_same,putD_size,hs,k18,k15,k3,k16,k1,k17,ne_eq,Nat.reduceEqDiff,not_false_eq_true,Nat.reduceLT]))) id ?_
   refine Gm.op (o:=⟨some 110,.move (.tmp 109),_,_,_,none⟩) (.bool true) W3 rfl rfl (by kernel_rfl) rfl (mvg_run _ (eval_tmp (by simp only [putD_get,putD_same,putD_size,hs,k18,k15,k3,k16,k1,k17,ne_eq,Nat.reduceEqDiff,not_false_eq_true,Nat.reduceLT]))) id ?_
   refine Gm.op (o:=⟨some 111,.move (.tmp 16),_,_,_,some (11,true)⟩) (num (x % 200)) W3 rfl (wanted_guard (i:=11) (b:=true) (d:=110) rfl rfl (by simp only [putD_get,putD_same,putD_size,hs,k18,k15,k3,k16,k1,k17,ne_eq,Nat.reduceEqDiff,not_false_eq_true,Nat.reduceLT])) (by kernel_rfl) rfl (mvg_run _ (eval_tmp (by simp only [putD_get,putD_same,putD_size,hs,k18,k15,k3,k16,k1,k17,ne_eq,Nat.reduceEqDiff,not_false_eq_true,Nat.reduceLT]))) id ?_
   refine Gm.op (o:=⟨some 112,.move (.tmp 1),_,_,_,some (11,true)⟩) (.int .u16 x) W3 rfl (wanted_guard (i:=11) (b:=true) (d:=110) rfl rfl (by simp only [putD_get,putD_same,putD_size,hs,k18,k15,k3,k16,k1,k17,ne_eq,Nat.reduceEqDiff,not_false_eq_true,Nat.reduceLT])) (by kernel_rfl) rfl (mvg_run _ (eval_tmp (by simp only [putD_get,putD_same,putD_size,hs,k18,k15,k3,k16,k1,k17,ne_eq,Nat.reduceEqDiff,not_false_eq_true,Nat.reduceLT]))) id ?_
   refine Gm.op (o:=⟨some 113,.convert 77 3 (.tmp 112),_,_,_,some (11,true)⟩) (num x) W3 rfl (wanted_guard (i:=11) (b:=true) (d:=110) rfl rfl (by simp only [putD_get,putD_same,putD_size,hs,k18,k15,k3,k16,k1,k17,ne_eq,Nat.reduceEqDiff,not_false_eq_true,Nat.reduceLT])) (by kernel_rfl) rfl (cv77g_run _ (eval_tmp (by simp only [putD_get,putD_same,putD_size,hs,k18,k15,k3,k16,k1,k17,ne_eq,Nat.reduceEqDiff,not_false_eq_true,Nat.reduceLT])) hx) id ?_
   refine Gm.op (o:=⟨some 114,.binOp .rem 3 (.tmp 113) (.const (.int .i64 200)) 3,_,_,_,some (11,true)⟩) (num (x % 200)) W3 rfl (wanted_guard (i:=11) (b:=true) (d:=110) rfl rfl (by simp only [putD_get,putD_same,putD_size,hs,k18,k15,k3,k16,k1,k17,ne_eq,Nat.reduceEqDiff,not_false_eq_true,Nat.reduceLT])) (by kernel_rfl) rfl (rem200g_run (n:=x) _ (eval_tmp (by simp only [putD_get,putD_same,putD_size,hs,k18,k15,k3,k16,k1,k17,ne_eq,Nat.reduceEqDiff,not_false_eq_true,Nat.reduceLT])) rfl (by omega)) id ?_
   refine Gm.op (o:=⟨some 115,.binOp .eql 3 (.tmp 111) (.tmp 114) 3,_,_,_,some (11,true)⟩) (.bool true) W3 rfl (wanted_guard (i:=11) (b:=true) (d:=110) rfl rfl (by simp only [putD_get,putD_same,putD_size,hs,k18,k15,k3,k16,k1,k17,ne_eq,Nat.reduceEqDiff,not_false_eq_true,Nat.reduceLT])) (by kernel_rfl) rfl (eq3_run (n:=(x % 200)) _ (eval_tmp (by simp only [putD_get,putD_same,putD_size,hs,k18,k15,k3,k16,k1,k17,ne_eq,Nat.reduceEqDiff,not_false_eq_true,Nat.reduceLT])) (eval_tmp (by simp only [putD_get,putD_same,putD_size,hs,k18,k15,k3,k16,k1,k17,ne_eq,Nat.reduceEqDiff,not_false_eq_true,Nat.reduceLT]))) id ?_
   refine Gm.op (o:=⟨some 116,.pick (.tmp 110) (.tmp 115) (.const (.bool false)),_,_,_,none⟩) (.bool true) W3 rfl rfl (by kernel_rfl) rfl (pick_run _ (eval_tmp (by simp only [putD_get,putD_same,putD_size,hs,k18,k15,k3,k16,k1,k17,ne_eq,Nat.reduceEqDiff,not_false_eq_true,Nat.reduceLT])) (eval_tmp (by simp only [putD_get,putD_same,putD_size,hs,k18,k15,k3,k16,k1,k17,ne_eq,Nat.reduceEqDiff,not_false_eq_true,Nat.reduceLT]))) id ?_
   refine Gm.op (o:=⟨some 117,.move (.tmp 116),_,_,_,none⟩) (.bool true) W3 rfl rfl (by kernel_rfl) rfl (mvg_run _ (eval_tmp (by simp only [putD_get,putD_same,putD_size,hs,k18,k15,k3,k16,k1,k17,ne_eq,Nat.reduceEqDiff,not_false_eq_true,Nat.reduceLT]))) id ?_
   refine Gm.op (o:=⟨some 118,.move (.tmp 17),_,_,_,some (18,true)⟩) (num 0) W3 rfl (wanted_guard (i:=18) (b:=true) (d:=117) rfl rfl (by simp only [putD_get,putD_same,putD_size,hs,k18,k15,k3,k16,k1,k17,ne_eq,Nat.reduceEqDiff,not_false_eq_true,Nat.reduceLT])) (by kernel_rfl) rfl (mvg_run _ (eval_tmp (by simp only [putD_get,putD_same,putD_size,hs,k18,k15,k3,k16,k1,k17,ne_eq,Nat.reduceEqDiff,not_false_eq_true,Nat.reduceLT]))) id ?_
   refine Gm.op (o:=⟨some 119,.binOp .eql 3 (.tmp 118) (.const (.int .i64 0)) 3,_,_,_,some (18,true)⟩) (.bool true) W3 rfl (wanted_guard (i:=18) (b:=true) (d:=117) rfl rfl (by simp only [putD_get,putD_same,putD_size,hs,k18,k15,k3,k16,k1,k17,ne_eq,Nat.reduceEqDiff,not_false_eq_true,Nat.reduceLT])) (by kernel_rfl) rfl (eqcR3_run (n:=0) _ (eval_tmp (by simp only [putD_get,putD_same,putD_size,hs,k18,k15,k3,k16,k1,k17,ne_eq,Nat.reduceEqDiff,not_false_eq_true,Nat.reduceLT])) rfl) id ?_
   refine Gm.op (o:=⟨some 120,.pick (.tmp 117) (.tmp 119) (.const (.bool false)),_,_,_,none⟩) (.bool true) W3 rfl rfl (by kernel_rfl) rfl (pick_run _ (eval_tmp (by simp only [putD_get,putD_same,putD_size,hs,k18,k15,k3,k16,k1,k17,ne_eq,Nat.reduceEqDiff,not_false_eq_true,Nat.reduceLT])) (eval_tmp (by simp only [putD_get,putD_same,putD_size,hs,k18,k15,k3,k16,k1,k17,ne_eq,Nat.reduceEqDiff,not_false_eq_true,Nat.reduceLT]))) id ?_
   refine Gm.op (o:=⟨some 121,.move (.tmp 120),_,_,_,none⟩) (.bool true) W3 rfl rfl (by kernel_rfl) rfl (mvg_run _ (eval_tmp (by simp only [putD_get,putD_same,putD_size,hs,k18,k15,k3,k16,k1,k17,ne_eq,Nat.reduceEqDiff,not_false_eq_true,Nat.reduceLT]))) id ?_
   refine Gm.enter (o:=⟨some 122,.call { callee:=.value (.func 20),args:=#[],argTypes:=#[] },_,_,_,some (22,true)⟩) (c:={ callee:=.value (.func 20),args:=#[],argTypes:=#[] }) rfl (wanted_guard (i:=22) (b:=true) (d:=121) rfl rfl (by simp only [putD_get,putD_same,putD_size,hs,k18,k15,k3,k16,k1,k17,ne_eq,Nat.reduceEqDiff,not_false_eq_true,Nat.reduceLT])) rfl rfl (by kernel_rfl) Tryd.func20 body20_of (by kernel_rfl) ?_
   rw [fr20]
   refine flows_go E _ Arg W0 hArg _ _ _ _ _ (hg.old hO3) ?_
   intro WL FzL φL hOL
   rw [Fr_finish (o:=⟨some 122,.call { callee:=.value (.func 20),args:=#[],argTypes:=#[] },_,_,_,some (22,true)⟩) rfl]
   refine Gm.op (o:=⟨some 123,.pick (.tmp 121) (.tmp 122) (.const (.bool false)),_,_,_,none⟩) (.bool true) WL rfl rfl (by kernel_rfl) rfl (pick_run _ (eval_tmp (by simp only [putD_get,putD_same,putD_size,hs,k18,k15,k3,k16,k1,k17,ne_eq,Nat.reduceEqDiff,not_false_eq_true,Nat.reduceLT])) (eval_tmp (by simp only [putD_get,putD_same,putD_size,hs,k18,k15,k3,k16,k1,k17,ne_eq,Nat.reduceEqDiff,not_false_eq_true,Nat.reduceLT]))) id ?_
   refine Gm.op (o:=⟨some 6,.assign (.tmp 123),_,_,_,none⟩) (.bool true) WL rfl rfl (by kernel_rfl) rfl (asg_run _ (eval_tmp (by simp only [putD_get,putD_same,putD_size,hs,k18,k15,k3,k16,k1,k17,ne_eq,Nat.reduceEqDiff,not_false_eq_true,Nat.reduceLT]))) id ?_
   refine Gm.regionEnd ?_
   refine Gm.done Tryd.func13 (by kernel_rfl) (results13 (.bool true) _ (by simp only [putD_get,putD_same,putD_size,hs,k18,k15,k3,k16,k1,k17,ne_eq,Nat.reduceEqDiff,not_false_eq_true,Nat.reduceLT])) ?_
   exact fun ρ D own A fr W' h=>hPost _ ρ D own A fr _ W' h
end Go.Proofs.YtolholkjeehamaaDoor

namespace Go.Proofs.YtolholkjeehamaaDoor
open Go.RowKit Go.Con Go.Conc Go.ChangeShapes Go.WideShapes Go.ChangeAt
local instance:Lone:=mainL
theorem fr13 (a0 a1 a2:Value):#[a0,a1,a2]++Array.replicate (Tryd.f13.ntmps-(#[a0,a1,a2]:Array Value).size) undef=#[a0,a1,a2,undef,undef,undef,undef,undef,undef,undef,undef,undef,undef,undef,undef,undef,undef,undef,undef,undef,undef,undef,undef,undef,undef,undef,undef,undef,undef,undef,undef,undef,undef,undef,undef,undef,undef,undef,undef,undef,undef,undef,undef,undef,undef,undef,undef,undef,undef,undef,undef,undef,undef,undef,undef,undef,undef,undef,undef,undef,undef,undef,undef,undef,undef,undef,undef,undef,undef,undef,undef,undef,undef,undef,undef,undef,undef,undef,undef,undef,undef,undef,undef,undef,undef,undef,undef,undef,undef,undef,undef,undef,undef,undef,undef,undef,undef,undef,undef,undef,undef,undef,undef,undef,undef,undef,undef,undef,undef,undef,undef,undef,undef,undef,undef,undef,undef,undef,undef,undef,undef,undef,undef,undef]:=by
 simp only [Tryd.ntmps13,List.size_toArray,List.length_cons,List.length_nil,Nat.reduceAdd,Nat.reduceSub,Array.replicate_succ,Array.replicate_zero,List.push_toArray,List.append_toArray,List.nil_append,List.cons_append]
theorem shares_fin (d:Dit) (r:Rows6) (x1:Int) (x2:Int) (W:World) (hd:DitSl W d r) (hb:d.Big) (hg:Glob W) (hx1:(0≤x1∧x1≤65535)) (hx2:(0≤x2∧x2≤65535)) :
  Con.Fin Tryd.prog (fun u W'=>u=.bool true∧Con.Left W W') (solo (G (Frame.enter Tryd.prog 13 #[d.val r,.int .u16 x1,.int .u16 x2] .normal) []) W) #[]:=by
 refine law_fin Tryd.func13 lawB13_of hg (fun v hv=>?_) fun c Post hPost=>?_
 ·simp only [List.mem_cons,List.not_mem_nil,or_false] at hv
  rcases hv with rfl | rfl | rfl
  ·exact hd.same
  ·exact⟨fun c=>by simp [ren],by simp [ren]⟩
  ·exact⟨fun c=>by simp [ren],by simp [ren]⟩
 ·rw [fr13]
  exact shares_go _ _ _ _ (fun _=>Iff.rfl) Post _ d r x1 x2 _ hd.entry hb hg.entry hx1 hx2 hPost
theorem shares_lifted (os:Os) (started:os.Started) (H:Type) (enc:TypeId×Value→H) :
  ReturnsInLeavingWide {} Tryd.checked os 13 .any (fun w args=>(Rows.turnSharesSpec.pre enc Tryd.prog Tryd.f13 [] false w args∧laidMetH Tryd.prog laid2 w)∧sizedMet enc Tryd.prog Tryd.f13 (OpenSpec.ofChange Rows.turnSharesSpec) false w args)
   (Rows.turnSharesSpec.post enc Tryd.prog Tryd.f13 false true false false):=by
 refine returnsInLeavingWide_and (C:=Tryd.checked) (X:=fun w _=>laidMetH Tryd.prog laid2 w) (fun _ _ _ hh h=>h.of_heap hh) own_knob started Tryd.func13
  (ChangeSpec.witness_shaped (enc:=enc) (C:=Tryd.checked) (os:=os) (X:=fun w _=>laidMetH Tryd.prog laid2 w) false (World.doorLaid Tryd.prog 600 os)
   #[.agg #[.slice none 0 0,.slice none 0 0,.int .i64 0,.int .i64 0,.int .i64 0,.int .i64 0,.slice none 0 0,.slice none 0 0,.slice none 0 0,.int .i64 0,.int .i64 0,.int .i64 0,.int .i64 0,.slice none 0 0],.int .u16 0,.int .u16 0] 8 rfl (World.shaped_of_RefB (by kernel_rfl) (by kernel_rfl)) (by kernel_rfl) (by kernel_rfl) (by kernel_rfl) (door_met os _)) ?_
 intro W base args ds gs before hval0 hW _ hsz hL
 have hval:∀ (j:Nat) t v,Tryd.f13.params[j]?=some t→args[j]?=some v→Value.okWide Tryd.prog W .any base t v:=hval0
 have hW':=hW
 obtain⟨p,q,hA0,hV,rfl,hfz,hnd⟩:=hW
 have hA:DataW.TrodAll enc Tryd.prog W 0 (fun _=>true) true Tryd.f13.params.toList args.toList ds p:=hA0
 rw [Tryd.params13] at hA hval
 obtain⟨v0,v1,v2,d0,d1,d2,p0,p1,p2,rfl,rfl,rfl,h0,h1,h2⟩:=trodAll_three hA
 obtain⟨rfl,rfl⟩:=trodVars_none hV
 obtain⟨x1,rfl,rfl,rfl,w1⟩:=open_int Tryd.underlying77 (hval 1 77 v1 rfl rfl) h1
 have hx1:0≤x1∧x1≤65535:=by
  have h:=w1
  simp only [Lit.wf,Bool.and_eq_true,decide_eq_true_eq] at h
  exact h
 obtain⟨x2,rfl,rfl,rfl,w2⟩:=open_int Tryd.underlying77 (hval 2 77 v2 rfl rfl) h2
 have hx2:0≤x2∧x2≤65535:=by
  have h:=w2
  simp only [Lit.wf,Bool.and_eq_true,decide_eq_true_eq] at h
  exact h
 have hfit:Fits 31 d0:=fun n hn=>by
  have:=List.all_eq_true.1 hsz n (DataW.weights_mem_each (P:=Tryd.prog) (j:=0) (t:=31) (d:=d0) (by rw [show Tryd.checked.prog=Tryd.prog from rfl,Tryd.params13];rfl) rfl n hn)
  simpa using this
 obtain⟨d,r,rfl,hd,hb⟩:=dit_open (hval 0 31 v0 rfl rfl) h0 hfit
 clear hA0 hval0
 try simp only [List.append_nil] at hW'
 have hlt:=fun x hx=>hW'.lt x hx
 try simp only [Array.size_empty,Nat.add_zero] at hlt
 refine fin_post (shares_fin d r x1 x2 W hd hb (of_laid hL) hx1 hx2) fun W' hl=>?_
 have ha:=trodAll_mk3 (left_trod (by kernel_rfl) (of_decide_eq_true (by kernel_rfl)) h0 hl fun x hx=>hlt x (by simp [hx])) (shut_int Tryd.underlying77 w1) (shut_int Tryd.underlying77 w2)
 try simp only [List.append_nil] at ha
 exact⟨[d0,.lit (.int .u16 x1),.lit (.int .u16 x2)],[],_,[],_,[],hW',trodAll_mk1 (shut_bool Tryd.underlying4 _),ha,rfl,left_kept hl _,fun h=>by cases h⟩
theorem shares_holds:Rows.TurnSharesSaid :=
 OpenClaim.holds_of_wide_leaving 13 Tryd.f13 rfl rfl rfl rfl rfl rfl rfl ⟨rfl,rfl,rfl,rfl,rfl⟩ rfl rfl rfl rfl rfl (by kernel_rfl) Tryd.func13 (by kernel_rfl)
  (of_decide_eq_true (by kernel_rfl)) (by unfold Func.isWrapper;first | (rw [if_pos (by decide +kernel)];kernel_rfl) | (rw [if_neg (by decide +kernel)];exact⟨rfl,rfl⟩))
  (fun os started H enc _=>shares_lifted os started H enc)
theorem shares_card:Rows.TurnSharesCardSaid :=
 tied_plain_goes .later [] [.funcs,.data] true (true,"13bbfa5877394a3cde13138796d6bb679173f8167c87f9ccc98cd9f3e99a425f") false true
  shares_holds (fun _ h=>by cases h) (by kernel_rfl) (fun _ h=>by cases h) turnShares_row_tie rfl ⟨rfl,rfl⟩ (by kernel_rfl) rfl
  (fun f fn hf hfn=>by
   obtain rfl:f=13:=Option.some.inj ((show Tryd.prog.funcNamed "crocus/crocuslaw02.TurnShares" = some 13 by kernel_rfl).symm.trans hf) |>.symm
   obtain rfl:fn=Tryd.f13:=(Option.some.inj (Tryd.func13.symm.trans hfn)).symm
   exact⟨by kernel_rfl,fun j t ht=>by
    rw [Tryd.params13] at ht
    have hm:t∈[31,77,77]:=by simpa using Array.mem_of_getElem? ht
    have hall:([31,77,77].all fun u=>!Tryd.prog.wantsStandIn u)=true:=by kernel_rfl
    exact (show Tryd.prog.wantsStandIn t=false by simpa using List.all_eq_true.1 hall t hm)⟩)
  (by kernel_rfl)
#print axioms shares_card
end Go.Proofs.YtolholkjeehamaaDoor

