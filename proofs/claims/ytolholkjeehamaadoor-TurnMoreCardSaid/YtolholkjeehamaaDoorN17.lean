/- For every ditch, any byte, any three words of thirty-two bits, any three words of sixteen bits and one more the law TurnMore returns true, does not panic, and leaves its arguments as they were. Conditions: the package's variables hold what the program lays in them at its start (laid), and the arguments are values as the card tells. -/
import Derived.Test.YtolholkjeehamaaDoorR1
import Derived.Test.YtolholkjeehamaaDoorR40
import Derived.Test.YtolholkjeehamaaDoorC39
import Derived.Test.YtolholkjeehamaaDoorC34
import Derived.Test.YtolholkjeehamaaDoorC09
import Derived.WalkKit
import Derived.Test.YtolholkjeehamaaDoorProg
import Derived.OwnWalkIn
import Derived.TacticsInMore
import Derived.RegionIn
import Derived.LoopNIn
import Derived.LoopIn
import Derived.RecoverIn
import Derived.Sort.BigQuietIn
import Derived.Sort.CutIn
import Derived.Handy
import Derived.Maps.OwnIn
import Derived.Maps.OwnSet
import Derived.Maps.RangeWalk
import Derived.Sort.MapsRangeIn
import Derived.Laws.IdiomStrings
import Derived.Lib.Hide
import Derived.Maps.AppendAt
import Derived.Lib.SliceRun
import Derived.RangeFuncNested
import Derived.RangeFuncBound
import Derived.RangeFuncCalls
import Derived.RangeFuncLeaves
import Derived.Shelf.Abstract
import Derived.Shelf.RegionOpen
import Derived.Stop.RegionWithIn
import Derived.Sort.QuietThIn
import Derived.StillTail
import Derived.Conc.SmallLaws
import Derived.Laws.MakeOwn
import Derived.Laws.EntriesVeiled
import Derived.Test.YtolholkjeehamaaDoorChecked
import Derived.ProofKit
import Derived.LaidMore
import Derived.OpenShut
import Derived.Stop.Joined
import Derived.Test.YtolholkjeehamaaDoorTie
import Derived.Test.YtolholkjeehamaaDoorCards
import Derived.Conc.LeavingOf
import Derived.SevenTiedAt
import Derived.Carry
import Derived.Deep.Upon
set_option linter.all false
set_option maxRecDepth 100000
set_option maxHeartbeats 4000000
namespace Go.Proofs.YtolholkjeehamaaDoor
open Go.RowKit
theorem scan_all {α:Type} {f:Nat→α→Int}:∀ {l:List α} {i:Nat},(∀ j x,l[j]?=some x→f (i+j) x=0)→scan f i l=0
 | [],_,_=>rfl
 | y :: l,i,H=>by
  rw [scan,if_pos (by simpa using H 0 y rfl)]
  exact scan_all fun j x h=>by
   have:=H (j+1) x (by simpa using h)
   rwa [show i+(j+1)=i+1+j by omega] at this
end Go.Proofs.YtolholkjeehamaaDoor

namespace Go.Proofs.YtolholkjeehamaaDoor
open Go.RowKit Go.Con Go.Conc Go.ChangeShapes Go.WideShapes Go.ChangeAt
section
variable {H:Type} {enc:TypeId×Value→H} {W:World}
theorem read_u16 {n:Nat} {cs:List Value} {y:DataW H×List MemPlace} (h:trodW enc W n 77 cs=some y):∃ k:Int,cs=[Value.int .u16 k]∧(0≤k∧k≤65535):=by
 obtain⟨k,h1,_,h3⟩:=DataW.trod_int Tryd.underlying77 h
 simp only [Lit.wf,Bool.and_eq_true,decide_eq_true_eq] at h3
 exact⟨k,h1,h3⟩
end
section
variable {H:Type} {enc:TypeId×Value→H} {P:Program} {w:World} {base:Nat} {spare:Nat→Bool} {held:Bool}
theorem trodAll_mk5 {t t1 t2 t3 t4:TypeId} {v v1 v2 v3 v4:Value} {d d1 d2 d3 d4:DataW H} {p p1 p2 p3 p4:List MemPlace} (h:DataW.Trod enc P w base spare held t v d p) (h1:DataW.Trod enc P w base spare held t1 v1 d1 p1)
  (h2:DataW.Trod enc P w base spare held t2 v2 d2 p2) (h3:DataW.Trod enc P w base spare held t3 v3 d3 p3) (h4:DataW.Trod enc P w base spare held t4 v4 d4 p4):DataW.TrodAll enc P w base spare held [t,t1,t2,t3,t4] [v,v1,v2,v3,v4] [d,d1,d2,d3,d4] (p++(p1++(p2++(p3++p4)))):=⟨p,p1++(p2++(p3++p4)),h,trodAll_mk4 h1 h2 h3 h4,rfl⟩
end
end Go.Proofs.YtolholkjeehamaaDoor

namespace Go.Proofs.YtolholkjeehamaaDoor
open Go.RowKit Go.Con Go.Conc
local instance:Lone:=mainL
section
variable {dst:Option Nat} {ty:TypeId} {pos:String} {af:Array Edge} {x y c b o:Nat} {w:World} {gd:Option (Nat×Bool)} (e:Operand→Value)
theorem geqR_run {n m:Int} (h:e (.tmp x)=num n) (h2:e (.tmp y)=num m) (hn:m≤n) (τ:Tape):(execOp e ⟨dst,.binOp .geq 3 (.tmp x) (.tmp y) 3,ty,pos,af,gd⟩).run Tryd.prog { w with tape:=τ }=.ok (.value (.bool true)) { w with tape:=τ }:=by
 simp [execOp,go_sem,h,h2,hn]
theorem eqcR37_run {n:Int} (h:e (.tmp x)=num n) (h2:e (.const (.int .i64 n))=num n) (τ:Tape):(execOp e ⟨dst,.binOp .eql 37 (.tmp x) (.const (.int .i64 n)) 37,ty,pos,af,gd⟩).run Tryd.prog { w with tape:=τ }=.ok (.value (.bool true)) { w with tape:=τ }:=by
 simp [execOp,go_sem,h,h2]
end
theorem min3_run (a b c:Int) (w:World):(Builtin.min_ #[3,3,3] 3 #[.int .i64 a,.int .i64 b,.int .i64 c]).run Tryd.prog w=.ok (.int .i64 (min (min a b) c)) w:=by
 rw [show min (min a b) c=if c<(if b<a then b else a) then c else if b<a then b else a by omega]
 by_cases h:b<a<;>simp [Builtin.min_,Builtin.min2,go_sem,h]
theorem max3_run (a b c:Int) (w:World):(Builtin.max_ #[3,3,3] 3 #[.int .i64 a,.int .i64 b,.int .i64 c]).run Tryd.prog w=.ok (.int .i64 (max (max a b) c)) w:=by
 rw [show max (max a b) c=if (if a<b then b else a)<c then c else if a<b then b else a by omega]
 by_cases h:a<b<;>simp [Builtin.max_,Builtin.max2,go_sem,h]
end Go.Proofs.YtolholkjeehamaaDoor

namespace Go.Proofs.YtolholkjeehamaaDoor
open Go.RowKit
theorem ite_iff {p q:Prop} [Decidable p] [Decidable q] (h:p↔q) (a b:Int):(if p then a else b)=if q then a else b:=by
 by_cases hp:p
 ·rw [if_pos hp,if_pos (h.1 hp)]
 ·rw [if_neg hp,if_neg fun hq=>hp (h.2 hq)]
theorem sumTo_le {l:List (Int×Int)} (h:∀ x∈l,1≤x.2∧x.2≤100) {i j:Nat} (hij:i≤j):sumTo l i≤sumTo l j:=by
 induction j with
 | zero=>obtain rfl:i=0:=by omega
         exact Int.le_refl _
 | succ j ih =>
  rcases Nat.lt_or_ge i (j+1) with hlt | hge
  ·have:=ih (by omega)
   simp only [sumTo]
   cases hx:l[j]? with
   | none=>simp;omega
   | some x =>
    have:=(h x (List.mem_of_getElem? hx)).1
    simp;omega
  ·obtain rfl:i=j+1:=by omega
   exact Int.le_refl _
theorem turnS_at {l:List (Int×Int)} {r:Int} (hr:r<sumTo l l.length):∀ (n t:Nat),t≤l.length→l.length≤t+n→sumTo l t≤r →
  turnS (endsTo l l.length) r n t<l.length∧sumTo l (turnS (endsTo l l.length) r n t)≤r∧r<sumTo l (turnS (endsTo l l.length) r n t+1)
 | 0,t,h1,h2,h3=>by
  obtain rfl:t=l.length:=by omega
  omega
 | n+1,t,h1,h2,h3=>by
  have hlt:t<l.length:=by
   rcases Nat.lt_or_ge t l.length with h | h
   ·exact h
   ·obtain rfl:t=l.length:=by omega
    omega
  unfold turnS
  have he:endsTo l l.length t=sumTo l (t+1):=by unfold endsTo;rw [if_pos hlt]
  rw [he]
  split
  ·rename_i hge
   exact turnS_at hr n (t+1) (by omega) (by omega) hge
  ·rename_i hge
   exact⟨hlt,h3,by omega⟩
theorem Dit.Ok.turn_at {d:Dit} (hO:d.Ok) {r:Int} (h0:0≤r) (h1:r<d.cyc):d.turn r<d.turns.length∧sumTo d.turns (d.turn r)≤r∧r<sumTo d.turns (d.turn r+1) :=
 turnS_at h1 12 0 (Nat.zero_le _) (by have:=hO.t12;omega) h0
theorem start_sum {l:List (Int×Int)} {k:Nat} (hk:k≤l.length):startS (endsTo l l.length) k=sumTo l k:=by
 unfold startS
 split
 ·rename_i h;subst h;rfl
 ·unfold endsTo
  rw [if_pos (by omega),show k-1+1=k by omega]
theorem part_le0 {d:Dit} (hO:d.Ok) {l:List Int} {holder r:Int} (hr:r≤0):∀ k,k≤d.turns.length→partTo d.ends l holder r k=0
 | 0,_=>rfl
 | k+1,hk=>by
  unfold partTo
  rw [part_le0 hO hr k (by omega)]
  have h1:startS d.ends k=sumTo d.turns k:=start_sum (by omega)
  have h2:=sumTo_bd (fun x hx=>(hO.th x hx).2) k (by omega)
  rw [h1]
  split<;>omega
theorem part_go {d:Dit} (hO:d.Ok) {l:List Int} {holder r:Int} (h0:0≤r) (h1:r<d.cyc):∀ k,k≤d.turns.length →
  partTo d.ends l holder (r+1) k=partTo d.ends l holder r k+if d.turn r<k∧l[d.turn r]?=some holder then 1 else 0
 | 0,_=>by simp [partTo]
 | k+1,hk=>by
  obtain⟨t1,t2,t3⟩:=hO.turn_at h0 h1
  have ih:=part_go hO (l:=l) (holder:=holder) h0 h1 k (by omega)
  have hs:startS d.ends k=sumTo d.turns k:=start_sum (by omega)
  have he:d.ends k=sumTo d.turns (k+1):=by unfold Dit.ends endsTo;rw [if_pos (by omega)]
  unfold partTo
  rw [ih,hs,he]
  have hth:=fun x hx=>(hO.th x hx).2
  have hkk:=sumTo_le hth (Nat.le_succ k)
  rcases Nat.lt_trichotomy (d.turn r) k with hlt | heq | hgt
  ·have h3:=sumTo_le hth (show d.turn r+1≤k by omega)
   have e1:(d.turn r<k∧l[d.turn r]?=some holder)↔(d.turn r<k+1∧l[d.turn r]?=some holder):=by
    constructor<;>rintro ⟨a,b⟩<;>exact⟨by omega,b⟩
   rw [ite_iff e1]
   have hm:max 0 (min (r+1) (sumTo d.turns (k+1))-sumTo d.turns k)=max 0 (min r (sumTo d.turns (k+1))-sumTo d.turns k):=by omega
   rw [hm]
   omega
  ·have hn:¬ (d.turn r<k∧l[d.turn r]?=some holder):=fun h=>by omega
   rw [if_neg hn]
   rw [heq] at t2 t3 ⊢
   by_cases hl:l[k]?=some holder
   ·rw [if_pos hl,if_pos hl,if_pos ⟨Nat.lt_succ_self _,hl⟩]
    omega
   ·rw [if_neg hl,if_neg hl,if_neg fun h=>hl h.2]
  ·have h3:=sumTo_le hth (show k+1≤d.turn r by omega)
   have e1:¬ (d.turn r<k∧l[d.turn r]?=some holder):=fun h=>by omega
   have e2:¬ (d.turn r<k+1∧l[d.turn r]?=some holder):=fun h=>by omega
   rw [if_neg e1,if_neg e2]
   have hm:max 0 (min (r+1) (sumTo d.turns (k+1))-sumTo d.turns k)=max 0 (min r (sumTo d.turns (k+1))-sumTo d.turns k):=by omega
   rw [hm];omega
theorem part_step {d:Dit} (hO:d.Ok) {l:List Int} {holder r:Int} (h0:0≤r) (h1:r<d.cyc) :
  partTo d.ends l holder (r+1) d.turns.length=partTo d.ends l holder r d.turns.length+d.has l holder r:=by
 rw [part_go hO h0 h1 _ (Nat.le_refl _)]
 have:=(hO.turn_at h0 h1).1
 unfold Dit.has
 simp [this]
theorem sumS_add {f g k:Int→Int}:∀ {l:List Int},(∀ x∈l,f x=g x+k x)→sumS f l=sumS g l+sumS k l
 | [],_=>by simp [sumS]
 | x :: l,h=>by
  have h1:=sumS_add (l:=l) fun y hy=>h y (List.mem_cons_of_mem _ hy)
  have h2:=h x (List.mem_cons_self ..)
  simp only [sumS]
  omega
theorem sumS_one {q e:Int}:∀ {l:List Int},l.Nodup→sumS (fun c=>if c=q then e else 0) l=if q∈l then e else 0
 | [],_=>by simp [sumS]
 | x :: l,h=>by
  obtain⟨h1,h2⟩:=List.nodup_cons.1 h
  have ih:=sumS_one (q:=q) (e:=e) h2
  simp only [sumS]
  by_cases hx:x=q
  ·subst hx
   rw [ih,if_neg h1];simp
  ·rw [ih,if_neg hx]
   have:q∈x :: l↔q∈l:=by simp [Ne.symm hx]
   rw [ite_iff this];omega
theorem div_at {T h c:Int} (hT:0<T) (hc:c * T≤h∧h<c * T+T):h / T=c∧h % T=h-c * T :=
 (Int.ediv_emod_unique hT).2 ⟨by rw [Int.mul_comm];omega,by omega,by omega⟩
theorem at_div {T h:Int} (hT:0<T):h / T * T≤h∧h<h / T * T+T∧h % T=h-h / T * T:=by
 have h1:=Int.emod_nonneg h (b:=T) (by omega)
 have h2:=Int.emod_lt_of_pos h hT
 have h3:=Int.mul_ediv_add_emod h T
 rw [Int.mul_comm] at h3
 omega
theorem Dit.Ok.cyc_pos {d:Dit} (hO:d.Ok):0<d.cyc:=by have:=hO.cyc.size;omega
theorem add_step {d:Dit} (hO:d.Ok) {holder h c:Int} :
  addS d.ends d.cyc d.us d.oth holder (h+1) c=addS d.ends d.cyc d.us d.oth holder h c+if c=h / d.cyc then d.has (d.oth c) holder (h % d.cyc)-d.has d.us holder (h % d.cyc) else 0:=by
 have hT:=hO.cyc_pos
 have hl:d.us.length=d.turns.length:=by simp [Dit.us]
 unfold addS
 rw [hl]
 by_cases hin:c * d.cyc≤h∧h<c * d.cyc+d.cyc
 ·obtain⟨e1,e2⟩:=div_at hT hin
  rw [if_pos e1.symm,e2,if_pos (show min d.cyc (h+1-c * d.cyc) > 0 by omega),show min d.cyc (h+1-c * d.cyc)=h-c * d.cyc+1 by omega,show min d.cyc (h-c * d.cyc)=h-c * d.cyc by omega,
   part_step hO (by omega) (by omega),part_step hO (by omega) (by omega)]
  split
  ·omega
  ·rw [part_le0 hO (show h-c * d.cyc≤0 by omega) _ (Nat.le_refl _),part_le0 hO (show h-c * d.cyc≤0 by omega) _ (Nat.le_refl _)];omega
 ·have hne:c≠h / d.cyc:=by
   rintro rfl
   have:=at_div (h:=h) hT
   exact hin ⟨this.1,this.2.1⟩
  rw [if_neg hne]
  by_cases hlo:h<c * d.cyc
  ·rw [if_neg (by omega),if_neg (by omega)];rfl
  ·rw [show min d.cyc (h+1-c * d.cyc)=min d.cyc (h-c * d.cyc) by omega];omega
theorem oth_us {d:Dit} {c:Int} (hc:c∉d.keys):d.oth c=d.us:=by
 have h1:∀ s∈d.swaps,s.1≠c:=fun s hs e=>hc (mem_keysOf.2 (.inl (mem_keysOf.2 (.inr ⟨s,hs,e⟩))))
 have h2:∀ s∈d.loans,s.1≠c:=fun s hs e=>hc (mem_keysOf.2 (.inr ⟨s,hs,e⟩))
 have f2:∀ (sw:List (Int×Int×Int)) (us:List Int),(∀ s∈sw,s.1≠c)→oth2 us sw c=us:=by
  intro sw
  induction sw with
  | nil=>intro us _;rfl
  | cons s sw ih =>
   intro us h
   have:oth2 us (s :: sw) c=oth2 (if s.1=c then swapL us s.2.1.toNat s.2.2.toNat else us) sw c:=rfl
   rw [this,if_neg (h s (List.mem_cons_self ..)),ih _ fun t ht=>h t (List.mem_cons_of_mem _ ht)]
 have f3:∀ (sw:List (Int×Int×Int)) (us:List Int),(∀ s∈sw,s.1≠c)→oth3 us sw c=us:=by
  intro sw
  induction sw with
  | nil=>intro us _;rfl
  | cons s sw ih =>
   intro us h
   have:oth3 us (s :: sw) c=oth3 (if s.1=c then us.set s.2.1.toNat s.2.2 else us) sw c:=rfl
   rw [this,if_neg (h s (List.mem_cons_self ..)),ih _ fun t ht=>h t (List.mem_cons_of_mem _ ht)]
 unfold Dit.oth
 rw [f2 _ _ h1,f3 _ _ h2]
def Dit.had (d:Dit) (holder x:Int):Int:=hadS d.ends d.cyc d.us d.keys d.oth holder x
theorem own_01 (d:Dit) (holder x:Int):d.own holder x=0∨d.own holder x=1:=by
 unfold Dit.own Dit.has
 split<;>simp
theorem Dit.Ok.had_step {d:Dit} (hO:d.Ok) {holder x:Int} (hx:0≤x):d.had holder (x+1)=d.had holder x+d.own holder x:=by
 have hT:=hO.cyc_pos
 have hl:d.us.length=d.turns.length:=by simp [Dit.us]
 have hkeys:sumS (addS d.ends d.cyc d.us d.oth holder (x+1)) d.keys=sumS (addS d.ends d.cyc d.us d.oth holder x) d.keys+(d.own holder x-d.has d.us holder (x % d.cyc)):=by
  have h1:=sumS_add (f:=addS d.ends d.cyc d.us d.oth holder (x+1)) (g:=addS d.ends d.cyc d.us d.oth holder x) (k:=fun c=>if c=x / d.cyc then d.own holder x-d.has d.us holder (x % d.cyc) else 0) (l:=d.keys) (fun c _=>by
   rw [add_step hO]
   unfold Dit.own
   by_cases e:c=x / d.cyc
   ·rw [if_pos e,if_pos e,e]
   ·rw [if_neg e,if_neg e])
  rw [h1,sumS_one hO.chg.nodup]
  congr 1
  split
  ·rfl
  ·rename_i hn
   unfold Dit.own
   rw [oth_us hn];omega
 have hu:(x+1).tdiv d.cyc * partTo d.ends d.us holder d.cyc d.us.length+partTo d.ends d.us holder ((x+1).tmod d.cyc) d.us.length=x.tdiv d.cyc * partTo d.ends d.us holder d.cyc d.us.length+partTo d.ends d.us holder (x.tmod d.cyc) d.us.length+d.has d.us holder (x % d.cyc):=by
  rw [Int.tdiv_eq_ediv_of_nonneg hx,Int.tdiv_eq_ediv_of_nonneg (show 0≤x+1 by omega),Int.tmod_eq_emod_of_nonneg hx,Int.tmod_eq_emod_of_nonneg (show 0≤x+1 by omega),hl]
  obtain⟨q1,q2,q3⟩:=at_div (h:=x) hT
  have ps:=part_step hO (l:=d.us) (holder:=holder) (r:=x % d.cyc) (by omega) (by omega)
  by_cases hc:x % d.cyc+1<d.cyc
  ·obtain⟨e1,e2⟩:=div_at (T:=d.cyc) (h:=x+1) (c:=x / d.cyc) hT (by omega)
   rw [e1,e2,show x+1-x / d.cyc * d.cyc=x % d.cyc+1 by omega,ps];omega
  ·have hq:(x / d.cyc+1) * d.cyc=x / d.cyc * d.cyc+d.cyc:=by rw [Int.add_mul];omega
   obtain⟨e1,e2⟩:=div_at (T:=d.cyc) (h:=x+1) (c:=x / d.cyc+1) hT (by rw [hq];omega)
   rw [e1,e2,part_le0 hO (r:=x+1-(x / d.cyc+1) * d.cyc) (by rw [hq];omega) _ (Nat.le_refl _),Int.add_mul]
   rw [show x % d.cyc+1=d.cyc by omega] at ps
   generalize x / d.cyc * partTo d.ends d.us holder d.cyc d.turns.length=y
   omega
 unfold Dit.had hadS
 rw [hkeys]
 omega
theorem Dit.Ok.had_add {d:Dit} (hO:d.Ok) (holder:Int) {x:Int} (hx:0≤x):∀ n:Nat,d.had holder x≤d.had holder (x+n)∧d.had holder (x+n)≤d.had holder x+n
 | 0=>by simp
 | n+1=>by
  have ih:=hO.had_add holder hx n
  have hs:=hO.had_step (holder:=holder) (x:=x+n) (by omega)
  have e:x+(n+1:Nat)=x+n+1:=by omega
  have:=own_01 d holder (x+n)
  rw [e,hs]
  omega
theorem Dit.Ok.had_mono {d:Dit} (hO:d.Ok) (holder:Int) {a b:Int} (ha:0≤a) (hab:a≤b):d.had holder a≤d.had holder b∧d.had holder b≤d.had holder a+(b-a):=by
 have:=hO.had_add holder ha (b-a).toNat
 rw [show a+((b-a).toNat:Int)=b by omega] at this
 omega
theorem hoursW_had (d:Dit) (holder a b:Int):d.hoursW holder a b=d.had holder (d.ran b)-d.had holder (d.ran a):=rfl
theorem Dit.Ok.hours_mono {d:Dit} (hO:d.Ok) (holder a:Int) {b c:Int} (hb:0≤b) (hbc:b≤c):d.hoursW holder a b≤d.hoursW holder a c:=by
 have h1:=(hO.had_mono holder (hO.ran_nonneg b) (hO.ran_mono hb hbc).1).1
 rw [hoursW_had,hoursW_had];omega
theorem hours_self (d:Dit) (holder a:Int):d.hoursW holder a a=0:=by rw [hoursW_had];omega
end Go.Proofs.YtolholkjeehamaaDoor

namespace Go.Proofs.YtolholkjeehamaaDoor
def stepS (loss x:Int):Int:=x-(x * loss).tdiv 1000
theorem step_mono {l m x y:Int} (hl:0≤l∧l≤m∧m≤1000) (hx:0≤x∧x≤y∧y≤100000):stepS m x≤stepS l y:=by
 unfold stepS
 have h0:0≤x * m:=Int.mul_nonneg hx.1 (by omega)
 have h1:0≤y * l:=Int.mul_nonneg (by omega) hl.1
 rw [Int.tdiv_eq_ediv_of_nonneg h0,Int.tdiv_eq_ediv_of_nonneg h1]
 have h2:x * l≤x * m:=Int.mul_le_mul_of_nonneg_left hl.2.1 hx.1
 have h3:(y-x) * l≤(y-x) * 1000:=Int.mul_le_mul_of_nonneg_left (by omega) (by omega)
 rw [Int.sub_mul,Int.sub_mul] at h3
 omega
theorem behind_last (loss:Int):∀ (n:Nat) (x:Int),behindS loss (n+1) x=stepS loss (behindS loss n x)
 | 0,x=>rfl
 | n+1,x=>behind_last loss n (x-(x * loss).tdiv 1000)
theorem behind_mono {l m:Int} (hl:0≤l∧l≤m∧m≤1000):∀ (n:Nat) (x y:Int),0≤x∧x≤y∧y≤100000→behindS m n x≤behindS l n y
 | 0,x,y,h=>h.2.1
 | n+1,x,y,h=>by
  rw [behind_last,behind_last]
  have h1:=behind_mono hl n x y h
  have h2:=behind_bd (loss:=m) (by omega) n x (by omega)
  have h3:=behind_bd (loss:=l) (by omega) n y (by omega)
  exact step_mono hl (by omega)
theorem ground_zero {d:Dit} (hf:0≤d.flow.1∧d.flow.1≤d.flow.2∧d.flow.2≤100000) (hl:0≤d.loss.1∧d.loss.1≤d.loss.2∧d.loss.2≤1000) (h8:d.plots.length≤8)
  (hp:∀ (i:Nat) (p:Plot),d.plots[i]?=some p→nameB p.name=true∧(∀ j o,j<i→d.plots[j]?=some o→o.name≠p.name)∧(0≤p.holder∧p.holder≤(d.holders.length:Int)-1)∧(0≤p.far∧p.far≤20)∧(0≤p.low∧p.low≤p.high∧p.high≤999999999)∧(0≤p.worth∧p.worth≤10000)):groundS d=0:=by
 unfold groundS
 rw [if_neg (by simp only [Decidable.not_not];exact⟨hf,hl⟩),if_neg (by omega)]
 refine scan_all fun j p hj=>?_
 obtain⟨h1,h2,h3,h4,h5,h6⟩:=hp j p hj
 have ha:((d.plots.take (0+j)).any fun o=>decide (o.name=p.name))=false:=by
  rw [List.any_eq_false]
  intro o ho
  obtain⟨i,hi⟩:=List.mem_iff_getElem?.1 ho
  rw [List.getElem?_take,Nat.zero_add] at hi
  split at hi
  ·simpa using h2 i o (by assumption) hi
  ·cases hi
 unfold plotF
 rw [h1,ha,decide_eq_true h3,decide_eq_true h4,decide_eq_true h5,decide_eq_true h6]
 rfl
def Dit.wet (d:Dit) (flow loss:Int×Int) (plots:List Plot):Dit:={ d with flow:=flow,loss:=loss,plots:=plots }
theorem check_wet {d:Dit} (hc:checkS d=0) {flow loss:Int×Int} {plots:List Plot} (h:groundS (d.wet flow loss plots)=0):checkS (d.wet flow loss plots)=0:=by
 obtain⟨h1,h2,h3,_⟩:=check_parts hc
 have e1:peopleS (d.wet flow loss plots)=0:=h1
 have e2:timesS (d.wet flow loss plots)=0:=h2
 have e3:changesS (d.wet flow loss plots)=0:=h3
 unfold checkS
 rw [if_neg (by simp [e1]),if_neg (by simp [e2]),if_neg (by simp [e3]),h]
end Go.Proofs.YtolholkjeehamaaDoor

namespace Go.Proofs.YtolholkjeehamaaDoor
open Go.RowKit Go.Con Go.Conc
local instance:Lone:=mainL
theorem al2' {w W:World} {o1 o2:Obj} (h:(w.alloc o1).alloc o2=W):Old w W∧W.heap.size=w.heap.size+2∧W.heap[w.heap.size]?=some o1∧W.heap[w.heap.size+1]?=some o2:=by
 obtain⟨h1,h2,h3,h4⟩:=al2 h
 exact⟨.nx h4,h3,h1,h2⟩
end Go.Proofs.YtolholkjeehamaaDoor

namespace Go.Proofs.YtolholkjeehamaaDoor
def Dit.plotAt (d:Dit) (k:Int):Option Plot:=if 0≤k then d.plots[k.toNat]? else none
def chSt (d:Dit) (holder:Int):List Int→Int×Int×Int→Option (Int×Int×Int)
 | [],s=>some s
 | k :: l,s=>match d.plotAt k with
  | some p=>if s.1<k∧p.holder=holder∧(d.needs p).2=true then chSt d holder l (k,s.2.1+(d.needs p).1,s.2.2+p.worth) else none
  | none=>none
theorem plotAt_lt {d:Dit} {k:Int} {p:Plot} (h:d.plotAt k=some p):0≤k∧k<d.plots.length∧d.plots[k.toNat]?=some p:=by
 unfold Dit.plotAt at h
 split at h
 ·have:=(List.getElem?_eq_some_iff.1 h).1
  exact⟨by omega,by omega,h⟩
 ·cases h
theorem plotAt_nat {d:Dit} (k:Nat):d.plotAt k=d.plots[k]?:=by
 unfold Dit.plotAt
 rw [if_pos (by omega),Int.toNat_natCast]
theorem chSt_append (d:Dit) (holder:Int):∀ (l m:List Int) s,chSt d holder (l++m) s=(chSt d holder l s).bind (chSt d holder m)
 | [],m,s=>rfl
 | k :: l,m,s=>by
  simp only [List.cons_append,chSt]
  cases d.plotAt k with
  | none=>rfl
  | some p =>
   dsimp only
   split
   ·exact chSt_append d holder l m _
   ·rfl
theorem needs_pos {d:Dit} (hO:d.Ok) {k:Int} {p:Plot} (hp:d.plotAt k=some p):0≤(d.needs p).1:=by
 obtain⟨_,_,h⟩:=plotAt_lt hp
 have:=(hO.pl _ p h).2.2.2.2.1
 exact (needs_bd hO (p:=p) (by omega)).1
theorem chSt_mono {d:Dit} (hO:d.Ok) (holder:Int):∀ (l:List Int) s t,chSt d holder l s=some t→s.2.1≤t.2.1
 | [],s,t,h=>by cases h;exact Int.le_refl _
 | k :: l,s,t,h=>by
  simp only [chSt] at h
  cases hp:d.plotAt k with
  | none=>rw [hp] at h;cases h
  | some p =>
   rw [hp] at h
   dsimp only at h
   split at h
   ·have:=chSt_mono hO holder l _ t h
    have:=needs_pos hO hp
    dsimp only at *
    omega
   ·cases h
def leC (x y:Int×Int):Prop:=x.2<y.2∨(x.2=y.2∧y.1≤x.1)
theorem leC.trans {x y z:Int×Int} (h:leC x y) (h2:leC y z):leC x z:=by unfold leC at *;omega
theorem leC.refl (x:Int×Int):leC x x:=by unfold leC;omega
theorem better_le {c b:Choice} (h:c.better b=true):leC (b.hours,b.worth) (c.hours,c.worth):=by
 unfold Choice.better at h
 unfold leC
 dsimp only
 split at h
 ·have:=of_decide_eq_true h;omega
 ·split at h
  ·have:=of_decide_eq_true h;omega
  ·omega
theorem better_not {c b:Choice} (h:c.better b=false):leC (c.hours,c.worth) (b.hours,b.worth):=by
 unfold Choice.better at h
 unfold leC
 dsimp only
 split at h
 ·have:=of_decide_eq_false h;omega
 ·split at h
  ·have:=of_decide_eq_false h;omega
  ·omega
theorem best_pick (c b:Choice):leC (b.hours,b.worth) ((if c.better b then c else b).hours,(if c.better b then c else b).worth)∧leC (c.hours,c.worth) ((if c.better b then c else b).hours,(if c.better b then c else b).worth):=by
 cases h:c.better b with
 | true=>exact⟨better_le h,leC.refl _⟩
 | false=>exact⟨leC.refl _,better_not h⟩
structure ChOk (d:Dit) (holder most:Int) (c:Choice) (k:Int):Prop where
 st:∃ q,q<k∧chSt d holder c.plots (-1,0,0)=some (q,c.hours,c.worth)
 most:c.hours≤most
theorem ChOk.add {d:Dit} {holder most:Int} {c:Choice} {k:Int} (h:ChOk d holder most c k) {p:Plot} (hp:d.plotAt k=some p) (hf:d.fits holder most c p=true):ChOk d holder most (c.add d k p) (k+1):=by
 obtain⟨⟨q,hq,hs⟩,hm⟩:=h
 unfold Dit.fits at hf
 simp only [Bool.and_eq_true,decide_eq_true_eq] at hf
 refine⟨⟨k,by omega,?_⟩,hf.2.2⟩
 unfold Choice.add
 dsimp only
 rw [chSt_append,hs]
 simp only [Option.bind_some,chSt,hp]
 rw [if_pos ⟨hq,hf.2.1,hf.1⟩]
theorem ChOk.up {d:Dit} {holder most:Int} {c:Choice} {k m:Int} (h:ChOk d holder most c k) (hk:k≤m):ChOk d holder most c m:=⟨let ⟨q,hq,hs⟩:=h.st;⟨q,by omega,hs⟩,h.most⟩
theorem goS_best {d:Dit} (hO:d.Ok) (holder most:Int):∀ (ps:List Plot) (c:Choice) (k:Nat) (b:Choice),ps=d.plots.drop k→ChOk d holder most c k→ChOk d holder most b d.plots.length →
  ChOk d holder most (goS d holder most ps c k b) d.plots.length∧leC (b.hours,b.worth) ((goS d holder most ps c k b).hours,(goS d holder most ps c k b).worth) ∧
  ∀ (x:Int) (l:List Int) (q:Int) t,(k:Int)≤x→q<k→chSt d holder (x :: l) (q,c.hours,c.worth)=some t→t.2.1≤most→leC (t.2.1,t.2.2) ((goS d holder most ps c k b).hours,(goS d holder most ps c k b).worth)
 | [],c,k,b,hps,hc,hb=>by
  refine⟨hb,leC.refl _,fun x l q t hx hq ht hm=>?_⟩
  simp only [chSt] at ht
  cases hp:d.plotAt x with
  | none=>rw [hp] at ht;cases ht
  | some p =>
   obtain⟨h1,h2,_⟩:=plotAt_lt hp
   have:=congrArg List.length hps
   simp only [List.length_nil,List.length_drop] at this
   omega
 | p :: ps,c,k,b,hps,hc,hb=>by
  have hk:d.plots[k]?=some p:=by
   have:(d.plots.drop k)[0]?=some p:=by rw [← hps];rfl
   simpa using this
  have hkl:=(List.getElem?_eq_some_iff.1 hk).1
  have hps' : ps=d.plots.drop (k+1):=by
   have:=congrArg List.tail hps
   simpa [List.tail_drop] using this
  have hpa:d.plotAt (k:Int)=some p:=by rw [plotAt_nat];exact hk
  unfold goS
  have e1:((k:Int)+1)=((k+1:Nat):Int):=by omega
  rw [e1]
  cases hf:d.fits holder most c p with
  | false =>
   simp only [Bool.false_eq_true,if_false]
   obtain⟨r1,r2,r3⟩:=goS_best hO holder most ps c (k+1) b hps' (hc.up (by omega)) hb
   refine⟨r1,r2,fun x l q t hx hq ht hm=>?_⟩
   by_cases hxk:x=k
   ·subst hxk
    exfalso
    simp only [chSt,hpa] at ht
    split at ht
    ·rename_i hh
     have h2:=chSt_mono hO holder l _ t ht
     dsimp only at h2
     unfold Dit.fits at hf
     rw [hh.2.2,decide_eq_true hh.2.1,decide_eq_true (show c.hours+(d.needs p).1≤most by omega)] at hf
     cases hf
    ·cases ht
   ·exact r3 x l q t (by omega) (by omega) ht hm
  | true =>
   simp only [if_true]
   have hadd:=hc.add hpa hf
   have hb1:ChOk d holder most (if (c.add d k p).better b then c.add d k p else b) d.plots.length:=by
    split
    ·exact hadd.up (by omega)
    ·exact hb
   obtain⟨p1,p2⟩:=best_pick (c.add d k p) b
   obtain⟨s1,s2,s3⟩:=goS_best hO holder most ps (c.add d k p) (k+1) (if (c.add d k p).better b then c.add d k p else b) hps' (by rw [← e1];exact hadd) hb1
   obtain⟨r1,r2,r3⟩:=goS_best hO holder most ps c (k+1) _ hps' (hc.up (by omega)) s1
   refine⟨r1,p1.trans (s2.trans r2),fun x l q t hx hq ht hm=>?_⟩
   by_cases hxk:x=k
   ·subst hxk
    simp only [chSt,hpa] at ht
    split at ht
    ·cases l with
     | nil =>
      cases ht
      exact p2.trans (s2.trans r2)
     | cons y l =>
      have hy:((k:Nat):Int)<y:=by
       simp only [chSt] at ht
       cases hp2:d.plotAt y with
       | none=>rw [hp2] at ht;cases ht
       | some p2 =>
        rw [hp2] at ht
        dsimp only at ht
        split at ht
        ·rename_i hh;exact hh.1
        ·cases ht
      exact (s3 y l k t (by omega) (by omega) ht hm).trans r2
    ·cases ht
   ·exact r3 x l q t (by omega) (by omega) ht hm
theorem best_law {d:Dit} (hO:d.Ok) (holder most:Int) (h0:0≤most):∃ q,chSt d holder (tryS d holder most ⟨[],0,0⟩ 0 ⟨[],0,0⟩).plots (-1,0,0)=some (q,(tryS d holder most ⟨[],0,0⟩ 0 ⟨[],0,0⟩).hours,(tryS d holder most ⟨[],0,0⟩ 0 ⟨[],0,0⟩).worth) ∧
  (tryS d holder most ⟨[],0,0⟩ 0 ⟨[],0,0⟩).hours≤most ∧
  ∀ l t,chSt d holder l (-1,0,0)=some t→t.2.1≤most→leC (t.2.1,t.2.2) ((tryS d holder most ⟨[],0,0⟩ 0 ⟨[],0,0⟩).hours,(tryS d holder most ⟨[],0,0⟩ 0 ⟨[],0,0⟩).worth):=by
 have hc0:∀ k:Int,0≤k→ChOk d holder most ⟨[],0,0⟩ k:=fun k hk=>⟨⟨-1,by omega,rfl⟩,h0⟩
 have e:(if Choice.better ⟨[],0,0⟩ ⟨[],0,0⟩ then (⟨[],0,0⟩:Choice) else ⟨[],0,0⟩)=⟨[],0,0⟩:=by split<;>rfl
 unfold tryS
 rw [e]
 obtain⟨r1,r2,r3⟩:=goS_best hO holder most (d.plots.drop 0) ⟨[],0,0⟩ 0 ⟨[],0,0⟩ rfl (hc0 _ (by omega)) (hc0 _ (by omega))
 obtain⟨q,_,hq⟩:=r1.st
 refine⟨q,hq,r1.most,fun l t ht hm=>?_⟩
 cases l with
 | nil=>cases ht;exact r2
 | cons x l =>
  refine r3 x l (-1) t ?_ (by omega) ht hm
  simp only [chSt] at ht
  cases hp:d.plotAt x with
  | none=>rw [hp] at ht;cases ht
  | some p=>have:=(plotAt_lt hp).1;omega
def bndS (d:Dit) (holder price:Int):List Plot→Int→Int
 | [],n=>n
 | p :: ps,n=>bndS d holder price ps (if (d.needs p).2 && decide (p.holder=holder) then n+max 0 (p.worth-price * (d.needs p).1) else n)
def boundF (d:Dit) (holder a b price:Int):Int×Int:=if askS d holder a b≠0 then (0,askS d holder a b) else if 0≤price∧price≤10000 then (bndS d holder price d.plots (price * d.hoursW holder a b),0) else (0,1)
def bnd1 (d:Dit) (holder price:Int) (p:Plot):Int:=if (d.needs p).2 && decide (p.holder=holder) then max 0 (p.worth-price * (d.needs p).1) else 0
def bndL (d:Dit) (holder price:Int):List Plot→Int
 | []=>0
 | p :: ps=>bnd1 d holder price p+bndL d holder price ps
theorem bndS_eq (d:Dit) (holder price:Int):∀ (ps:List Plot) (n:Int),bndS d holder price ps n=n+bndL d holder price ps
 | [],n=>by simp [bndS,bndL]
 | p :: ps,n=>by
  unfold bndS bndL bnd1
  rw [bndS_eq d holder price ps]
  split<;>omega
theorem bnd1_pos (d:Dit) (holder price:Int) (p:Plot):0≤bnd1 d holder price p:=by unfold bnd1;split<;>omega
end Go.Proofs.YtolholkjeehamaaDoor

namespace Go.Proofs.YtolholkjeehamaaDoor
open Go.RowKit
theorem bndL_append (d:Dit) (holder price:Int):∀ l m:List Plot,bndL d holder price (l++m)=bndL d holder price l+bndL d holder price m
 | [],m=>by simp [bndL]
 | p :: l,m=>by
  have:=bndL_append d holder price l m
  simp only [List.cons_append,bndL]
  omega
theorem bndL_take {d:Dit} (holder price:Int) {k:Nat} {p:Plot} (hp:d.plots[k]?=some p):bndL d holder price (d.plots.take (k+1))=bndL d holder price (d.plots.take k)+bnd1 d holder price p:=by
 rw [List.take_add_one,hp,bndL_append]
 simp [bndL]
theorem bnd1_bd {d:Dit} (hO:d.Ok) {holder price:Int} (hp0:0≤price) {k:Nat} {p:Plot} (hp:d.plots[k]?=some p):bnd1 d holder price p≤10000:=by
 obtain⟨_,_,_,_,hph,hw⟩:=hO.pl k p hp
 have hn:=(needs_bd hO (p:=p) (by omega)).1
 have:=Int.mul_nonneg hp0 hn
 unfold bnd1
 split<;>omega
theorem bndL_bd {d:Dit} (hO:d.Ok) {holder price:Int} (hp0:0≤price):∀ k:Nat,k≤d.plots.length→0≤bndL d holder price (d.plots.take k)∧bndL d holder price (d.plots.take k)≤10000 * (k:Int)
 | 0,_=>by simp [bndL]
 | k+1,h=>by
  have ih:=bndL_bd hO (holder:=holder) hp0 k (by omega)
  have hk:d.plots[k]?=some d.plots[k]:=List.getElem?_eq_getElem (by omega)
  have h1:=bnd1_bd hO (holder:=holder) hp0 hk
  have h2:=bnd1_pos d holder price d.plots[k]
  rw [bndL_take holder price hk]
  omega
theorem max0_run (n:Int) (w:World):(Builtin.max_ #[3,3] 3 #[.int .i64 0,.int .i64 n]).run Tryd.prog w=.ok (.int .i64 (max 0 n)) w:=by
 rw [show max 0 n=if 0<n then n else 0 by omega]
 by_cases h:0<n<;>simp [Builtin.max_,Builtin.max2,go_sem,h]
theorem bound_any (d:Dit) (r:Rows6) (holder a b price:Int) (w:World) (hd:DitSl w d r) (hs:d.Small) (hg:Glob w) (hm:askS d holder a b=0→0≤d.hoursW holder a b∧d.hoursW holder a b≤1000000000) :
  CallsIn FL 0 Tryd.prog 50 #[d.val r,num holder,num a,num b,num price] w fun e w'=>e=.returned (.tuple #[num (boundF d holder a b price).1,num (boundF d holder a b price).2])∧Nx w w':=by
 obtain⟨W,hW,n0,hWs,cW⟩:=boxed w d r
 have nW:Nx W W:=Below.refl _ _
 obtain⟨c0,c1,c2,c3,c4,c5,c6,c7,c8,c9,c10,c11,c12,c13⟩:=cells14 (cW _ nW)
 have k56:=ask_any d r holder a b W (hd.nx n0) hs (hg.nx n0)
 by_cases hc:askS d holder a b=0
 ·obtain⟨hck,hhold,ha,hb,hab⟩:=ask_ok hc
  have k56' : CallsIn FL 0 Tryd.prog 56 _ W fun e w'=>d.Ok∧AskPost W d 0 e w':=k56.mono fun e w' ⟨v,_,_,h⟩=>h hc
  clear k56
  by_cases hp:0≤price∧price≤10000
  ·have HA:Hid (boundF d holder a b price=(bndS d holder price d.plots (price * d.hoursW holder a b),0)):=by show _=_;unfold boundF;rw [if_neg (by simp [hc]),if_pos hp]
   have k67:=fun w1=>between_tt hp w1
   obtain⟨hm0,hm1⟩:=hm hc
   obtain⟨ap,capp,ep⟩:=hd.plots.cases
   rw [List.length_map] at ep
   have hpl:=hd.plots
   rw [ep] at hpl
   have h13:=Lib.hid (fun w1 (nx:Nx W w1)=>show w1.cell? ⟨w.heap.size,13,none⟩=some (.slice ap d.plots.length capp) from (cW w1 nx 13 r.p rfl).trans (by rw [ep]))
   have HPL:=Lib.hid hpl
   have hmul1:0≤price * d.hoursW holder a b:=Int.mul_nonneg hp.1 hm0
   have hmul2:price * d.hoursW holder a b≤10000 * 1000000000:=Int.mul_le_mul hp.2 hm1 hm0 (by omega)
   clear hc ep cW hpl hm
   gi_enter Tryd.func50,Tryd.ntmps50
   gi_upto_region 7 with (first
    | (gi_at_call 56;refine CallsIn.mono k56' ?_;rintro e w1 ⟨hO,B,M,rfl,n1,hB,hw⟩;have HW:=Lib.hid hw;have HO:=Lib.hid hO;have k57:=hours_W (holder:=holder) hw hO (a:=a) (b:=b) (by omega) (by omega);clear hw hO)
    | (gi_at_call 67;refine CallsIn.mono (k67 _) ?_;rintro e w1 ⟨rfl,rfl⟩)
    | (gi_at_call 57;refine CallsIn.mono k57 ?_;rintro e w2 ⟨rfl,n2⟩)
    | gi_in)
   generalize hH:d.hoursW holder a b=H at *
   have hO:=HO.out
   have hp8:=hO.p8
   have HBD:=Lib.hid (fun k h=>bndL_bd hO (holder:=holder) hp.1 k h)
   have nw1:Nx w w1:=Nx.trans n0 n1
   have nw2:Nx w w2:=Nx.trans nw1 n2
   clear c0 c1 c2 c3 c4 c5 c6 c7 c8 c9 c10 c11 c12 c13 k57 k56' k67
   have c13:=h13.out w2 (Nx.trans n1 n2)
   gi_wp2
   clear c13
   gi_loopw [14,47] (fun n i wr=>∃ k:Nat,k≤d.plots.length∧i=num k∧n=num (price * H+bndL d holder price (d.plots.take k))∧Nx w1 wr) (fun _ i _=>d.plots.length-(intOf i).toNat)
   case atStart=>exact⟨0,Nat.zero_le _,rfl,by simp [bndL],n2⟩
   case round =>
    obtain⟨k,hk,rfl,rfl,n3⟩:=hrel
    by_cases hlt:k<d.plots.length
    ·obtain⟨b0,off,ha0,hbl,hcl⟩:=HPL.out.get (by simp;omega)
     subst ha0
     have hx:d.plots[k]?=some d.plots[k]:=List.getElem?_eq_getElem hlt
     generalize hxk:d.plots[k]=x at hx
     clear hxk
     obtain⟨g0,g1,g2,g3,g4,g5⟩:=Sl.at6 hcl (Nx.trans nw1 n3) hbl hx
     have hpx:=hO.pl k x hx
     have hbk:=HBD.out k (by omega)
     have h1:=bnd1_bd hO (holder:=holder) hp.1 hx
     have htk:=bndL_take holder price hx
     have hnb:=needs_bd hO (p:=x) (by omega)
     generalize hW2:wr.alloc (.cells #[str x.name,num x.holder,num x.far,num x.low,num x.high,num x.worth] 91)=V
     have n3V:Nx w1 V:=by rw [← hW2];exact n3.alloc (by exact n3.size) _
     have hz:V.heap[wr.heap.size]?=some (.cells #[str x.name,num x.holder,num x.far,num x.low,num x.high,num x.worth] 91):=by rw [← hW2];exact heap_alloc_new wr _
     have hVs:wr.heap.size<V.heap.size:=by rw [← hW2];simp
     have cN:∀ w3,Nx V w3→w3.cell? ⟨wr.heap.size,1,none⟩=some (num x.holder)∧w3.cell? ⟨wr.heap.size,5,none⟩=some (num x.worth):=by
      intro w3 nx
      refine⟨(nx.cell (by exact hVs)).trans ?_,(nx.cell (by exact hVs)).trans ?_⟩<;>simp [World.cell?,hz]
     have kn:=needs_any B d k x V (HW.out.wat.dit.nx n3V) hO hx
     have hb1:bnd1 d holder price x=if (d.needs x).2 && decide (x.holder=holder) then max 0 (x.worth-price * (d.needs x).1) else 0:=rfl
     have HB1:=Lib.hid hb1
     have HTK:=Lib.hid htk
     have hmn:price * (d.needs x).1≤10000 * 2000000000:=Int.mul_le_mul hp.2 (by omega) (by omega) (by omega)
     have hmn0:0≤price * (d.needs x).1:=Int.mul_nonneg hp.1 (by omega)
     have hwx:=hpx.2.2.2.2.2
     clear hb1 htk hpx hcl hbl hx
     generalize (d.needs x).1=h at *
     generalize (d.needs x).2=ok at *
     generalize bnd1 d holder price x=z1 at *
     generalize bndL d holder price (d.plots.take k)=z2 at *
     cases ok with
     | false =>
      gi_wp2_with (first
       | (gi_at_call 84;refine CallsIn.mono kn ?_;rintro e w3 ⟨rfl,n4⟩;obtain⟨e1,e5⟩:=cN w3 n4;have mx:=max0_run (x.worth-price * h) w3)
       | gi_in)
      have e:=HB1.out
      simp only [Bool.false_and,Bool.false_eq_true,if_false] at e
      exact⟨⟨k+1,hlt,by simp,by rw [HTK.out,e];simp,Nx.trans n3V n4⟩,by simp [intOf];omega⟩
     | true =>
      by_cases hh:x.holder=holder
      ·subst hh
       have bh:(x.holder == x.holder)=true:=by simp
       gi_wp2_with (first
        | (gi_at_call 84;refine CallsIn.mono kn ?_;rintro e w3 ⟨rfl,n4⟩;obtain⟨e1,e5⟩:=cN w3 n4;have mx:=max0_run (x.worth-price * h) w3)
        | gi_in)
       have e:=HB1.out
       simp only [Bool.true_and,decide_true,if_true] at e
       exact⟨⟨k+1,hlt,by simp,by rw [HTK.out,e];congr 1;omega,Nx.trans n3V n4⟩,by simp [intOf];omega⟩
      ·have bh:(x.holder == holder)=false:=by simpa using hh
       gi_wp2_with (first
        | (gi_at_call 84;refine CallsIn.mono kn ?_;rintro e w3 ⟨rfl,n4⟩;obtain⟨e1,e5⟩:=cN w3 n4;have mx:=max0_run (x.worth-price * h) w3)
        | gi_in)
       have e:=HB1.out
       simp only [Bool.true_and,hh,decide_false,Bool.false_eq_true,if_false] at e
       exact⟨⟨k+1,hlt,by simp,by rw [HTK.out,e];simp,Nx.trans n3V n4⟩,by simp [intOf];omega⟩
    ·obtain rfl:k=d.plots.length:=by omega
     have he:bndS d holder price d.plots (price * H)=price * H+bndL d holder price (d.plots.take d.plots.length):=by rw [bndS_eq,List.take_length]
     have HE:=Lib.hid he
     clear he
     generalize bndL d holder price (d.plots.take d.plots.length)=z at *
     gi_wp2
     refine bodyPost_ret (v:=.tuple #[num (price * H+z),num 0]) (by simp [results,Tryd.results50,go_sem]) rfl ?_
     exact⟨by rw [HA.out,HE.out],Nx.trans nw1 n3⟩
  ·have HA:Hid (boundF d holder a b price=(0,1)):=by show _=_;unfold boundF;rw [if_neg (by simp [hc]),if_neg hp]
   have k67:=fun w1=>between_ff hp w1
   clear hc cW hm
   gi_enter Tryd.func50,Tryd.ntmps50
   gi_wp2_with (first
    | (gi_at_call 56;refine CallsIn.mono k56' ?_;rintro e w1 ⟨hO,B,M,rfl,n1,hB,hw⟩;clear hw hO)
    | (gi_at_call 67;refine CallsIn.mono (k67 _) ?_;rintro e w1 ⟨rfl,rfl⟩)
    | gi_in)
   refine bodyPost_ret (v:=.tuple #[num 0,num 1]) (by simp [results,Tryd.results50,go_sem]) rfl ?_
   exact⟨by rw [HA.out],Nx.trans n0 n1⟩
 ·have HA:Hid (boundF d holder a b price=(0,askS d holder a b)):=by show _=_;unfold boundF;rw [if_pos hc]
  have hb:(askS d holder a b != 0)=true:=by simpa using hc
  have hb2:(askS d holder a b == 0)=false:=by simpa using hc
  have k56' : CallsIn FL 0 Tryd.prog 56 _ W fun e w'=>∃ v,e=.returned (.tuple #[.pointer v,num (askS d holder a b)])∧Nx W w':=k56.mono fun e w' ⟨v,h1,h2,h⟩=>⟨v,h1,h2⟩
  clear k56 cW hc hm
  generalize askS d holder a b=f at *
  gi_enter Tryd.func50,Tryd.ntmps50
  gi_wp2_with (first
   | (gi_at_call 56;refine CallsIn.mono k56' ?_;rintro e w1 ⟨v,rfl,n1⟩)
   | gi_in)
  refine bodyPost_ret (v:=.tuple #[num 0,num f]) (by simp [results,Tryd.results50,go_sem]) rfl ?_
  exact⟨by rw [HA.out],Nx.trans n0 n1⟩
end Go.Proofs.YtolholkjeehamaaDoor

namespace Go.Proofs.YtolholkjeehamaaDoor
open Go.RowKit Go.Con Go.Conc
local instance:Lone:=mainL
noncomputable def lawB17:Code:=match Tryd.f17.body with | some c=>c | none=>.skip
noncomputable def mo0:Code:=seqL lawB17
noncomputable def mop1:Code:=seqR lawB17
noncomputable def mo1:Code:=seqL (seqL mop1)
noncomputable def mo2:Code:=match seqR (seqL mop1) with | .cond _ x _=>seqL x | c=>c
noncomputable def mop2:Code:=seqR mop1
noncomputable def mo3:Code:=seqL mop2
noncomputable def mop3:Code:=seqR mop2
noncomputable def mo4:Code:=seqL mop3
noncomputable def mop4:Code:=seqR mop3
noncomputable def mo5:Code:=seqL mop4
noncomputable def mop5:Code:=seqR mop4
noncomputable def mo6:Code:=seqL mop5
noncomputable def mop6:Code:=seqR mop5
noncomputable def mo7:Code:=seqL mop6
noncomputable def mop7:Code:=seqR mop6
noncomputable def mo8:Code:=seqL mop7
noncomputable def mop8:Code:=seqR mop7
noncomputable def mo9:Code:=seqL mop8
noncomputable def mop9:Code:=seqR mop8
noncomputable def mo10:Code:=seqL mop9
noncomputable def mop10:Code:=seqR mop9
noncomputable def mo11:Code:=seqL mop10
noncomputable def mop11:Code:=seqR mop10
noncomputable def mo12:Code:=seqL mop11
noncomputable def mop12:Code:=seqR mop11
noncomputable def mo13:Code:=seqL mop12
noncomputable def mop13:Code:=seqR mop12
noncomputable def mo19:Code:=seqL mop13
noncomputable def mop14:Code:=seqR mop13
noncomputable def mo20:Code:=seqL mop14
noncomputable def mop15:Code:=seqR mop14
noncomputable def mo21:Code:=seqL mop15
theorem lawB17_eq:lawB17=.seq mo0 (.seq (.seq mo1 (.cond (.tmp 48) (.seq mo2 .ret) .skip)) (.seq mo3 (.seq mo4 (.seq mo5 (.seq mo6 (.seq mo7 (.seq mo8 (.seq mo9 (.seq mo10 (.seq mo11 (.seq mo12 (.seq mo13 (.seq mo19 (.seq mo20 (.seq mo21 .ret))))))))))))))):=by kernel_rfl
theorem lawB17_of:Tryd.f17.body=some lawB17:=by kernel_rfl
noncomputable def opmo2:Array Oper:=opsOf mo2
theorem mo2_eq:mo2=.region 2 opmo2 false:=by kernel_rfl
noncomputable def opmo21:Array Oper:=opsOf mo21
theorem mo21_eq:mo21=.region 21 opmo21 false:=by kernel_rfl
def MoreA (d:Dit) (r:Rows6) (x y z u b0 b1 b2 pr:Int) (W:World) (t:Array Value) (W2:World):Prop :=
 Old W W2∧(checkS d=0∧d.Small∧¬ (d.holders.length:Int)=0)∧∃ (B:Nat) (v35 v36 v37 v38 v39 v40 v41 v42 v43 v44 v45 v46 v47 v48:Value),t=#[d.val r,.int .u8 x,.int .u32 y,.int .u32 z,.int .u32 u,.agg #[.int .u16 b0,.int .u16 b1,.int .u16 b2],.int .u16 pr,.pointer (some ⟨B,0,none⟩),undef,undef,undef,undef,.pointer (some ⟨B+1,0,none⟩),undef,.bool false,undef,undef,undef,undef,undef,undef,undef,undef,undef,undef,undef,undef,undef,undef,undef,undef,undef,undef,undef,undef,v35,v36,v37,v38,v39,v40,v41,v42,v43,v44,v45,v46,v47,v48,undef,undef,undef,undef,undef,undef,undef,undef,undef,undef,undef,undef,undef,undef,undef,undef,undef,undef,undef,undef,undef,undef,undef,undef,undef,undef,undef,undef,undef,undef,undef,undef,undef,undef,undef,undef,undef,undef,undef,undef,undef,undef,undef,undef,undef,undef,undef,undef,undef,undef,undef,undef,undef,undef,undef,undef,undef,undef,undef,undef,undef,undef,undef,undef,undef,undef,undef,undef,undef,undef,undef,undef,undef,undef,undef,undef,undef,undef,undef,undef,undef,undef,undef,undef,undef,undef,undef,undef,undef,undef,undef,undef,undef,undef,undef,undef,undef,undef,undef,undef,undef,undef,undef,undef,undef,undef,undef,undef,undef,undef,undef,undef,undef,undef,undef,undef,undef,undef,undef,undef,undef,undef,undef,undef,undef,undef,undef,undef,undef,undef,undef,undef,undef,undef,undef,undef,undef,undef,undef,undef,undef,undef,undef,undef,undef,undef,undef,undef,undef,undef,undef,undef,undef,undef,undef,undef,undef,undef,undef,undef,undef,undef,undef,undef,undef,undef,undef,undef,undef,undef,undef,undef,undef,undef]∧B+1<W2.heap.size∧(∀ i v,(d.cellsA r)[i]?=some v→W2.cell? ⟨B,i,none⟩=some v)∧(∀ i v,(#[.int .u16 b0,.int .u16 b1,.int .u16 b2]:Array Value)[i]?=some v→W2.cell? ⟨B+1,i,none⟩=some v)
theorem more_lone (d:Dit) (r:Rows6) (x y z u b0 b1 b2 pr:Int) (W:World) (hd:DitSl W d r) (hb:d.Big) (hg:Glob W) :
  Lones Tryd.prog (FG 17) [mo0,mo1] (fun t W1=>Old W W1∧t.size=223∧(t[48]?=some (.bool true)∨(t[48]?=some (.bool false)∧MoreA d r x y z u b0 b1 b2 pr W t W1)))
   #[d.val r,.int .u8 x,.int .u32 y,.int .u32 z,.int .u32 u,.agg #[.int .u16 b0,.int .u16 b1,.int .u16 b2],.int .u16 pr,undef,undef,undef,undef,undef,undef,undef,undef,undef,undef,undef,undef,undef,undef,undef,undef,undef,undef,undef,undef,undef,undef,undef,undef,undef,undef,undef,undef,undef,undef,undef,undef,undef,undef,undef,undef,undef,undef,undef,undef,undef,undef,undef,undef,undef,undef,undef,undef,undef,undef,undef,undef,undef,undef,undef,undef,undef,undef,undef,undef,undef,undef,undef,undef,undef,undef,undef,undef,undef,undef,undef,undef,undef,undef,undef,undef,undef,undef,undef,undef,undef,undef,undef,undef,undef,undef,undef,undef,undef,undef,undef,undef,undef,undef,undef,undef,undef,undef,undef,undef,undef,undef,undef,undef,undef,undef,undef,undef,undef,undef,undef,undef,undef,undef,undef,undef,undef,undef,undef,undef,undef,undef,undef,undef,undef,undef,undef,undef,undef,undef,undef,undef,undef,undef,undef,undef,undef,undef,undef,undef,undef,undef,undef,undef,undef,undef,undef,undef,undef,undef,undef,undef,undef,undef,undef,undef,undef,undef,undef,undef,undef,undef,undef,undef,undef,undef,undef,undef,undef,undef,undef,undef,undef,undef,undef,undef,undef,undef,undef,undef,undef,undef,undef,undef,undef,undef,undef,undef,undef,undef,undef,undef,undef,undef,undef,undef,undef,undef,undef,undef,undef,undef,undef,undef,undef,undef,undef,undef,undef,undef,undef,undef,undef,undef,undef,undef] W:=by
 intro τ
 generalize hw0:({ W with tape:=τ }:World)=w0
 have hO0:Old W w0:=by rw [← hw0];exact .same rfl
 clear hw0
 generalize hY:(w0.alloc (.cells (d.cellsA r) 31)).alloc (.cells #[.int .u16 b0,.int .u16 b1,.int .u16 b2] 99)=Y
 obtain⟨oY,sY,g1,g2⟩:=al2' hY
 have hcd:d.cellsA r=#[r.h,r.t,num d.begin_,num d.week,num d.from_,num d.long,r.f,r.s,r.l,num d.flow.1,num d.flow.2,num d.loss.1,num d.loss.2,r.p]:=rfl
 rw [hcd] at hY
 simp only [mo0,lawB17,seqL,seqR,Tryd.f17]
 gi_wp2
 clear hcd hY
 intro τ1
 generalize hw1:({ Y with tape:=τ1 }:World)=w1
 have h1:w1.heap=Y.heap:=by rw [← hw1]
 clear hw1
 have hOw:Old W w1:=hO0.trans (oY.trans (.same h1))
 have cell0:∀ (b:Nat) (cs:Array Value) (T:TypeId),Y.heap[b]?=some (.cells cs T (0,0))→∀ w2,Old w1 w2→∀ i v,cs[i]?=some v→w2.cell? ⟨b,i,none⟩=some v:=fun b cs T hb w2 o i v hv=>by
  have hl:=(Array.getElem?_eq_some_iff.1 hb).1
  rw [o.cell ⟨b,i,none⟩ (by rw [h1];exact hl)]
  unfold World.cell?
  dsimp only
  rw [h1,hb]
  exact hv
 have CO:=Lib.hid (cell0 _ _ _ g1)
 have CL:=Lib.hid (cell0 _ _ _ g2)
 have hBl:w0.heap.size+2≤w1.heap.size:=by rw [h1];omega
 clear cell0 g1 g2 sY oY h1
 have k19:=toFG 17 (m:=0) (great_big d r 0 0 (.slice none 0 0) [] w1 (hd.old hOw) hb ⟨0,.inl ⟨rfl,rfl⟩⟩ (Nat.zero_le _))
 obtain⟨ah,caph,eh⟩:=hd.holders.cases
 rw [List.length_map] at eh
 have CH:=Lib.hid (show ∀ w2,Old w1 w2→w2.cell? ⟨w0.heap.size,0,none⟩=some (.slice ah d.holders.length caph) from fun w2 o=>(CO.out w2 o 0 r.h rfl).trans (by rw [eh]))
 have HD:=Lib.hid hd
 have HG:=Lib.hid hg
 clear hd hg eh
 obtain⟨c0,c1,c2,c3,c4,c5,c6,c7,c8,c9,c10,c11,c12,c13⟩:=cells14 (CO.out w1 (Old.refl _))
 simp only [mo1,mop15,mop14,mop13,mop12,mop11,mop10,mop9,mop8,mop7,mop6,mop5,mop4,mop3,mop2,mop1,lawB17,seqL,seqR,Tryd.f17]
 cases hgr:greatS d 0 with
 | true =>
  rw [show ([]:List (List Value)).length=0 from rfl,hgr] at k19
  gi_wp2_with (first
   | (gi_at_call 19;refine CallsIn.mono k19 ?_;rintro e w2 ⟨rfl,x2⟩)
   | gi_in)
  first | exact⟨hOw.trans (.nx x2),rfl,.inl rfl⟩ | exact⟨hOw.trans (.nx x2),rfl,rfl⟩
 | false =>
 rw [show ([]:List (List Value)).length=0 from rfl,hgr] at k19
 have hs:=small_of_great hgr
 have k25:=Lib.hid (fun w2 (o:Old w1 w2)=>toFG 17 (m:=0) (check25_any d r w2 (HD.out.old (hOw.trans o)) hs))
 clear hgr
 rcases (Decidable.em (checkS d=0)).symm with hc | hc
 ·have b1:(checkS d != 0)=true:=by simpa using hc
  generalize checkS d=g at *
  gi_wp2_with (first
   | (gi_at_call 19;refine CallsIn.mono k19 ?_;rintro e w2 ⟨rfl,x2⟩;clear c0 c1 c2 c3 c4 c5 c6 c7 c8 c9 c10 c11 c12 c13;obtain⟨c0,c1,c2,c3,c4,c5,c6,c7,c8,c9,c10,c11,c12,c13⟩:=cells14 (CO.out w2 (.nx x2));have kk:=k25.out w2 (.nx x2))
   | (gi_at_call 25;refine CallsIn.mono kk ?_;rintro e w3 ⟨rfl,x3⟩)
   | gi_in)
  first | exact⟨hOw.trans (.trans (.nx x2) (.nx x3)),rfl,.inl rfl⟩ | exact⟨hOw.trans (.trans (.nx x2) (.nx x3)),rfl,rfl⟩
 have HC:=Lib.hid hc
 rw [hc] at k25
 clear hc
 by_cases hn:(d.holders.length:Int)=0
 ·have b1:((d.holders.length:Int) == 0)=true:=by simpa using hn
  gi_wp2_with (first
   | (gi_at_call 19;refine CallsIn.mono k19 ?_;rintro e w2 ⟨rfl,x2⟩;clear c0 c1 c2 c3 c4 c5 c6 c7 c8 c9 c10 c11 c12 c13;obtain⟨c0,c1,c2,c3,c4,c5,c6,c7,c8,c9,c10,c11,c12,c13⟩:=cells14 (CO.out w2 (.nx x2));have kk:=k25.out w2 (.nx x2))
   | (gi_at_call 25;refine CallsIn.mono kk ?_;rintro e w3 ⟨rfl,x3⟩;clear c0 c1 c2 c3 c4 c5 c6 c7 c8 c9 c10 c11 c12 c13;have c0:=CH.out w3 (.trans (.nx x2) (.nx x3)))
   | gi_in)
  first | exact⟨hOw.trans (.trans (.nx x2) (.nx x3)),rfl,.inl rfl⟩ | exact⟨hOw.trans (.trans (.nx x2) (.nx x3)),rfl,rfl⟩
 have b1:((d.holders.length:Int) == 0)=false:=by simpa using hn
 have HNN:=Lib.hid hn
 gi_wp2_with (first
  | (gi_at_call 19;refine CallsIn.mono k19 ?_;rintro e w2 ⟨rfl,x2⟩;clear c0 c1 c2 c3 c4 c5 c6 c7 c8 c9 c10 c11 c12 c13;obtain⟨c0,c1,c2,c3,c4,c5,c6,c7,c8,c9,c10,c11,c12,c13⟩:=cells14 (CO.out w2 (.nx x2));have kk:=k25.out w2 (.nx x2))
  | (gi_at_call 25;refine CallsIn.mono kk ?_;rintro e w3 ⟨rfl,x3⟩;clear c0 c1 c2 c3 c4 c5 c6 c7 c8 c9 c10 c11 c12 c13;have c0:=CH.out w3 (.trans (.nx x2) (.nx x3)))
  | gi_in)
 have oB2:Old w1 w3:=.trans (.nx x2) (.nx x3)
 refine⟨hOw.trans oB2,rfl,.inr ⟨rfl,hOw.trans oB2,⟨HC.out,hs,HNN.out⟩,?_⟩⟩
 exact⟨w0.heap.size,_,_,_,_,_,_,_,_,_,_,_,_,_,_,rfl,by have:=oB2.size;omega,CO.out w3 oB2,CL.out w3 oB2⟩
end Go.Proofs.YtolholkjeehamaaDoor

namespace Go.Proofs.YtolholkjeehamaaDoor
open Go.RowKit Go.Con Go.Conc
local instance:Lone:=mainL
theorem hours_bd {d:Dit} (hO:d.Ok) (holder:Int) {a b:Int} (ha:0≤a) (hab:a≤b):0≤d.hoursW holder a b∧d.hoursW holder a b≤b-a:=by
 have h1:=hO.ran_mono ha hab
 have h2:=hO.had_mono holder (hO.ran_nonneg a) h1.1
 rw [hoursW_had]
 omega
def MoreB (d:Dit) (r:Rows6) (x y z u b0 b1 b2 pr:Int) (B:Nat) (W2:World) (t:Array Value) (W3:World):Prop :=
 Old W2 W3∧∃ k a b c:Int,((0≤k∧k≤(d.holders.length:Int)-1)∧0≤a∧a≤b∧b≤c∧c≤999999999)∧∃ v16 v17 v18 v22 v35 v36 v37 v38 v39 v40 v41 v42 v43 v44 v45 v46 v47 v48 v50 v51 v52 v53 v54 v55 v56 v57 v58 v59 v60 v61 v62 v63 v64 v65 v66 v67 v68 v69 v70 v71 v72 v73 v74 v75 v76 v77 v78 v79 v80 v81 v82 v83 v84 v85 v86 v87 v88 v89 v90 v91 v92 v93 v94 v95 v96 v97 v98 v99 v100 v101:Value,t=#[d.val r,.int .u8 x,.int .u32 y,.int .u32 z,.int .u32 u,.agg #[.int .u16 b0,.int .u16 b1,.int .u16 b2],.int .u16 pr,.pointer (some ⟨B,0,none⟩),undef,undef,undef,undef,.pointer (some ⟨B+1,0,none⟩),undef,.bool false,num k,v16,v17,v18,num a,num c,num b,v22,num (waterF d k a b).2.1,num 0,num (boundF d k a b (pr % 10001)).1,num 0,undef,undef,undef,undef,undef,undef,undef,undef,v35,v36,v37,v38,v39,v40,v41,v42,v43,v44,v45,v46,v47,v48,undef,v50,v51,v52,v53,v54,v55,v56,v57,v58,v59,v60,v61,v62,v63,v64,v65,v66,v67,v68,v69,v70,v71,v72,v73,v74,v75,v76,v77,v78,v79,v80,v81,v82,v83,v84,v85,v86,v87,v88,v89,v90,v91,v92,v93,v94,v95,v96,v97,v98,v99,v100,v101,undef,undef,undef,undef,undef,undef,undef,undef,undef,undef,undef,undef,undef,undef,undef,undef,undef,undef,undef,undef,undef,undef,undef,undef,undef,undef,undef,undef,undef,undef,undef,undef,undef,undef,undef,undef,undef,undef,undef,undef,undef,undef,undef,undef,undef,undef,undef,undef,undef,undef,undef,undef,undef,undef,undef,undef,undef,undef,undef,undef,undef,undef,undef,undef,undef,undef,undef,undef,undef,undef,undef,undef,undef,undef,undef,undef,undef,undef,undef,undef,undef,undef,undef,undef,undef,undef,undef,undef,undef,undef,undef,undef,undef,undef,undef,undef,undef,undef,undef,undef,undef,undef,undef,undef,undef,undef,undef,undef,undef,undef,undef,undef,undef,undef,undef,undef,undef,undef,undef,undef,undef]
theorem more_mid {v35 v36 v37 v38 v39 v40 v41 v42 v43 v44 v45 v46 v47 v48:Value} (d:Dit) (r:Rows6) (x y z u b0 b1 b2 pr:Int) (B:Nat) (W2:World) (hd:DitSl W2 d r) (hs:d.Small) (hg:Glob W2) (hck:checkS d=0) (hn:¬ (d.holders.length:Int)=0) (cB:∀ i v,(d.cellsA r)[i]?=some v→W2.cell? ⟨B,i,none⟩=some v) (hBs:B+1<W2.heap.size) (hx:0≤x∧x≤255) (hy:0≤y∧y≤4294967295) (hz:0≤z∧z≤4294967295) (hu:0≤u∧u≤4294967295) (hpr:0≤pr∧pr≤65535) :
  Lones Tryd.prog (FG 17) [mo3,mo4,mo5,mo6,mo7,mo8] (MoreB d r x y z u b0 b1 b2 pr B W2) #[d.val r,.int .u8 x,.int .u32 y,.int .u32 z,.int .u32 u,.agg #[.int .u16 b0,.int .u16 b1,.int .u16 b2],.int .u16 pr,.pointer (some ⟨B,0,none⟩),undef,undef,undef,undef,.pointer (some ⟨B+1,0,none⟩),undef,.bool false,undef,undef,undef,undef,undef,undef,undef,undef,undef,undef,undef,undef,undef,undef,undef,undef,undef,undef,undef,undef,v35,v36,v37,v38,v39,v40,v41,v42,v43,v44,v45,v46,v47,v48,undef,undef,undef,undef,undef,undef,undef,undef,undef,undef,undef,undef,undef,undef,undef,undef,undef,undef,undef,undef,undef,undef,undef,undef,undef,undef,undef,undef,undef,undef,undef,undef,undef,undef,undef,undef,undef,undef,undef,undef,undef,undef,undef,undef,undef,undef,undef,undef,undef,undef,undef,undef,undef,undef,undef,undef,undef,undef,undef,undef,undef,undef,undef,undef,undef,undef,undef,undef,undef,undef,undef,undef,undef,undef,undef,undef,undef,undef,undef,undef,undef,undef,undef,undef,undef,undef,undef,undef,undef,undef,undef,undef,undef,undef,undef,undef,undef,undef,undef,undef,undef,undef,undef,undef,undef,undef,undef,undef,undef,undef,undef,undef,undef,undef,undef,undef,undef,undef,undef,undef,undef,undef,undef,undef,undef,undef,undef,undef,undef,undef,undef,undef,undef,undef,undef,undef,undef,undef,undef,undef,undef,undef,undef,undef,undef,undef,undef,undef,undef,undef,undef,undef,undef,undef,undef,undef,undef,undef,undef,undef,undef,undef,undef,undef,undef,undef,undef,undef,undef,undef,undef,undef,undef,undef] W2:=by
 have CO:=Lib.hid (fun w2 (o:Old W2 w2) i v (h:(d.cellsA r)[i]?=some v)=>(o.cell ⟨B,i,none⟩ (by show B<_;omega)).trans (cB i v h))
 obtain⟨ah,caph,eh⟩:=hd.holders.cases
 rw [List.length_map] at eh
 have CH:=Lib.hid (show ∀ w2,Old W2 w2→w2.cell? ⟨B,0,none⟩=some (.slice ah d.holders.length caph) from fun w2 o=>(CO.out w2 o 0 r.h rfl).trans (by rw [eh]))
 have HD:=Lib.hid hd
 have HG:=Lib.hid hg
 have HC:=Lib.hid hck
 have h6:=(ok_of_check hck).h6
 clear cB hd hg hck eh
 intro τ3
 generalize hq3:({ W2 with tape:=τ3 }:World)=u3
 have oA3:Old W2 u3:=(Old.refl _).trans (by rw [← hq3];exact .same rfl)
 clear hq3
 have c0:=CH.out u3 oA3
 simp only [mo3,mop15,mop14,mop13,mop12,mop11,mop10,mop9,mop8,mop7,mop6,mop5,mop4,mop3,mop2,mop1,lawB17,seqL,seqR,Tryd.f17]
 gi_wp2
 clear c0
 have hk:0≤x % (d.holders.length:Int)∧x % (d.holders.length:Int)≤(d.holders.length:Int)-1:=⟨Int.emod_nonneg _ hn,by have:=Int.emod_lt_of_pos x (b:=(d.holders.length:Int)) (by omega);omega⟩
 generalize x % (d.holders.length:Int)=k at hk ⊢
 intro τ4
 generalize hq4:({ u3 with tape:=τ4 }:World)=u4
 have oA4:Old W2 u4:=oA3.trans (by rw [← hq4];exact .same rfl)
 clear hq4
 simp only [mo4,mop15,mop14,mop13,mop12,mop11,mop10,mop9,mop8,mop7,mop6,mop5,mop4,mop3,mop2,mop1,lawB17,seqL,seqR,Tryd.f17]
 gi_wp2
 have hx1:0≤y % 1000000000∧y % 1000000000≤999999999:=by omega
 have hy1:0≤z % 1000000000∧z % 1000000000≤999999999:=by omega
 have hz1:0≤u % 1000000000∧u % 1000000000≤999999999:=by omega
 generalize y % 1000000000=a at hx1 ⊢
 generalize z % 1000000000=b at hy1 ⊢
 generalize u % 1000000000=c at hz1 ⊢
 intro τ5
 generalize hq5:({ u4 with tape:=τ5 }:World)=u5
 have oA5:Old W2 u5:=oA4.trans (by rw [← hq5];exact .same rfl)
 clear hq5
 have hmn:=min3_run a b c u5
 have hmx:=max3_run a b c u5
 generalize hlo0:min (min a b) c=lo at *
 generalize hhi0:max (max a b) c=hi at *
 have HLO:=Lib.hid hlo0
 have HHI:=Lib.hid hhi0
 clear hlo0 hhi0
 simp only [mo5,mop15,mop14,mop13,mop12,mop11,mop10,mop9,mop8,mop7,mop6,mop5,mop4,mop3,mop2,mop1,lawB17,seqL,seqR,Tryd.f17]
 gi_wp2
 replace HLO:=HLO.out
 replace HHI:=HHI.out
 clear hmn hmx
 have hlo:0≤lo∧lo≤a+b+c-lo-hi∧a+b+c-lo-hi≤hi∧hi≤999999999:=by omega
 have hlo2:a+b+c-lo≤2999999998∧0≤a+b+c-lo:=by omega
 clear HLO HHI
 intro τ6
 generalize hq6:({ u5 with tape:=τ6 }:World)=u6
 have oA6:Old W2 u6:=oA5.trans (by rw [← hq6];exact .same rfl)
 clear hq6
 simp only [mo6,mop15,mop14,mop13,mop12,mop11,mop10,mop9,mop8,mop7,mop6,mop5,mop4,mop3,mop2,mop1,lawB17,seqL,seqR,Tryd.f17]
 gi_wp2
 generalize a+b+c-lo-hi=mid at hlo ⊢
 clear hlo2 hx1 hy1 hz1
 have hpp:0≤pr % 10001∧pr % 10001≤10000:=by omega
 have hask:askS d k lo mid=0:=by
  unfold askS stretchS
  rw [if_neg (by simp [HC.out]),if_neg (by simp only [Decidable.not_not];omega),if_neg (by omega),if_neg (by omega)]
 have hO:=ok_of_check HC.out
 have hhb:=hours_bd hO k (a:=lo) (b:=mid) (by omega) (by omega)
 have hwf:(waterF d k lo mid).2.2=0:=by unfold waterF;rw [if_neg (by simp [hask])]
 have hbf:(boundF d k lo mid (pr % 10001)).2=0:=by unfold boundF;rw [if_neg (by simp [hask]),if_pos hpp]
 have KW:=Lib.hid (fun u (o:Old W2 u)=>show CallsIn (FG 17) 0 Tryd.prog 49 #[d.val r,num k,num lo,num mid] u fun e w'=>∃ v,e=.returned (.tuple #[v,num (waterF d k lo mid).2.1,num 0])∧Nx u w' by
  have:=toFG 17 (m:=0) (water_any d r k lo mid u (HD.out.old o) hs (HG.out.old o) (by omega))
  rw [hwf] at this
  exact this.mono fun e w' ⟨v,h1,h2,_⟩=>⟨v,h1,h2⟩)
 have KB:=Lib.hid (fun u (o:Old W2 u)=>show CallsIn (FG 17) 0 Tryd.prog 50 #[d.val r,num k,num lo,num mid,num (pr % 10001)] u fun e w'=>e=.returned (.tuple #[num (boundF d k lo mid (pr % 10001)).1,num 0])∧Nx u w' by
  have:=toFG 17 (m:=0) (bound_any d r k lo mid (pr % 10001) u (HD.out.old o) hs (HG.out.old o) (fun _=>by omega))
  rw [hbf] at this
  exact this)
 have HH:=Lib.hid (And.intro hk hlo)
 have oA6':=oA6
 clear hask hhb hwf hbf hO h6
 have HW:=Lib.hid (show (waterF d k lo mid).2.1=(waterF d k lo mid).2.1 from rfl)
 generalize hwv:(waterF d k lo mid).2.1=wv at KW
 generalize hbv:(boundF d k lo mid (pr % 10001)).1=bv at KB
 have HWV:=Lib.hid hwv
 have HBV:=Lib.hid hbv
 clear hwv hbv HW
 intro τ7
 generalize hq7:({ u6 with tape:=τ7 }:World)=u7
 have oA7:Old W2 u7:=oA6.trans (by rw [← hq7];exact .same rfl)
 clear hq7
 simp only [mo7,mop15,mop14,mop13,mop12,mop11,mop10,mop9,mop8,mop7,mop6,mop5,mop4,mop3,mop2,mop1,lawB17,seqL,seqR,Tryd.f17]
 have kk:=KW.out u7 oA7
 obtain⟨c0,c1,c2,c3,c4,c5,c6,c7,c8,c9,c10,c11,c12,c13⟩:=cells14 (CO.out u7 oA7)
 gi_wp2_with (first
  | (gi_at_call 49;refine CallsIn.mono kk ?_;rintro e w7 ⟨pv,rfl,x7⟩)
  | gi_in)
 clear kk c0 c1 c2 c3 c4 c5 c6 c7 c8 c9 c10 c11 c12 c13
 have oB7:Old W2 w7:=oA7.trans (.nx x7)
 intro τ8
 generalize hq8:({ w7 with tape:=τ8 }:World)=u8
 have oA8:Old W2 u8:=oB7.trans (by rw [← hq8];exact .same rfl)
 clear hq8
 simp only [mo8,mop15,mop14,mop13,mop12,mop11,mop10,mop9,mop8,mop7,mop6,mop5,mop4,mop3,mop2,mop1,lawB17,seqL,seqR,Tryd.f17]
 have kk:=KB.out u8 oA8
 obtain⟨c0,c1,c2,c3,c4,c5,c6,c7,c8,c9,c10,c11,c12,c13⟩:=cells14 (CO.out u8 oA8)
 gi_wp2_with (first
  | (gi_at_call 50;refine CallsIn.mono kk ?_;rintro e w8 ⟨rfl,x8⟩)
  | gi_in)
 clear kk c0 c1 c2 c3 c4 c5 c6 c7 c8 c9 c10 c11 c12 c13
 obtain⟨hk,hlo⟩:=HH.out
 subst wv bv
 exact⟨oA8.trans (.nx x8),k,lo,mid,hi,⟨hk,hlo⟩,_,_,_,_,_,_,_,_,_,_,_,_,_,_,_,_,_,_,_,_,_,_,_,_,_,_,_,_,_,_,_,_,_,_,_,_,_,_,_,_,_,_,_,_,_,_,_,_,_,_,_,_,_,_,_,_,_,_,_,_,_,_,_,_,_,_,_,_,_,_,rfl⟩
end Go.Proofs.YtolholkjeehamaaDoor

namespace Go.Proofs.YtolholkjeehamaaDoor
open Go.RowKit
theorem flat_at {sz:Nat}:∀ (ys:List (List Value)) (j k:Nat) (l:List Value) (x:Value),(∀ y∈ys,y.length=sz)→ys[j]?=some l→l[k]?=some x→ys.flatten[j * sz+k]?=some x
 | [],j,k,l,x,_,h,_=>by simp at h
 | y :: ys,j,k,l,x,hl,hj,hk=>by
  have hy:=hl y (List.mem_cons_self ..)
  cases j with
  | zero =>
   simp only [List.getElem?_cons_zero,Option.some.injEq] at hj
   subst hj
   have:k<y.length:=(List.getElem?_eq_some_iff.1 hk).1
   rw [Nat.zero_mul,Nat.zero_add,List.flatten_cons,List.getElem?_append_left this]
   exact hk
  | succ j =>
   rw [List.flatten_cons,List.getElem?_append_right (by rw [hy,Nat.succ_mul];omega),hy]
   have:(j+1) * sz+k-sz=j * sz+k:=by rw [Nat.succ_mul];omega
   rw [this]
   exact flat_at ys j k l x (fun y hy=>hl y (List.mem_cons_of_mem _ hy)) hj hk
theorem addr_add (b o j:Nat):(⟨b,o,none⟩:Addr).add j=⟨b,o+j,none⟩:=by
 unfold Addr.add
 split
 ·rename_i h;subst h;rfl
 ·rfl
structure ElemT (t e:TypeId) (z:Value) (sz by_:Nat):Prop where
 und:Tryd.prog.underlying t=some (.slice e)
 info:∃ i:TypeInfo,Tryd.prog.info? e=some i∧i.zero=some z∧i.size=sz∧i.bytes=by_
 zs:z.cells.size=sz
 pos:0<sz
theorem ElemT.mk' {t e:TypeId} {z:Value} {sz by_:Nat} (h1:Tryd.prog.underlying t=some (.slice e)) (h:(Tryd.prog.info? e).map (fun i=>(i.zero,i.size,i.bytes))=some (some z,sz,by_)) (h2:z.cells.size=sz) (h3:0<sz):ElemT t e z sz by_:=by
 refine⟨h1,?_,h2,h3⟩
 cases hi:Tryd.prog.info? e with
 | none=>rw [hi] at h;cases h
 | some i =>
  rw [hi] at h
  simp only [Option.map_some,Option.some.injEq,Prod.mk.injEq] at h
  exact⟨i,rfl,h.1,h.2.1,h.2.2⟩
theorem own_sl {w:World} {base e sz n:Nat} {v:Value} {rows:List (List Value)} (hr:∀ y∈rows,y.length=sz) (hn:rows.length=n) (h:w.ownsRow base e sz v n rows.flatten):Sl w v sz rows:=by
 subst hn
 obtain⟨_,⟨rfl,h0⟩ | ⟨g,cap,cur,rfl,hb,hg,hc,hm,hs,ht⟩⟩:=h
 ·exact⟨0,.inl ⟨List.eq_nil_of_length_eq_zero h0,rfl⟩⟩
 ·refine⟨cap,.inr ⟨g,0,rfl,(Array.getElem?_eq_some_iff.1 hg).1,fun j k l x hj hk=>?_⟩⟩
  have h1:=flat_at (sz:=sz) rows j k l x hr hj hk
  rw [← ht,List.getElem?_take] at h1
  split at h1
  ·unfold World.cell?
   dsimp only
   rw [hg]
   simpa using h1
  ·cases h1
theorem own_shape {w:World} {base e sz n:Nat} {v:Value} {xs:List Value} (h0:0<n) (h:w.ownsRow base e sz v n xs):∃ g cap,v=.slice (some ⟨g,0,none⟩) n cap∧base≤g∧g<w.heap.size∧n≤cap∧Kind w v:=by
 obtain⟨_,⟨_,h1⟩ | ⟨g,cap,cur,rfl,hb,hg,hc,_⟩⟩:=h
 ·omega
 ·exact⟨g,cap,rfl,hb,(Array.getElem?_eq_some_iff.1 hg).1,hc,fun a n c e=>by cases e;exact⟨_,_,_,hg⟩⟩
section
variable {t e:TypeId} {z:Value} {sz by_:Nat} (T:ElemT t e z sz by_)
include T
theorem run_more (base:Nat) (w:World) (v:Value) (rows:List (List Value)) (hr:∀ y∈rows,y.length=sz) (hown:w.ownsRow base e sz v rows.length rows.flatten) (g1:Nat) (x:List Value) (hx:x.length=sz) (hg:w.heap[g1]?=some (.cells x.toArray e (0,0)))
  (h1:∀ y∈x,y.oneCell'=true) (hl:(rows.length+1) * by_≤140737488355328) (hm:rows.length≤281474976710656) (hb:base≤w.heap.size) :
  ∃ v' w',(Builtin.append_ #[t,t] t #[v,.slice (some ⟨g1,0,none⟩) 1 1]).run Tryd.prog w=.ok v' w'∧w'.ownsRow base e sz v' (rows.length+1) (rows++[x]).flatten∧w.grownBy w' v.ownBlock:=by
 obtain⟨i,hi,hz,hs,hby⟩:=T.info
 obtain⟨v',w',r1,r2,r3,_,r5⟩:=run_append_own_at (P:=Tryd.prog) w base t t e i z sz by_ T.und hi hz hs hby T.zs T.pos v rows.length rows.flatten hown ⟨g1,0,none⟩ 1 1 x (by omega) (fun j y hj=>by
  rw [addr_add]
  unfold World.cell?
  dsimp only
  rw [hg]
  simpa using hj) h1 (by unfold maxLen;omega) hl hb
 exact⟨v',w',r1,by rw [List.flatten_append];simpa using r2,r3⟩
end
theorem T29:ElemT 29 91 (.agg #[str [],num 0,num 0,num 0,num 0,num 0]) 6 56:=.mk' Tryd.underlying29 (by kernel_rfl) (by kernel_rfl) (by decide)
end Go.Proofs.YtolholkjeehamaaDoor

namespace Go.Proofs.YtolholkjeehamaaDoor
open Go.RowKit Go.Con Go.Conc
local instance:Lone:=mainL
theorem old_then {w u w' : World} (o:Old w u) (hs:u.heap.size≤w'.heap.size) (h:∀ b,b<w.heap.size→w'.heap[b]?=u.heap[b]?):Old w w':=by
 refine⟨Nat.le_trans o.size hs,fun a ha=>?_,fun b hb=>?_,fun b es k hb=>?_⟩
 ·rw [← o.cell a ha]
  unfold World.cell?
  rw [h _ ha]
 ·have hl:b<w.heap.size:=by
   obtain⟨cs,t,fz,e⟩:=hb
   exact (Array.getElem?_eq_some_iff.1 e).1
  obtain⟨cs,t,fz,e⟩:=o.kind b hb
  exact⟨cs,t,fz,(h b hl).trans e⟩
 ·exact (h b (Array.getElem?_eq_some_iff.1 hb).1).trans (o.map b es k hb)
end Go.Proofs.YtolholkjeehamaaDoor

namespace Go.Proofs.YtolholkjeehamaaDoor
open Go.RowKit Go.Con Go.Conc
local instance:Lone:=mainL
noncomputable def lawB14:Code:=match Tryd.f14.body with | some c=>c | none=>.skip
noncomputable def q0:Code:=seqL lawB14
noncomputable def qp1:Code:=seqR lawB14
noncomputable def q1:Code:=seqL qp1
noncomputable def qp2:Code:=seqR qp1
noncomputable def q2:Code:=seqL qp2
noncomputable def qp3:Code:=seqR qp2
noncomputable def q3:Code:=seqL (seqL qp3)
noncomputable def q4:Code:=match seqR (seqL qp3) with | .cond _ x _=>seqL x | c=>c
noncomputable def qp4:Code:=seqR qp3
noncomputable def q5:Code:=seqL qp4
noncomputable def qp5:Code:=seqR qp4
noncomputable def q6:Code:=seqL qp5
end Go.Proofs.YtolholkjeehamaaDoor

namespace Go.Proofs.YtolholkjeehamaaDoor
open Go.RowKit Go.Con Go.Conc
local instance:Lone:=mainL
theorem minK_run (n:Int) (w:World):(Builtin.min_ #[3,3] 3 #[.int .i64 100000,.int .i64 n]).run Tryd.prog w=.ok (.int .i64 (min 100000 n)) w:=by
 rw [show min 100000 n=if n<100000 then n else 100000 by omega]
 by_cases h:n<100000<;>simp [Builtin.min_,Builtin.min2,go_sem,h]
theorem maxK_run (n:Int) (w:World):(Builtin.max_ #[3,3] 3 #[.int .i64 0,.int .i64 n]).run Tryd.prog w=.ok (.int .i64 (max 0 n)) w:=by
 rw [show max 0 n=if 0<n then n else 0 by omega]
 by_cases h:0<n<;>simp [Builtin.max_,Builtin.max2,go_sem,h]
end Go.Proofs.YtolholkjeehamaaDoor

namespace Go.Proofs.YtolholkjeehamaaDoor
open Go.RowKit Go.Con Go.Conc
local instance:Lone:=mainL
theorem cell_hp2 {w w' : World} {a:Addr} (h:w'.heap[a.block]?=w.heap[a.block]?):w'.cell? a=w.cell? a:=by unfold World.cell?;rw [h]
end Go.Proofs.YtolholkjeehamaaDoor

namespace Go.Proofs.YtolholkjeehamaaDoor
open Go.RowKit Go.Con Go.Conc
local instance:Lone:=mainL
theorem more_box {v0 v1 v2 v3 v4 v5 v6 v12 v14 v15 v16 v17 v18 v19 v20 v21 v22 v23 v24 v25 v26 v35 v36 v37 v38 v39 v40 v41 v42 v43 v44 v45 v46 v47 v48 v50 v51 v52 v53 v54 v55 v56 v57 v58 v59 v60 v61 v62 v63 v64 v65 v66 v67 v68 v69 v70 v71 v72 v73 v74 v75 v76 v77 v78 v79 v80 v81 v82 v83 v84 v85 v86 v87 v88 v89 v90 v91 v92 v93 v94 v95 v96 v97 v98 v99 v100 v101:Value} (d:Dit) (r:Rows6) (Y:World) (B:Nat) (hd:DitSl Y d r) (hc:∀ i v,(d.cellsA r)[i]?=some v→Y.cell? ⟨B,i,none⟩=some v) :
  mo9.wpIn (FG 17) 0 Tryd.prog (fun e a w'=>e=.normal∧a.defers=[]∧a.tmps=#[v0,v1,v2,v3,v4,v5,v6,.pointer (some ⟨B,0,none⟩),undef,undef,undef,undef,v12,undef,v14,v15,v16,v17,v18,v19,v20,v21,v22,v23,v24,v25,v26,.pointer (some ⟨Y.heap.size,0,none⟩),undef,undef,undef,undef,undef,undef,undef,v35,v36,v37,v38,v39,v40,v41,v42,v43,v44,v45,v46,v47,v48,undef,v50,v51,v52,v53,v54,v55,v56,v57,v58,v59,v60,v61,v62,v63,v64,v65,v66,v67,v68,v69,v70,v71,v72,v73,v74,v75,v76,v77,v78,v79,v80,v81,v82,v83,v84,v85,v86,v87,v88,v89,v90,v91,v92,v93,v94,v95,v96,v97,v98,v99,v100,v101,d.val r,undef,undef,undef,undef,undef,undef,undef,undef,undef,undef,undef,undef,undef,undef,undef,undef,undef,undef,undef,undef,undef,undef,undef,undef,undef,undef,undef,undef,undef,undef,undef,undef,undef,undef,undef,undef,undef,undef,undef,undef,undef,undef,undef,undef,undef,undef,undef,undef,undef,undef,undef,undef,undef,undef,undef,undef,undef,undef,undef,undef,undef,undef,undef,undef,undef,undef,undef,undef,undef,undef,undef,undef,undef,undef,undef,undef,undef,undef,undef,undef,undef,undef,undef,undef,undef,undef,undef,undef,undef,undef,undef,undef,undef,undef,undef,undef,undef,undef,undef,undef,undef,undef,undef,undef,undef,undef,undef,undef,undef,undef,undef,undef,undef,undef,undef,undef,undef,undef,undef,undef]∧w'=Y.alloc (.cells (d.cellsA r) 31)) ⟨#[v0,v1,v2,v3,v4,v5,v6,.pointer (some ⟨B,0,none⟩),undef,undef,undef,undef,v12,undef,v14,v15,v16,v17,v18,v19,v20,v21,v22,v23,v24,v25,v26,undef,undef,undef,undef,undef,undef,undef,undef,v35,v36,v37,v38,v39,v40,v41,v42,v43,v44,v45,v46,v47,v48,undef,v50,v51,v52,v53,v54,v55,v56,v57,v58,v59,v60,v61,v62,v63,v64,v65,v66,v67,v68,v69,v70,v71,v72,v73,v74,v75,v76,v77,v78,v79,v80,v81,v82,v83,v84,v85,v86,v87,v88,v89,v90,v91,v92,v93,v94,v95,v96,v97,v98,v99,v100,v101,undef,undef,undef,undef,undef,undef,undef,undef,undef,undef,undef,undef,undef,undef,undef,undef,undef,undef,undef,undef,undef,undef,undef,undef,undef,undef,undef,undef,undef,undef,undef,undef,undef,undef,undef,undef,undef,undef,undef,undef,undef,undef,undef,undef,undef,undef,undef,undef,undef,undef,undef,undef,undef,undef,undef,undef,undef,undef,undef,undef,undef,undef,undef,undef,undef,undef,undef,undef,undef,undef,undef,undef,undef,undef,undef,undef,undef,undef,undef,undef,undef,undef,undef,undef,undef,undef,undef,undef,undef,undef,undef,undef,undef,undef,undef,undef,undef,undef,undef,undef,undef,undef,undef,undef,undef,undef,undef,undef,undef,undef,undef,undef,undef,undef,undef,undef,undef,undef,undef,undef,undef],[]⟩ Y:=by
 obtain⟨c0,c1,c2,c3,c4,c5,c6,c7,c8,c9,c10,c11,c12,c13⟩:=cells14 hc
 obtain⟨ah,hh,eh⟩:=hd.holders.cases
 obtain⟨at1,ht,et⟩:=hd.turns.cases
 obtain⟨af,hf,ef⟩:=hd.feasts.cases
 obtain⟨as1,hs,es⟩:=hd.swaps.cases
 obtain⟨al,hl,el⟩:=hd.loans.cases
 obtain⟨ap,hp,ep⟩:=hd.plots.cases
 have hval:d.val r=.agg #[r.h,r.t,num d.begin_,num d.week,num d.from_,num d.long,r.f,r.s,r.l,num d.flow.1,num d.flow.2,num d.loss.1,num d.loss.2,r.p]:=rfl
 have hcel:d.cellsA r=#[r.h,r.t,num d.begin_,num d.week,num d.from_,num d.long,r.f,r.s,r.l,num d.flow.1,num d.flow.2,num d.loss.1,num d.loss.2,r.p]:=rfl
 rw [hval,hcel]
 clear hval hcel hc hd
 rw [eh] at c0;rw [et] at c1;rw [ef] at c6;rw [es] at c7;rw [el] at c8;rw [ep] at c13
 rw [eh,et,ef,es,el,ep]
 generalize (d.holders.map fun s=>[str s]).length=nh at *
 generalize (d.turns.map two).length=nt at *
 generalize (d.feasts.map two).length=nf at *
 generalize (d.swaps.map three).length=ns at *
 generalize (d.loans.map three).length=nl at *
 generalize (d.plots.map Plot.cells).length=np at *
 clear eh et ef es el ep
 simp only [mo9,mop15,mop14,mop13,mop12,mop11,mop10,mop9,mop8,mop7,mop6,mop5,mop4,mop3,mop2,mop1,lawB17,seqL,seqR,Tryd.f17]
 gi_wp2
theorem more_flow {v0 v1 v2 v3 v4 v5 v6 v14 v15 v16 v17 v18 v19 v20 v21 v22 v23 v24 v25 v26 v35 v36 v37 v38 v39 v40 v41 v42 v43 v44 v45 v46 v47 v48 v50 v51 v52 v53 v54 v55 v56 v57 v58 v59 v60 v61 v62 v63 v64 v65 v66 v67 v68 v69 v70 v71 v72 v73 v74 v75 v76 v77 v78 v79 v80 v81 v82 v83 v84 v85 v86 v87 v88 v89 v90 v91 v92 v93 v94 v95 v96 v97 v98 v99 v100 v101 v102:Value} (B Bo:Nat) (bj fl1 fl2:Int) (Y:World) (oc:Array Value) (z1 z2:Value) (q1:Y.cell? ⟨B,9,none⟩=some (num fl1)) (q2:Y.cell? ⟨B,10,none⟩=some (num fl2)) (q3:Y.cell? ⟨B+1,0,none⟩=some (.int .u16 bj)) (hO:Y.heap[Bo]?=some (.cells oc 31 (0,0))) (hz1:oc[9]?=some z1) (hz2:oc[10]?=some z2) (hb:0≤bj∧bj≤65535∧0≤fl1∧fl1≤100000∧0≤fl2∧fl2≤100000) :
  mo10.wpIn (FG 17) 0 Tryd.prog (fun e ac w'=>e=.normal∧ac.defers=[]∧ac.tmps=#[v0,v1,v2,v3,v4,v5,v6,.pointer (some ⟨B,0,none⟩),undef,undef,undef,undef,.pointer (some ⟨B+1,0,none⟩),undef,v14,v15,v16,v17,v18,v19,v20,v21,v22,v23,v24,v25,v26,.pointer (some ⟨Bo,0,none⟩),undef,undef,undef,undef,undef,undef,undef,v35,v36,v37,v38,v39,v40,v41,v42,v43,v44,v45,v46,v47,v48,undef,v50,v51,v52,v53,v54,v55,v56,v57,v58,v59,v60,v61,v62,v63,v64,v65,v66,v67,v68,v69,v70,v71,v72,v73,v74,v75,v76,v77,v78,v79,v80,v81,v82,v83,v84,v85,v86,v87,v88,v89,v90,v91,v92,v93,v94,v95,v96,v97,v98,v99,v100,v101,v102,.pointer (some ⟨B,9,none⟩),.pointer (some ⟨B,9,none⟩),num fl1,.pointer (some ⟨B+1,0,none⟩),.int .u16 bj,num bj,num (fl1+bj),num (min 100000 (fl1+bj)),.pointer (some ⟨B,9,none⟩),.pointer (some ⟨B,10,none⟩),num fl2,.pointer (some ⟨B+1,0,none⟩),.int .u16 bj,num bj,num (fl2+bj),num (min 100000 (fl2+bj)),.agg #[num (min 100000 (fl1+bj)),num (min 100000 (fl2+bj))],.pointer (some ⟨Bo,9,none⟩),undef,undef,undef,undef,undef,undef,undef,undef,undef,undef,undef,undef,undef,undef,undef,undef,undef,undef,undef,undef,undef,undef,undef,undef,undef,undef,undef,undef,undef,undef,undef,undef,undef,undef,undef,undef,undef,undef,undef,undef,undef,undef,undef,undef,undef,undef,undef,undef,undef,undef,undef,undef,undef,undef,undef,undef,undef,undef,undef,undef,undef,undef,undef,undef,undef,undef,undef,undef,undef,undef,undef,undef,undef,undef,undef,undef,undef,undef,undef,undef,undef,undef,undef,undef,undef,undef,undef,undef,undef,undef,undef,undef,undef,undef,undef,undef,undef,undef,undef,undef,undef,undef]∧Y.heap.size≤w'.heap.size∧(∀ k,k<Y.heap.size→k≠Bo→w'.heap[k]?=Y.heap[k]?)∧w'.heap[Bo]?=some (.cells ((oc.setIfInBounds 9 (num (min 100000 (fl1+bj)))).setIfInBounds 10 (num (min 100000 (fl2+bj)))) 31 (0,0))) ⟨#[v0,v1,v2,v3,v4,v5,v6,.pointer (some ⟨B,0,none⟩),undef,undef,undef,undef,.pointer (some ⟨B+1,0,none⟩),undef,v14,v15,v16,v17,v18,v19,v20,v21,v22,v23,v24,v25,v26,.pointer (some ⟨Bo,0,none⟩),undef,undef,undef,undef,undef,undef,undef,v35,v36,v37,v38,v39,v40,v41,v42,v43,v44,v45,v46,v47,v48,undef,v50,v51,v52,v53,v54,v55,v56,v57,v58,v59,v60,v61,v62,v63,v64,v65,v66,v67,v68,v69,v70,v71,v72,v73,v74,v75,v76,v77,v78,v79,v80,v81,v82,v83,v84,v85,v86,v87,v88,v89,v90,v91,v92,v93,v94,v95,v96,v97,v98,v99,v100,v101,v102,undef,undef,undef,undef,undef,undef,undef,undef,undef,undef,undef,undef,undef,undef,undef,undef,undef,undef,undef,undef,undef,undef,undef,undef,undef,undef,undef,undef,undef,undef,undef,undef,undef,undef,undef,undef,undef,undef,undef,undef,undef,undef,undef,undef,undef,undef,undef,undef,undef,undef,undef,undef,undef,undef,undef,undef,undef,undef,undef,undef,undef,undef,undef,undef,undef,undef,undef,undef,undef,undef,undef,undef,undef,undef,undef,undef,undef,undef,undef,undef,undef,undef,undef,undef,undef,undef,undef,undef,undef,undef,undef,undef,undef,undef,undef,undef,undef,undef,undef,undef,undef,undef,undef,undef,undef,undef,undef,undef,undef,undef,undef,undef,undef,undef,undef,undef,undef,undef,undef,undef],[]⟩ Y:=by
 have m1:=minK_run (fl1+bj) Y
 have m2:=minK_run (fl2+bj) Y
 have k35:=fun x y=>toFG 17 (m:=0) (span_any x y Y)
 have hol:=lt_of_some hO
 have HO:=Lib.hid hO
 have Z1:=Lib.hid hz1
 have Z2:=Lib.hid hz2
 clear hO hz1 hz2
 simp only [mo10,mop15,mop14,mop13,mop12,mop11,mop10,mop9,mop8,mop7,mop6,mop5,mop4,mop3,mop2,mop1,lawB17,seqL,seqR,Tryd.f17]
 gi_wp2_with (first
  | (gi_at_call 35;refine CallsIn.mono (k35 _ _) ?_;rintro e w5 ⟨rfl,x5⟩;have hO5:=(x5.block Bo hol).trans HO.out;have f0:w5.frozen? ⟨Bo,9,none⟩=false:=frozen_of_row _ _ _ _ _ hO5;have f1:w5.frozen? ⟨Bo,10,none⟩=false:=frozen_of_row _ _ _ _ _ hO5;have e0:w5.cell? ⟨Bo,9,none⟩=some z1:=(by unfold World.cell?;dsimp only;rw [hO5];exact Z1.out);have e1:w5.cell? ⟨Bo,10,none⟩=some z2:=(by unfold World.cell?;dsimp only;rw [hO5];exact Z2.out);have HO5:=Lib.hid hO5;clear hO5 k35)
  | gi_in)
 refine⟨by have:=x5.size;simpa using this,fun k hk hkb=>?_,?_⟩
 ·rw [heap_setCell_other _ _ _ _ (by exact hkb),heap_setCell_other _ _ _ _ (by exact hkb)]
  exact x5.block k hk
 ·unfold World.setCell
  simp [Array.getElem?_modify,HO5.out]
theorem more_loss {v0 v1 v2 v3 v4 v5 v6 v14 v15 v16 v17 v18 v19 v20 v21 v22 v23 v24 v25 v26 v35 v36 v37 v38 v39 v40 v41 v42 v43 v44 v45 v46 v47 v48 v50 v51 v52 v53 v54 v55 v56 v57 v58 v59 v60 v61 v62 v63 v64 v65 v66 v67 v68 v69 v70 v71 v72 v73 v74 v75 v76 v77 v78 v79 v80 v81 v82 v83 v84 v85 v86 v87 v88 v89 v90 v91 v92 v93 v94 v95 v96 v97 v98 v99 v100 v101 v102 v103 v104 v105 v106 v107 v108 v109 v110 v111 v112 v113 v114 v115 v116 v117 v118 v119 v120:Value} (B Bo:Nat) (bj ls1 ls2:Int) (Y:World) (oc:Array Value) (z1 z2:Value) (q1:Y.cell? ⟨B,11,none⟩=some (num ls1)) (q2:Y.cell? ⟨B,12,none⟩=some (num ls2)) (q3:Y.cell? ⟨B+1,1,none⟩=some (.int .u16 bj)) (hO:Y.heap[Bo]?=some (.cells oc 31 (0,0))) (hz1:oc[11]?=some z1) (hz2:oc[12]?=some z2) (hb:0≤bj∧bj≤65535∧0≤ls1∧ls1≤100000∧0≤ls2∧ls2≤100000) :
  mo11.wpIn (FG 17) 0 Tryd.prog (fun e ac w'=>e=.normal∧ac.defers=[]∧ac.tmps=#[v0,v1,v2,v3,v4,v5,v6,.pointer (some ⟨B,0,none⟩),undef,undef,undef,undef,.pointer (some ⟨B+1,0,none⟩),undef,v14,v15,v16,v17,v18,v19,v20,v21,v22,v23,v24,v25,v26,.pointer (some ⟨Bo,0,none⟩),undef,undef,undef,undef,undef,undef,undef,v35,v36,v37,v38,v39,v40,v41,v42,v43,v44,v45,v46,v47,v48,undef,v50,v51,v52,v53,v54,v55,v56,v57,v58,v59,v60,v61,v62,v63,v64,v65,v66,v67,v68,v69,v70,v71,v72,v73,v74,v75,v76,v77,v78,v79,v80,v81,v82,v83,v84,v85,v86,v87,v88,v89,v90,v91,v92,v93,v94,v95,v96,v97,v98,v99,v100,v101,v102,v103,v104,v105,v106,v107,v108,v109,v110,v111,v112,v113,v114,v115,v116,v117,v118,v119,v120,.pointer (some ⟨B,11,none⟩),.pointer (some ⟨B,11,none⟩),num ls1,.pointer (some ⟨B+1,1,none⟩),.int .u16 bj,num bj,num (ls1-bj),num (max 0 (ls1-bj)),.pointer (some ⟨B,11,none⟩),.pointer (some ⟨B,12,none⟩),num ls2,.pointer (some ⟨B+1,1,none⟩),.int .u16 bj,num bj,num (ls2-bj),num (max 0 (ls2-bj)),.agg #[num (max 0 (ls1-bj)),num (max 0 (ls2-bj))],.pointer (some ⟨Bo,11,none⟩),undef,undef,undef,undef,undef,undef,undef,undef,undef,undef,undef,undef,undef,undef,undef,undef,undef,undef,undef,undef,undef,undef,undef,undef,undef,undef,undef,undef,undef,undef,undef,undef,undef,undef,undef,undef,undef,undef,undef,undef,undef,undef,undef,undef,undef,undef,undef,undef,undef,undef,undef,undef,undef,undef,undef,undef,undef,undef,undef,undef,undef,undef,undef,undef,undef,undef,undef,undef,undef,undef,undef,undef,undef,undef,undef,undef,undef,undef,undef,undef,undef,undef,undef,undef]∧Y.heap.size≤w'.heap.size∧(∀ k,k<Y.heap.size→k≠Bo→w'.heap[k]?=Y.heap[k]?)∧w'.heap[Bo]?=some (.cells ((oc.setIfInBounds 11 (num (max 0 (ls1-bj)))).setIfInBounds 12 (num (max 0 (ls2-bj)))) 31 (0,0))) ⟨#[v0,v1,v2,v3,v4,v5,v6,.pointer (some ⟨B,0,none⟩),undef,undef,undef,undef,.pointer (some ⟨B+1,0,none⟩),undef,v14,v15,v16,v17,v18,v19,v20,v21,v22,v23,v24,v25,v26,.pointer (some ⟨Bo,0,none⟩),undef,undef,undef,undef,undef,undef,undef,v35,v36,v37,v38,v39,v40,v41,v42,v43,v44,v45,v46,v47,v48,undef,v50,v51,v52,v53,v54,v55,v56,v57,v58,v59,v60,v61,v62,v63,v64,v65,v66,v67,v68,v69,v70,v71,v72,v73,v74,v75,v76,v77,v78,v79,v80,v81,v82,v83,v84,v85,v86,v87,v88,v89,v90,v91,v92,v93,v94,v95,v96,v97,v98,v99,v100,v101,v102,v103,v104,v105,v106,v107,v108,v109,v110,v111,v112,v113,v114,v115,v116,v117,v118,v119,v120,undef,undef,undef,undef,undef,undef,undef,undef,undef,undef,undef,undef,undef,undef,undef,undef,undef,undef,undef,undef,undef,undef,undef,undef,undef,undef,undef,undef,undef,undef,undef,undef,undef,undef,undef,undef,undef,undef,undef,undef,undef,undef,undef,undef,undef,undef,undef,undef,undef,undef,undef,undef,undef,undef,undef,undef,undef,undef,undef,undef,undef,undef,undef,undef,undef,undef,undef,undef,undef,undef,undef,undef,undef,undef,undef,undef,undef,undef,undef,undef,undef,undef,undef,undef,undef,undef,undef,undef,undef,undef,undef,undef,undef,undef,undef,undef,undef,undef,undef,undef,undef,undef],[]⟩ Y:=by
 have m1:=maxK_run (ls1-bj) Y
 have m2:=maxK_run (ls2-bj) Y
 have k35:=fun x y=>toFG 17 (m:=0) (span_any x y Y)
 have hol:=lt_of_some hO
 have HO:=Lib.hid hO
 have Z1:=Lib.hid hz1
 have Z2:=Lib.hid hz2
 clear hO hz1 hz2
 simp only [mo11,mop15,mop14,mop13,mop12,mop11,mop10,mop9,mop8,mop7,mop6,mop5,mop4,mop3,mop2,mop1,lawB17,seqL,seqR,Tryd.f17]
 gi_wp2_with (first
  | (gi_at_call 35;refine CallsIn.mono (k35 _ _) ?_;rintro e w5 ⟨rfl,x5⟩;have hO5:=(x5.block Bo hol).trans HO.out;have f0:w5.frozen? ⟨Bo,11,none⟩=false:=frozen_of_row _ _ _ _ _ hO5;have f1:w5.frozen? ⟨Bo,12,none⟩=false:=frozen_of_row _ _ _ _ _ hO5;have e0:w5.cell? ⟨Bo,11,none⟩=some z1:=(by unfold World.cell?;dsimp only;rw [hO5];exact Z1.out);have e1:w5.cell? ⟨Bo,12,none⟩=some z2:=(by unfold World.cell?;dsimp only;rw [hO5];exact Z2.out);have HO5:=Lib.hid hO5;clear hO5 k35)
  | gi_in)
 refine⟨by have:=x5.size;simpa using this,fun k hk hkb=>?_,?_⟩
 ·rw [heap_setCell_other _ _ _ _ (by exact hkb),heap_setCell_other _ _ _ _ (by exact hkb)]
  exact x5.block k hk
 ·unfold World.setCell
  simp [Array.getElem?_modify,HO5.out]
end Go.Proofs.YtolholkjeehamaaDoor

namespace Go.Proofs.YtolholkjeehamaaDoor
def Plot.ease (z:Int) (p:Plot):Plot:={ p with low:=max 0 (p.low-z),high:=max 0 (p.high-z) }
theorem ceil_le {h l h' l' : Int} (hl:1≤l) (hll:l≤l') (h0:0≤h') (hhh:h'≤h):(h' + l' - 1).tdiv l'≤(h+l-1).tdiv l:=by
 rw [Int.tdiv_eq_ediv_of_nonneg (by omega),Int.tdiv_eq_ediv_of_nonneg (by omega)]
 have h1:h+l-1<((h+l-1) / l+1) * l:=Int.lt_ediv_add_one_mul_self _ (by omega)
 generalize (h+l-1) / l=c at *
 have hc0:0≤c:=by
  by_cases h2:0≤c
  ·exact h2
  ·have:(c+1) * l≤0:=Int.mul_nonpos_of_nonpos_of_nonneg (by omega) (by omega)
   omega
 have h2:c * l≤c * l':=Int.mul_le_mul_of_nonneg_left hll hc0
 rw [Int.add_mul,Int.one_mul] at h1
 have h3:h' + l' - 1<(c+1) * l':=by rw [Int.add_mul,Int.one_mul];omega
 have:=Int.ediv_lt_of_lt_mul (by omega) h3
 omega
section
variable {d o:Dit} {x y z:Int}
theorem wet_ok (hc:checkS d=0) (hx:0≤x) (hy:0≤y) (hz:0≤z)
  (ho:o=d.wet (min 100000 (d.flow.1+x),min 100000 (d.flow.2+x)) (max 0 (d.loss.1-y),max 0 (d.loss.2-y)) (d.plots.map (Plot.ease z))):checkS o=0:=by
 have hO:=ok_of_check hc
 have hfl:=hO.flow
 have hls:=hO.loss
 subst ho
 refine check_wet hc (ground_zero ?_ ?_ (by show (d.plots.map _).length≤8;rw [List.length_map];exact hO.p8) ?_)
 ·show 0≤min 100000 (d.flow.1+x)∧min 100000 (d.flow.1+x)≤min 100000 (d.flow.2+x)∧min 100000 (d.flow.2+x)≤100000;omega
 ·show 0≤max 0 (d.loss.1-y)∧max 0 (d.loss.1-y)≤max 0 (d.loss.2-y)∧max 0 (d.loss.2-y)≤1000;omega
 ·show ∀ (i:Nat) (p:Plot),(d.plots.map (Plot.ease z))[i]?=some p→_
  intro i p hp
  rw [List.getElem?_map] at hp
  cases hq:d.plots[i]? with
  | none=>rw [hq] at hp;cases hp
  | some q =>
   rw [hq] at hp
   obtain rfl:=Option.some.inj hp
   obtain⟨g1,g2,g3,g4,g5,g6⟩:=hO.pl i q hq
   refine⟨g1,fun j u hj hu=>?_,g3,g4,?_,g6⟩
   ·have hu:(d.plots.map (Plot.ease z))[j]?=some u:=hu
    rw [List.getElem?_map] at hu
    cases hv:d.plots[j]? with
    | none=>rw [hv] at hu;cases hu
    | some v =>
     rw [hv] at hu
     obtain rfl:=Option.some.inj hu
     exact g2 j v hj hv
   ·show 0≤max 0 (q.low-z)∧max 0 (q.low-z)≤max 0 (q.high-z)∧max 0 (q.high-z)≤999999999;omega
theorem gets_more (hc:checkS d=0) (hx:0≤x) (hy:0≤y)
  (ho:o=d.wet (min 100000 (d.flow.1+x),min 100000 (d.flow.2+x)) (max 0 (d.loss.1-y),max 0 (d.loss.2-y)) (d.plots.map (Plot.ease z))) (p:Plot):(d.gets p).1≤(o.gets (p.ease z)).1:=by
 have hO:=ok_of_check hc
 have hfl:=hO.flow
 have hls:=hO.loss
 subst ho
 exact behind_mono (by show 0≤max 0 (d.loss.2-y)∧max 0 (d.loss.2-y)≤d.loss.2∧d.loss.2≤1000;omega) _ _ _ (by show 0≤d.flow.1∧d.flow.1≤min 100000 (d.flow.1+x)∧min 100000 (d.flow.1+x)≤100000;omega)
theorem needs_more (hc:checkS d=0) (hx:0≤x) (hy:0≤y) (hz:0≤z)
  (ho:o=d.wet (min 100000 (d.flow.1+x),min 100000 (d.flow.2+x)) (max 0 (d.loss.1-y),max 0 (d.loss.2-y)) (d.plots.map (Plot.ease z))) (p:Plot) (hp:0≤p.high) (hn:(d.needs p).2=true) :
  (o.needs (p.ease z)).2=true∧(o.needs (p.ease z)).1≤(d.needs p).1:=by
 have h1:=gets_more hc hx hy ho p
 have h2:=gets_bd (ok_of_check hc) (p:=p)
 unfold Dit.needs at hn ⊢
 have e:(p.ease z).high=max 0 (p.high-z):=rfl
 by_cases hh:p.high=0
 ·rw [if_pos hh,if_pos (by rw [e];omega)]
  exact⟨rfl,Int.le_refl _⟩
 ·rw [if_neg hh] at hn ⊢
  by_cases hg:(d.gets p).1=0
  ·rw [if_pos hg] at hn;cases hn
  ·rw [if_neg hg]
   by_cases hh2:(p.ease z).high=0
   ·rw [if_pos hh2]
    exact⟨rfl,by dsimp only;exact Int.tdiv_nonneg (by omega) (by omega)⟩
   ·rw [if_neg hh2,if_neg (by omega)]
    exact⟨rfl,ceil_le (by omega) h1 (by rw [e];omega) (by rw [e];omega)⟩
theorem ch_more (hc:checkS d=0) (hx:0≤x) (hy:0≤y) (hz:0≤z)
  (ho:o=d.wet (min 100000 (d.flow.1+x),min 100000 (d.flow.2+x)) (max 0 (d.loss.1-y),max 0 (d.loss.2-y)) (d.plots.map (Plot.ease z))) (holder:Int) :
  ∀ (l:List Int) (q h h' w:Int) t,h'≤h→chSt d holder l (q,h,w)=some t→∃ t',chSt o holder l (q,h',w)=some t'∧t'.2.1≤t.2.1∧t'.2.2=t.2.2
 | [],q,h,h',w,t,hh,ht=>by cases ht;exact⟨_,rfl,hh,rfl⟩
 | k :: l,q,h,h',w,t,hh,ht=>by
  simp only [chSt] at ht ⊢
  cases hp:d.plotAt k with
  | none=>rw [hp] at ht;cases ht
  | some p =>
   have hp2:o.plotAt k=some (p.ease z):=by
    obtain⟨k0,_,k2⟩:=plotAt_lt hp
    subst ho
    unfold Dit.plotAt
    rw [if_pos k0]
    show (d.plots.map (Plot.ease z))[k.toNat]?=_
    rw [List.getElem?_map,k2]
    rfl
   rw [hp] at ht
   rw [hp2]
   dsimp only at ht ⊢
   split at ht
   ·rename_i g
    have hpl:=(ok_of_check hc).pl _ p (plotAt_lt hp).2.2
    obtain⟨n1,n2⟩:=needs_more hc hx hy hz ho p (by omega) g.2.2
    rw [if_pos ⟨g.1,g.2.1,n1⟩]
    exact ch_more hc hx hy hz ho holder l _ _ _ _ t (by omega) ht
   ·cases ht
theorem bnd_more (hc:checkS d=0) (hx:0≤x) (hy:0≤y) (hz:0≤z)
  (ho:o=d.wet (min 100000 (d.flow.1+x),min 100000 (d.flow.2+x)) (max 0 (d.loss.1-y),max 0 (d.loss.2-y)) (d.plots.map (Plot.ease z))) (holder price:Int) (hp0:0≤price) :
  ∀ ps:List Plot,(∀ p∈ps,0≤p.high)→bndL d holder price ps≤bndL o holder price (ps.map (Plot.ease z))
 | [],_=>Int.le_refl _
 | p :: ps,h=>by
  have ih:=bnd_more hc hx hy hz ho holder price hp0 ps fun p hp=>h p (List.mem_cons_of_mem _ hp)
  have h1:bnd1 d holder price p≤bnd1 o holder price (p.ease z):=by
   unfold bnd1
   by_cases g:((d.needs p).2 && decide (p.holder=holder))=true
   ·rw [if_pos g]
    rw [Bool.and_eq_true,decide_eq_true_eq] at g
    obtain⟨n1,n2⟩:=needs_more hc hx hy hz ho p (h p (List.mem_cons_self ..)) g.1
    rw [if_pos (by rw [n1,decide_eq_true (show (p.ease z).holder=holder from g.2)];rfl)]
    have:=Int.mul_le_mul_of_nonneg_left n2 hp0
    have e:(p.ease z).worth=p.worth:=rfl
    rw [e]
    omega
   ·rw [if_neg g]
    split<;>omega
  show bnd1 d holder price p+bndL d holder price ps≤bnd1 o holder price (p.ease z)+bndL o holder price (ps.map (Plot.ease z))
  omega
theorem more_law (hc:checkS d=0) (hx:0≤x) (hy:0≤y) (hz:0≤z)
  (ho:o=d.wet (min 100000 (d.flow.1+x),min 100000 (d.flow.2+x)) (max 0 (d.loss.1-y),max 0 (d.loss.2-y)) (d.plots.map (Plot.ease z)))
  {holder a b c price:Int} (hk:0≤holder∧holder<d.holders.length) (ha:0≤a) (hab:a≤b) (hbc:b≤c) (hcm:c≤999999999) (hp:0≤price∧price≤10000) :
  checkS o=0∧(waterF d holder a b).2.2=0∧(waterF o holder a c).2.2=0∧(waterF d holder a b).2.1≤(waterF o holder a c).2.1∧(boundF d holder a b price).2=0∧(boundF o holder a c price).2=0∧(boundF d holder a b price).1≤(boundF o holder a c price).1:=by
 have hO:=ok_of_check hc
 have ho1:=wet_ok hc hx hy hz ho
 have hO1:=ok_of_check ho1
 have hh:∀ a b,o.hoursW holder a b=d.hoursW holder a b:=fun a b=>by rw [ho];rfl
 have hl:o.holders=d.holders:=by rw [ho];rfl
 have hpl:o.plots=d.plots.map (Plot.ease z):=by rw [ho];rfl
 have k1:askS d holder a b=0:=by
  unfold askS stretchS
  rw [if_neg (by simp [hc]),if_neg (by simp only [Decidable.not_not];omega),if_neg (by omega),if_neg (by omega)]
 have k2:askS o holder a c=0:=by
  unfold askS stretchS
  rw [if_neg (by simp [ho1]),hl,if_neg (by simp only [Decidable.not_not];omega),if_neg (by omega),if_neg (by omega)]
 have hm:d.hoursW holder a b≤d.hoursW holder a c:=hO.hours_mono holder a (by omega) hbc
 have h0:0≤d.hoursW holder a b:=by have:=hO.hours_mono holder a ha hab;rw [hours_self] at this;exact this
 have e1:waterF d holder a b=((d.best holder a b).plots,(d.best holder a b).worth,0):=by unfold waterF;rw [if_neg (by simp [k1])]
 have e2:waterF o holder a c=((o.best holder a c).plots,(o.best holder a c).worth,0):=by unfold waterF;rw [if_neg (by simp [k2])]
 have e3:boundF d holder a b price=(bndS d holder price d.plots (price * d.hoursW holder a b),0):=by unfold boundF;rw [if_neg (by simp [k1]),if_pos hp]
 have e4:boundF o holder a c price=(bndS o holder price o.plots (price * o.hoursW holder a c),0):=by unfold boundF;rw [if_neg (by simp [k2]),if_pos hp]
 rw [e1,e2,e3,e4]
 refine⟨ho1,rfl,rfl,?_,rfl,rfl,?_⟩
 ·show (d.best holder a b).worth≤(o.best holder a c).worth
  unfold Dit.best
  rw [hh]
  obtain⟨q,b1,b2,_⟩:=best_law hO holder (d.hoursW holder a b) h0
  obtain⟨q',c1,c2,c3⟩:=best_law hO1 holder (d.hoursW holder a c) (by omega)
  obtain⟨t',t1,t2,t3⟩:=ch_more hc hx hy hz ho holder _ _ _ 0 _ _ (Int.le_refl _) b1
  have:=c3 _ t' t1 (by dsimp only at t2;omega)
  unfold leC at this
  dsimp only at t2 t3 this
  omega
 ·show bndS d holder price d.plots (price * d.hoursW holder a b)≤bndS o holder price o.plots (price * o.hoursW holder a c)
  rw [bndS_eq,bndS_eq,hh,hpl]
  have h1:=bnd_more hc hx hy hz ho holder price hp.1 d.plots fun p hp=>by
   obtain⟨i,hi⟩:=List.mem_iff_getElem?.1 hp
   have:=hO.pl i p hi
   omega
  have h2:=Int.mul_le_mul_of_nonneg_left hm hp.1
  omega
end
end Go.Proofs.YtolholkjeehamaaDoor

namespace Go.Proofs.YtolholkjeehamaaDoor
open Go.RowKit Go.Con Go.Conc
local instance:Lone:=mainL
theorem set_self {a:Array Value} {i:Nat} {v:Value} (h:a[i]?=some v):a.setIfInBounds i v=a:=by
 apply Array.ext_getElem?
 intro j
 rw [Array.getElem?_setIfInBounds]
 by_cases hij:i=j
 ·subst hij
  have:=(Array.getElem?_eq_some_iff.1 h).1
  rw [if_pos rfl,if_pos this,h]
 ·rw [if_neg hij]
theorem more_loop {v0 v1 v2 v3 v4 v5 v6 v14 v15 v16 v17 v18 v19 v20 v21 v22 v23 v24 v25 v26 v35 v36 v37 v38 v39 v40 v41 v42 v43 v44 v45 v46 v47 v48 v50 v51 v52 v53 v54 v55 v56 v57 v58 v59 v60 v61 v62 v63 v64 v65 v66 v67 v68 v69 v70 v71 v72 v73 v74 v75 v76 v77 v78 v79 v80 v81 v82 v83 v84 v85 v86 v87 v88 v89 v90 v91 v92 v93 v94 v95 v96 v97 v98 v99 v100 v101 v102 v103 v104 v105 v106 v107 v108 v109 v110 v111 v112 v113 v114 v115 v116 v117 v118 v119 v120 v121 v122 v123 v124 v125 v126 v127 v128 v129 v130 v131 v132 v133 v134 v135 v136 v137 v138 v139:Value} (d:Dit) (r:Rows6) (B Bo:Nat) (bj:Int) (W Y:World) (oc:Array Value) (hd:DitSl W d r) (oWY:Old W Y) (hWBo:W.heap.size≤Bo) (hO:d.Ok) (hb:0≤bj∧bj≤65535) (cB:∀ i v,(d.cellsA r)[i]?=some v→Y.cell? ⟨B,i,none⟩=some v) (q3:Y.cell? ⟨B+1,2,none⟩=some (.int .u16 bj)) (hBB:B+1<Bo) (hoc:Y.heap[Bo]?=some (.cells oc 31 (0,0))) (hsz:oc.size=14) (hz:oc[13]?=some (.slice none 0 0)) :
  mo13.wpIn (FG 17) 0 Tryd.prog (fun e ac w'=>e=.normal∧ac.defers=[]∧(∃ v28 v29 v140 v141 v142 v143 v144 v145 v146 v147 v148 v149 v150 v151 v152 v153 v154 v155 v156 v157 v158 v159 v160 v161 v162 v163 v164 v165 v166 v167 v168 v169 v170 v171 v172 v173 v174 v175:Value,ac.tmps=#[v0,v1,v2,v3,v4,v5,v6,.pointer (some ⟨B,0,none⟩),undef,undef,undef,undef,.pointer (some ⟨B+1,0,none⟩),undef,v14,v15,v16,v17,v18,v19,v20,v21,v22,v23,v24,v25,v26,.pointer (some ⟨Bo,0,none⟩),v28,v29,undef,undef,undef,undef,undef,v35,v36,v37,v38,v39,v40,v41,v42,v43,v44,v45,v46,v47,v48,undef,v50,v51,v52,v53,v54,v55,v56,v57,v58,v59,v60,v61,v62,v63,v64,v65,v66,v67,v68,v69,v70,v71,v72,v73,v74,v75,v76,v77,v78,v79,v80,v81,v82,v83,v84,v85,v86,v87,v88,v89,v90,v91,v92,v93,v94,v95,v96,v97,v98,v99,v100,v101,v102,v103,v104,v105,v106,v107,v108,v109,v110,v111,v112,v113,v114,v115,v116,v117,v118,v119,v120,v121,v122,v123,v124,v125,v126,v127,v128,v129,v130,v131,v132,v133,v134,v135,v136,v137,v138,v139,v140,v141,v142,v143,v144,v145,v146,v147,v148,v149,v150,v151,v152,v153,v154,v155,v156,v157,v158,v159,v160,v161,v162,v163,v164,v165,v166,v167,v168,v169,v170,v171,v172,v173,v174,v175,undef,undef,undef,undef,undef,undef,undef,undef,undef,undef,undef,undef,undef,undef,undef,undef,undef,undef,undef,undef,undef,undef,undef,undef,undef,undef,undef,undef,undef,undef,undef,undef,undef,undef,undef,undef,undef,undef,undef,undef,undef,undef,undef,undef,undef,undef,undef])∧Y.heap.size≤w'.heap.size∧(∀ k,k<Y.heap.size→k≠Bo→w'.heap[k]?=Y.heap[k]?)∧∃ v',w'.heap[Bo]?=some (.cells (oc.setIfInBounds 13 v') 31 (0,0))∧w'.ownsRow Y.heap.size 91 6 v' d.plots.length ((d.plots.map (Plot.ease bj)).map Plot.cells).flatten) ⟨#[v0,v1,v2,v3,v4,v5,v6,.pointer (some ⟨B,0,none⟩),undef,undef,undef,undef,.pointer (some ⟨B+1,0,none⟩),undef,v14,v15,v16,v17,v18,v19,v20,v21,v22,v23,v24,v25,v26,.pointer (some ⟨Bo,0,none⟩),undef,undef,undef,undef,undef,undef,undef,v35,v36,v37,v38,v39,v40,v41,v42,v43,v44,v45,v46,v47,v48,undef,v50,v51,v52,v53,v54,v55,v56,v57,v58,v59,v60,v61,v62,v63,v64,v65,v66,v67,v68,v69,v70,v71,v72,v73,v74,v75,v76,v77,v78,v79,v80,v81,v82,v83,v84,v85,v86,v87,v88,v89,v90,v91,v92,v93,v94,v95,v96,v97,v98,v99,v100,v101,v102,v103,v104,v105,v106,v107,v108,v109,v110,v111,v112,v113,v114,v115,v116,v117,v118,v119,v120,v121,v122,v123,v124,v125,v126,v127,v128,v129,v130,v131,v132,v133,v134,v135,v136,v137,v138,v139,undef,undef,undef,undef,undef,undef,undef,undef,undef,undef,undef,undef,undef,undef,undef,undef,undef,undef,undef,undef,undef,undef,undef,undef,undef,undef,undef,undef,undef,undef,undef,undef,undef,undef,undef,undef,undef,undef,undef,undef,undef,undef,undef,undef,undef,undef,undef,undef,undef,undef,undef,undef,undef,undef,undef,undef,undef,undef,undef,undef,undef,undef,undef,undef,undef,undef,undef,undef,undef,undef,undef,undef,undef,undef,undef,undef,undef,undef,undef,undef,undef,undef,undef],[]⟩ Y:=by
 have h8:=hO.p8
 obtain⟨ap,capp,ep⟩:=hd.plots.cases
 rw [List.length_map] at ep
 have hps:=hd.plots
 rw [ep] at hps
 have hol:=lt_of_some hoc
 have c13:=Lib.hid ((cB 13 r.p rfl).trans (by rw [ep]))
 have k35:=fun x y w=>toFG 17 (m:=0) (span_any x y w)
 have HPS:=Lib.hid hps
 have HOK:=Lib.hid hO
 have HOC:=Lib.hid hoc
 have HZ:=Lib.hid hz
 have Q3:=Lib.hid q3
 clear hps ep cB hd hO hoc hz q3
 simp only [mo13,mop15,mop14,mop13,mop12,mop11,mop10,mop9,mop8,mop7,mop6,mop5,mop4,mop3,mop2,mop1,lawB17,seqL,seqR,Tryd.f17]
 gi_wp2
 gi_loopw [28] (fun i wr=>∃ (k:Nat) (v' : Value),k≤d.plots.length∧i=num k∧Y.heap.size≤wr.heap.size∧(∀ b,b<Y.heap.size→b≠Bo→wr.heap[b]?=Y.heap[b]?)∧wr.heap[Bo]?=some (.cells (oc.setIfInBounds 13 v') 31 (0,0))∧wr.ownsRow Y.heap.size 91 6 v' k (((d.plots.take k).map (Plot.ease bj)).map Plot.cells).flatten) (fun i _=>d.plots.length-(intOf i).toNat)
 case atStart=>exact⟨0,.slice none 0 0,Nat.zero_le _,rfl,Nat.le_refl _,fun _ _ _=>rfl,by rw [HOC.out];congr 2;exact (set_self HZ.out).symm,⟨by simp,.inl ⟨rfl,rfl⟩⟩⟩
 case round =>
  obtain⟨k,v',hk,rfl,hsr,hot,hor,hown⟩:=hrel
  have cel:∀ (a:Addr),a.block<Y.heap.size→a.block≠Bo→wr.cell? a=Y.cell? a:=fun a h1 h2=>cell_hp2 (hot a.block h1 h2)
  have hB1:B<Y.heap.size:=by omega
  have p13:wr.cell? ⟨B,13,none⟩=some (.slice ap d.plots.length capp):=(cel ⟨B,13,none⟩ hB1 (by show B≠Bo;omega)).trans c13.out
  have p3:wr.cell? ⟨B+1,2,none⟩=some (.int .u16 bj):=(cel ⟨B+1,2,none⟩ (by show B+1<_;omega) (by show B+1≠Bo;omega)).trans Q3.out
  have HOWN:=Lib.hid hown
  have HOT:=Lib.hid hot
  have HOR:=Lib.hid hor
  clear hown hot hor
  by_cases hlt:k<d.plots.length
  ·obtain⟨b,off,ha,hbl,hcl⟩:=HPS.out.get (by simp;omega)
   subst ha
   have hx:d.plots[k]?=some d.plots[k]:=List.getElem?_eq_getElem hlt
   generalize d.plots[k]=p at hx
   obtain⟨nm,ph,pf,pl,pg,pw⟩:=p
   have hpl:=HOK.out.pl k _ hx
   dsimp only at hpl
   have hbY:b<Y.heap.size:=Nat.lt_of_lt_of_le hbl oWY.size
   have g:=fun (i:Nat) (v:Value) (hv:(Plot.cells ⟨nm,ph,pf,pl,pg,pw⟩)[i]?=some v)=>(cel ⟨b,off+k * 6+i,none⟩ (by exact hbY) (by show b≠Bo;have:b<W.heap.size:=hbl;omega)).trans ((oWY.cell ⟨b,off+k * 6+i,none⟩ hbl).trans (hcl k i _ v (by simp [hx]) hv))
   have g0:=g 0 _ rfl;have g1:=g 1 _ rfl;have g2:=g 2 _ rfl;have g3:=g 3 _ rfl;have g4:=g 4 _ rfl;have g5:=g 5 _ rfl
   rw [Nat.add_zero] at g0
   have HX:=Lib.hid hx
   clear g hcl hx
   generalize hV:wr.alloc (.cells #[str nm,num ph,num pf,num pl,num pg,num pw] 91)=V
   have nV:Nx wr V:=by rw [← hV];exact alloc_nx (Below.refl _ _) _
   have hVg:V.heap[wr.heap.size]?=some (.cells #[str nm,num ph,num pf,num pl,num pg,num pw] 91 (0,0)):=by rw [← hV];exact heap_alloc_new wr _
   have hVs:V.heap.size=wr.heap.size+1:=by rw [← hV];simp
   gi_upto_region 17 with fail
   clear g0 g1 g2 g3 g4 g5 p13 hV
   have e3:V.cell? ⟨wr.heap.size,3,none⟩=some (num pl):=by unfold World.cell?;dsimp only;rw [hVg];rfl
   have e4:V.cell? ⟨wr.heap.size,4,none⟩=some (num pg):=by unfold World.cell?;dsimp only;rw [hVg];rfl
   have p3V:V.cell? ⟨B+1,2,none⟩=some (.int .u16 bj):=(nV.cell (p:=⟨B+1,2,none⟩) (by show B+1<_;omega)).trans p3
   have m1:=maxK_run (pl-bj) V
   have m2:=maxK_run (pg-bj) V
   have kk:=fun x y=>k35 x y V
   have HVG:=Lib.hid hVg
   have HNV:=Lib.hid nV
   clear p3 hVg nV
   gi_upto_region 18 with (first
    | (gi_at_call 35;refine CallsIn.mono (kk _ _) ?_;rintro e w5 ⟨rfl,x5⟩;have h5:=(x5.block wr.heap.size (by omega)).trans HVG.out;clear e3 e4;have f3:w5.frozen? ⟨wr.heap.size,3,none⟩=false:=frozen_of_row _ _ _ _ _ h5;have f4:w5.frozen? ⟨wr.heap.size,4,none⟩=false:=frozen_of_row _ _ _ _ _ h5;have e3:w5.cell? ⟨wr.heap.size,3,none⟩=some (num pl):=(by unfold World.cell?;dsimp only;rw [h5];rfl);have e4:w5.cell? ⟨wr.heap.size,4,none⟩=some (num pg):=(by unfold World.cell?;dsimp only;rw [h5];rfl);have H5:=Lib.hid h5;clear h5)
    | gi_in)
   generalize hU:(w5.setCell ⟨wr.heap.size,3,none⟩ (num (max 0 (pl-bj)))).setCell ⟨wr.heap.size,4,none⟩ (num (max 0 (pg-bj)))=U
   have hUo:∀ b,b≠wr.heap.size→U.heap[b]?=w5.heap[b]?:=fun b hb=>by rw [← hU,heap_setCell_other _ _ _ _ (by exact hb),heap_setCell_other _ _ _ _ (by exact hb)]
   have hUs:U.heap.size=w5.heap.size:=by rw [← hU];simp
   have hUg:U.heap[wr.heap.size]?=some (.cells #[str nm,num ph,num pf,num (max 0 (pl-bj)),num (max 0 (pg-bj)),num pw] 91 (0,0)):=by
    rw [← hU]
    unfold World.setCell
    simp [Array.getElem?_modify,H5.out]
   have hsw:wr.heap.size<w5.heap.size:=by have:=x5.size;omega
   have hUw:∀ b,b<wr.heap.size→U.heap[b]?=wr.heap[b]?:=fun b hb=>by rw [hUo b (by omega),x5.block b (by omega),HNV.out.block b hb]
   have u0:U.cell? ⟨wr.heap.size,0,none⟩=some (str nm):=by unfold World.cell?;dsimp only;rw [hUg];rfl
   have u1:U.cell? ⟨wr.heap.size,1,none⟩=some (num ph):=by unfold World.cell?;dsimp only;rw [hUg];rfl
   have u2:U.cell? ⟨wr.heap.size,2,none⟩=some (num pf):=by unfold World.cell?;dsimp only;rw [hUg];rfl
   have u3:U.cell? ⟨wr.heap.size,3,none⟩=some (num (max 0 (pl-bj))):=by unfold World.cell?;dsimp only;rw [hUg];rfl
   have u4:U.cell? ⟨wr.heap.size,4,none⟩=some (num (max 0 (pg-bj))):=by unfold World.cell?;dsimp only;rw [hUg];rfl
   have u5:U.cell? ⟨wr.heap.size,5,none⟩=some (num pw):=by unfold World.cell?;dsimp only;rw [hUg];rfl
   have hBor:Bo<wr.heap.size:=Nat.lt_of_lt_of_le hol hsr
   have hUB:U.heap[Bo]?=some (.cells (oc.setIfInBounds 13 v') 31 (0,0)):=(hUw Bo hBor).trans HOR.out
   have uB:U.cell? ⟨Bo,13,none⟩=some v':=by unfold World.cell?;dsimp only;rw [hUB];simp [hsz]
   have hownU:U.ownsRow Y.heap.size 91 6 v' k (((d.plots.take k).map (Plot.ease bj)).map Plot.cells).flatten:=by
    refine⟨HOWN.out.1,?_⟩
    rcases HOWN.out.2 with hn | ⟨gg,cap,cur,rfl,hbb,hgg,rest⟩
    ·exact .inl hn
    ·exact .inr ⟨gg,cap,cur,rfl,hbb,(hUw gg (lt_of_some hgg)).trans hgg,rest⟩
   generalize hT:U.alloc (.cells #[str nm,num ph,num pf,num (max 0 (pl-bj)),num (max 0 (pg-bj)),num pw] 91)=T
   have hTg:T.heap[U.heap.size]?=some (.cells #[str nm,num ph,num pf,num (max 0 (pl-bj)),num (max 0 (pg-bj)),num pw] 91 (0,0)):=by rw [← hT];exact heap_alloc_new U _
   have hTs:T.heap.size=U.heap.size+1:=by rw [← hT];simp
   have hTo:∀ b,b<U.heap.size→T.heap[b]?=U.heap[b]?:=fun b hb=>by rw [← hT];exact heap_alloc_old _ _ hb
   have hlen:(((d.plots.take k).map (Plot.ease bj)).map Plot.cells).length=k:=by simp;omega
   have hrow:∀ y∈((d.plots.take k).map (Plot.ease bj)).map Plot.cells,y.length=6:=by
    intro y hy
    obtain⟨q,_,rfl⟩:=List.mem_map.1 hy
    rfl
   obtain⟨v2,W2,happ,hown2,hgr2⟩:=run_more T29 Y.heap.size T v' (((d.plots.take k).map (Plot.ease bj)).map Plot.cells) hrow (by rw [hlen,← hT];exact hownU.alloc _) U.heap.size (Plot.cells (Plot.ease bj ⟨nm,ph,pf,pl,pg,pw⟩)) rfl hTg (by intro y hy;simp only [Plot.cells,List.mem_cons,List.not_mem_nil,or_false] at hy;rcases hy with rfl | rfl | rfl | rfl | rfl | rfl<;>rfl) (by rw [hlen];omega) (by rw [hlen];omega) (by omega)
   rw [hlen] at hown2
   obtain⟨g',cap',rfl,hg1,hg2,hg3,_⟩:=own_shape (by omega) hown2
   have hown0:=hownU.2
   have hvb:v'.ownBlock≠some Bo∧∀ b,v'.ownBlock=some b→Y.heap.size≤b:=by
    rcases hown0 with ⟨rfl,_⟩ | ⟨gg,cap,cur,rfl,hbb,_⟩
    ·exact⟨by simp [Value.ownBlock],fun b h=>by simp [Value.ownBlock] at h⟩
    ·exact⟨by simp [Value.ownBlock];omega,fun b h=>by simp [Value.ownBlock] at h;omega⟩
   have hW2o:∀ b,b<Y.heap.size→W2.heap[b]?=T.heap[b]?:=fun b hb=>hgr2.block b (by omega) (fun h=>by have:=hvb.2 b h.symm;omega)
   have hW2s:T.heap.size≤W2.heap.size:=hgr2.size
   have hW2B:W2.heap[Bo]?=some (.cells (oc.setIfInBounds 13 v') 31 (0,0)):=by rw [hW2o Bo hol,hTo Bo (by omega)];exact hUB
   have z13:W2.cell? ⟨Bo,13,none⟩=some v':=by unfold World.cell?;dsimp only;rw [hW2B];simp [hsz]
   have zf:W2.frozen? ⟨Bo,13,none⟩=false:=frozen_of_row _ _ _ _ _ hW2B
   have HAP:=Lib.hid hown2
   have HOB:=Lib.hid hW2B
   have HWO:=Lib.hid (fun b (hb:b<Y.heap.size) (hbo:b≠Bo)=>show W2.heap[b]?=Y.heap[b]? by rw [hW2o b hb,hTo b (by omega),hUw b (by omega),HOT.out b hb hbo])
   have hgB:g'≠Bo:=by omega
   clear hown2 hW2B hgr2 hvb hown0 hW2o hTo hTg hUo hUw hUg hUB hownU hrow hlen
   rw [hUs] at happ
   simp [go_sem] at happ
   gi_wp2
   refine⟨⟨k+1,.slice (some ⟨g',0,none⟩) (k+1) cap',hlt,by simp,?_,fun b hb hbo=>(heap_setCell_other _ _ _ _ (by exact hbo)).trans (HWO.out b hb hbo),?_,?_⟩,by simp [intOf];omega⟩
   ·simp;omega
   ·unfold World.setCell
    simp [Array.getElem?_modify,HOB.out]
   ·have e:((d.plots.take (k+1)).map (Plot.ease bj)).map Plot.cells=((d.plots.take k).map (Plot.ease bj)).map Plot.cells++[Plot.cells (Plot.ease bj ⟨nm,ph,pf,pl,pg,pw⟩)]:=by
     rw [List.take_add_one,HX.out]
     simp
    rw [e]
    refine⟨HAP.out.1,?_⟩
    rcases HAP.out.2 with ⟨h,_⟩ | ⟨gg,cc,cur,h,hbb,hgg,rest⟩
    ·cases h
    ·cases h
     exact .inr ⟨g',cap',cur,rfl,hbb,(heap_setCell_other _ _ _ _ (by exact hgB)).trans hgg,rest⟩
  ·obtain rfl:k=d.plots.length:=by omega
   have hfin:=HOWN.out
   rw [List.take_length] at hfin
   have HF:=Lib.hid hfin
   gi_wp2
   refine⟨HOT.out,v',HOR.out,?_⟩
   simpa using HF.out
end Go.Proofs.YtolholkjeehamaaDoor

namespace Go.Proofs.YtolholkjeehamaaDoor
open Go.RowKit Go.Con Go.Conc
local instance:Lone:=mainL
theorem own_kind {w:World} {base e sz n:Nat} {v:Value} {xs:List Value} (h:w.ownsRow base e sz v n xs):CapOk v∧Kind w v:=by
 rcases h.2 with ⟨rfl,_⟩ | ⟨g,cap,cur,rfl,hb,hg,hc,_⟩
 ·exact⟨fun a n c e=>by cases e;exact Nat.le_refl _,fun a n c e=>by cases e⟩
 ·exact⟨fun a n c e=>by cases e;exact hc,fun a n c e=>by cases e;exact⟨_,_,_,hg⟩⟩
def MoreR (W:World) (t:Array Value) (W2:World):Prop:=Old W W2∧∃ wv v bn m:Int,wv≤v∧bn≤m∧t.size=223∧t[24]?=some (num 0)∧t[26]?=some (num 0)∧t[32]?=some (num 0)∧t[34]?=some (num 0)∧t[31]?=some (num v)∧t[23]?=some (num wv)∧t[33]?=some (num m)∧t[25]?=some (num bn)
theorem more_tail {v0 v1 v2 v3 v4 v5 v14 v16 v17 v18 v21 v22 v35 v36 v37 v38 v39 v40 v41 v42 v43 v44 v45 v46 v47 v48 v50 v51 v52 v53 v54 v55 v56 v57 v58 v59 v60 v61 v62 v63 v64 v65 v66 v67 v68 v69 v70 v71 v72 v73 v74 v75 v76 v77 v78 v79 v80 v81 v82 v83 v84 v85 v86 v87 v88 v89 v90 v91 v92 v93 v94 v95 v96 v97 v98 v99 v100 v101:Value} (d:Dit) (r:Rows6) (k a b c pr b0 b1 b2 wv bn:Int) (B:Nat) (W w:World) (hd:DitSl W d r) (hs:d.Small) (hg:Glob W) (hck:checkS d=0) (hOw:Old W w) (hc:∀ i v,(d.cellsA r)[i]?=some v→w.cell? ⟨B,i,none⟩=some v) (hy:∀ i v,(#[.int .u16 b0,.int .u16 b1,.int .u16 b2]:Array Value)[i]?=some v→w.cell? ⟨B+1,i,none⟩=some v) (hBs:B+1<w.heap.size)
  (hk:0≤k∧k≤(d.holders.length:Int)-1) (hab:0≤a∧a≤b∧b≤c∧c≤999999999) (hpr:0≤pr∧pr≤65535) (h0:0≤b0∧b0≤65535) (h1:0≤b1∧b1≤65535) (h2:0≤b2∧b2≤65535) (hwv:wv=(waterF d k a b).2.1) (hbn:bn=(boundF d k a b (pr % 10001)).1) :
  Lones Tryd.prog (FG 17) [mo9,mo10,mo11,mo12,mo13,mo19,mo20] (MoreR W) #[v0,v1,v2,v3,v4,v5,.int .u16 pr,.pointer (some ⟨B,0,none⟩),undef,undef,undef,undef,.pointer (some ⟨B+1,0,none⟩),undef,v14,num k,v16,v17,v18,num a,num c,v21,v22,num wv,num 0,num bn,num 0,undef,undef,undef,undef,undef,undef,undef,undef,v35,v36,v37,v38,v39,v40,v41,v42,v43,v44,v45,v46,v47,v48,undef,v50,v51,v52,v53,v54,v55,v56,v57,v58,v59,v60,v61,v62,v63,v64,v65,v66,v67,v68,v69,v70,v71,v72,v73,v74,v75,v76,v77,v78,v79,v80,v81,v82,v83,v84,v85,v86,v87,v88,v89,v90,v91,v92,v93,v94,v95,v96,v97,v98,v99,v100,v101,undef,undef,undef,undef,undef,undef,undef,undef,undef,undef,undef,undef,undef,undef,undef,undef,undef,undef,undef,undef,undef,undef,undef,undef,undef,undef,undef,undef,undef,undef,undef,undef,undef,undef,undef,undef,undef,undef,undef,undef,undef,undef,undef,undef,undef,undef,undef,undef,undef,undef,undef,undef,undef,undef,undef,undef,undef,undef,undef,undef,undef,undef,undef,undef,undef,undef,undef,undef,undef,undef,undef,undef,undef,undef,undef,undef,undef,undef,undef,undef,undef,undef,undef,undef,undef,undef,undef,undef,undef,undef,undef,undef,undef,undef,undef,undef,undef,undef,undef,undef,undef,undef,undef,undef,undef,undef,undef,undef,undef,undef,undef,undef,undef,undef,undef,undef,undef,undef,undef,undef,undef] w:=by
 have HWV:=Lib.hid hwv
 have HBN:=Lib.hid hbn
 clear hwv hbn
 have hOk:=ok_of_check hck
 have hfl:=hOk.flow
 have hls:=hOk.loss
 intro τ9
 generalize hq9:({ w with tape:=τ9 }:World)=u9
 have e9:u9.heap=(w).heap:=by rw [← hq9]
 clear hq9
 have oA9:Old W u9:=hOw.trans (.same e9)
 refine wpIn_mono (more_box d r u9 B (hd.old oA9) (fun i v h=>(cell_hp2 (by rw [e9])).trans (hc i v h))) ?_
 rintro e ac w' ⟨rfl,h3,ht,rfl⟩
 refine⟨rfl,h3,?_⟩
 rw [ht]
 clear h3 ht
 intro τ10
 generalize hq10:({ u9.alloc (.cells (d.cellsA r) 31) with tape:=τ10 }:World)=u10
 have e10:u10.heap=(u9.alloc (.cells (d.cellsA r) 31)).heap:=by rw [← hq10]
 clear hq10
 have hot10:∀ b,b<w.heap.size→u10.heap[b]?=w.heap[b]?:=fun b hb=>by rw [e10,heap_alloc_old _ _ (by rw [e9];exact hb),e9]
 have hs10:u10.heap.size=w.heap.size+1:=by rw [e10];simp [e9]
 have hr10:u10.heap[u9.heap.size]?=some (.cells (d.cellsA r) 31 (0,0)):=by rw [e10];exact heap_alloc_new _ _
 rw [e9] at hr10 ⊢
 clear e10 e9 oA9
 have hWw:=hOw.size
 generalize hBo:w.heap.size=Bo at *
 refine wpIn_mono (more_flow B Bo b0 d.flow.1 d.flow.2 u10 (d.cellsA r) _ _ ((cell_hp2 (hot10 B (by omega))).trans (hc 9 _ rfl)) ((cell_hp2 (hot10 B (by omega))).trans (hc 10 _ rfl)) ((cell_hp2 (hot10 (B+1) (by omega))).trans (hy 0 _ rfl)) hr10 rfl rfl (by omega)) ?_
 rintro e ac w2 ⟨rfl,h3,ht,hs11,hot11,hr11⟩
 refine⟨rfl,h3,?_⟩
 rw [ht]
 clear h3 ht hr10
 intro τ11
 generalize hq11:({ w2 with tape:=τ11 }:World)=u11
 have e11:u11.heap=(w2).heap:=by rw [← hq11]
 clear hq11
 refine wpIn_mono (more_loss B Bo b1 d.loss.1 d.loss.2 u11 _ _ _ ((cell_hp2 (by rw [e11,hot11 B (by omega) (by omega)];exact hot10 B (by omega))).trans (hc 11 _ rfl)) ((cell_hp2 (by rw [e11,hot11 B (by omega) (by omega)];exact hot10 B (by omega))).trans (hc 12 _ rfl)) ((cell_hp2 (by rw [e11,hot11 (B+1) (by omega) (by omega)];exact hot10 (B+1) (by omega))).trans (hy 1 _ rfl)) (by rw [e11];exact hr11) rfl rfl (by omega)) ?_
 rintro e ac w3 ⟨rfl,h3,ht,hs12,hot12,hr12⟩
 refine⟨rfl,h3,?_⟩
 rw [ht]
 clear h3 ht hr11
 rw [e11] at hs12 hot12
 clear e11
 have hot3:∀ b,b<Bo→w3.heap[b]?=w.heap[b]?:=fun b hb=>by rw [hot12 b (by omega) (by omega),hot11 b (by omega) (by omega),hot10 b hb]
 have hs3:Bo+1≤w3.heap.size:=by omega
 clear hot10 hot11 hot12 hs10 hs11 hs12
 intro τ12
 generalize hq12:({ w3 with tape:=τ12 }:World)=u12
 have e12:u12.heap=(w3).heap:=by rw [← hq12]
 clear hq12
 have hr12' : u12.heap[Bo]?=some (.cells ((d.wet (min 100000 (d.flow.1+b0),min 100000 (d.flow.2+b0)) (max 0 (d.loss.1-b1),max 0 (d.loss.2-b1)) d.plots).cellsA r) 31 (0,0)):=by rw [e12];exact hr12
 have z13:u12.cell? ⟨Bo,13,none⟩=some r.p:=by unfold World.cell?;dsimp only;rw [hr12'];rfl
 have zf:u12.frozen? ⟨Bo,13,none⟩=false:=frozen_of_row _ _ _ _ _ hr12'
 have HR12:=Lib.hid hr12'
 have HOT3:=Lib.hid hot3
 have HS3:=Lib.hid hs3
 clear hr12 hr12' hot3 hs3
 simp only [mo12,mop15,mop14,mop13,mop12,mop11,mop10,mop9,mop8,mop7,mop6,mop5,mop4,mop3,mop2,mop1,lawB17,seqL,seqR,Tryd.f17]
 gi_wp2
 intro τ13
 generalize hq13:({ u12.setCell ⟨Bo,13,none⟩ (.slice none 0 0) with tape:=τ13 }:World)=u13
 have e13:u13.heap=(u12.setCell ⟨Bo,13,none⟩ (.slice none 0 0)).heap:=by rw [← hq13]
 clear hq13
 have hr13:u13.heap[Bo]?=some (.cells (((d.wet (min 100000 (d.flow.1+b0),min 100000 (d.flow.2+b0)) (max 0 (d.loss.1-b1),max 0 (d.loss.2-b1)) d.plots).cellsA r).setIfInBounds 13 (.slice none 0 0)) 31 (0,0)):=by
  rw [e13]
  unfold World.setCell
  simp [Array.getElem?_modify,HR12.out]
 have hot13:∀ b,b<Bo→u13.heap[b]?=w.heap[b]?:=fun b hb=>by rw [e13,heap_setCell_other _ _ _ _ (by show b≠Bo;omega),e12];exact HOT3.out b hb
 have hs13:Bo+1≤u13.heap.size:=by rw [e13];simpa [e12] using HS3.out
 have oA13:Old W u13:=old_then hOw (by omega) fun b hb=>hot13 b (by omega)
 clear e13 e12 HOT3 HS3 HR12
 refine wpIn_mono (more_loop d r B Bo b2 W u13 _ hd oA13 (by omega) hOk h2 (fun i v h=>(cell_hp2 (hot13 B (by omega))).trans (hc i v h)) ((cell_hp2 (hot13 (B+1) (by omega))).trans (hy 2 _ rfl)) (by omega) hr13 rfl rfl) ?_
 rintro e ac w4 ⟨rfl,h3,⟨y28,y29,y140,y141,y142,y143,y144,y145,y146,y147,y148,y149,y150,y151,y152,y153,y154,y155,y156,y157,y158,y159,y160,y161,y162,y163,y164,y165,y166,y167,y168,y169,y170,y171,y172,y173,y174,y175,ht⟩,hs4,hot4,pv,hr4,hown⟩
 refine⟨rfl,h3,?_⟩
 rw [ht]
 clear h3 ht
 intro τ19
 generalize hq19:({ w4 with tape:=τ19 }:World)=u19
 have e19:u19.heap=(w4).heap:=by rw [← hq19]
 clear hq19
 have hot19:∀ b,b<Bo→u19.heap[b]?=w.heap[b]?:=fun b hb=>by rw [e19,hot4 b (by omega) (by omega),hot13 b hb]
 have oA19:Old W u19:=old_then hOw (by rw [e19];omega) fun b hb=>hot19 b (by omega)
 have hr19:u19.heap[Bo]?=some (.cells ((d.wet (min 100000 (d.flow.1+b0),min 100000 (d.flow.2+b0)) (max 0 (d.loss.1-b1),max 0 (d.loss.2-b1)) (d.plots.map (Plot.ease b2))).cellsA { r with p:=pv }) 31 (0,0)):=by rw [e19];exact hr4
 have hown19:u19.ownsRow u13.heap.size 91 6 pv d.plots.length ((d.plots.map (Plot.ease b2)).map Plot.cells).flatten:=by
  refine⟨hown.1,?_⟩
  rcases hown.2 with hn | ⟨gg,cap,cur,rfl,hbb,hgg,rest⟩
  ·exact .inl hn
  ·exact .inr ⟨gg,cap,cur,rfl,hbb,by rw [e19];exact hgg,rest⟩
 have hss:Bo<u19.heap.size:=by rw [e19];omega
 clear hr13 hot13 hs13 oA13 hs4 hot4 hr4 hown e19
 have hd19:=hd.old oA19
 have hkk:=hd19.kinds
 simp only [List.mem_cons,List.not_mem_nil,or_false,forall_eq_or_imp,forall_eq] at hkk
 obtain⟨k1,k2,k3,k4,k5,k6⟩:=hkk
 obtain⟨hcap,hkind⟩:=own_kind hown19
 have hdo:DitSl u19 (d.wet (min 100000 (d.flow.1+b0),min 100000 (d.flow.2+b0)) (max 0 (d.loss.1-b1),max 0 (d.loss.2-b1)) (d.plots.map (Plot.ease b2))) { r with p:=pv }:=⟨hd19.holders,hd19.turns,hd19.feasts,hd19.swaps,hd19.loans,own_sl (fun y hy=>by obtain⟨q,_,rfl⟩:=List.mem_map.1 hy;rfl) (by show ((d.plots.map _).map _).length=_;simp) hown19,hd19.cap0,hcap,fun v hv=>by
  simp only [List.mem_cons,List.not_mem_nil,or_false] at hv
  rcases hv with rfl | rfl | rfl | rfl | rfl | rfl
  ·exact k1
  ·exact k2
  ·exact k3
  ·exact k4
  ·exact k5
  ·exact hkind⟩
 have hso:(d.wet (min 100000 (d.flow.1+b0),min 100000 (d.flow.2+b0)) (max 0 (d.loss.1-b1),max 0 (d.loss.2-b1)) (d.plots.map (Plot.ease b2))).Small:=⟨hs.h,hs.t,hs.f,hs.s,hs.l,by show (d.plots.map _).length≤_;rw [List.length_map];exact hs.p,hs.hn,fun x hx=>by
  have hx' : x∈d.plots.map (Plot.ease b2):=hx
  obtain⟨q,hq,rfl⟩:=List.mem_map.1 hx'
  exact hs.pn q hq⟩
 have hcq:∀ i v,((d.wet (min 100000 (d.flow.1+b0),min 100000 (d.flow.2+b0)) (max 0 (d.loss.1-b1),max 0 (d.loss.2-b1)) (d.plots.map (Plot.ease b2))).cellsA { r with p:=pv })[i]?=some v→u19.cell? ⟨Bo,i,none⟩=some v:=fun i v h=>by
  unfold World.cell?
  dsimp only
  rw [hr19]
  exact h
 have hpp:0≤pr % 10001∧pr % 10001≤10000:=by omega
 obtain⟨m1,m2,m3,m4,m5,m6,m7⟩:=more_law hck h0.1 h1.1 h2.1 rfl ⟨hk.1,by omega⟩ hab.1 hab.2.1 hab.2.2.1 hab.2.2.2 hpp
 rw [← HWV.out] at m4
 rw [← HBN.out] at m7
 have hhb:=hours_bd (ok_of_check m1) k (a:=a) (b:=c) (by omega) (by omega)
 have hgb:=hg.old oA19
 generalize (d.wet (min 100000 (d.flow.1+b0),min 100000 (d.flow.2+b0)) (max 0 (d.loss.1-b1),max 0 (d.loss.2-b1)) (d.plots.map (Plot.ease b2)))=o at *
 generalize ({ r with p:=pv }:Rows6)=ro at *
 have k49:=Lib.hid (fun u (x:Old u19 u)=>show CallsIn (FG 17) 0 Tryd.prog 49 #[o.val ro,num k,num a,num c] u fun e w'=>∃ v,e=.returned (.tuple #[v,num (waterF o k a c).2.1,num 0])∧Nx u w' by
  have:=toFG 17 (m:=0) (water_any o ro k a c u (hdo.old x) hso (hgb.old x) (by omega))
  rw [m3] at this
  exact this.mono fun e w' ⟨v,h1,h2,_⟩=>⟨v,h1,h2⟩)
 have k50:=Lib.hid (fun u (x:Old u19 u)=>show CallsIn (FG 17) 0 Tryd.prog 50 #[o.val ro,num k,num a,num c,num (pr % 10001)] u fun e w'=>e=.returned (.tuple #[num (boundF o k a c (pr % 10001)).1,num 0])∧Nx u w' by
  have:=toFG 17 (m:=0) (bound_any o ro k a c (pr % 10001) u (hdo.old x) hso (hgb.old x) (fun _=>by omega))
  rw [m6] at this
  exact this)
 have HCQ:=Lib.hid (fun u (x:Old u19 u) i v (h:(o.cellsA ro)[i]?=some v)=>(x.cell ⟨Bo,i,none⟩ hss).trans (hcq i v h))
 have M4:=Lib.hid m4
 have M7:=Lib.hid m7
 generalize (waterF o k a c).2.1=wq at k49 M4
 generalize (boundF o k a c (pr % 10001)).1=bq at k50 M7
 clear hcq hdo hso m1 m2 m3 m4 m5 m6 m7 hhb HWV HBN hr19 hown19 hcap hkind k1 k2 k3 k4 k5 k6 hd19 hfl hls hOk
 have kk:=k49.out u19 (Old.refl _)
 obtain⟨c0,c1,c2,c3,c4,c5,c6,c7,c8,c9,c10,c11,c12,c13⟩:=cells14 (HCQ.out u19 (Old.refl _))
 simp only [mo19,mop15,mop14,mop13,mop12,mop11,mop10,mop9,mop8,mop7,mop6,mop5,mop4,mop3,mop2,mop1,lawB17,seqL,seqR,Tryd.f17]
 gi_wp2_with (first
  | (gi_at_call 49;refine CallsIn.mono kk ?_;rintro e w5 ⟨qv,rfl,x5⟩)
  | gi_in)
 clear kk c0 c1 c2 c3 c4 c5 c6 c7 c8 c9 c10 c11 c12 c13
 intro τ20
 generalize hq20:({ w5 with tape:=τ20 }:World)=u20
 have o20:Old u19 u20:=(Old.nx x5).trans (by rw [← hq20];exact .same rfl)
 clear hq20
 have kk:=k50.out u20 o20
 obtain⟨c0,c1,c2,c3,c4,c5,c6,c7,c8,c9,c10,c11,c12,c13⟩:=cells14 (HCQ.out u20 o20)
 simp only [mo20,mop15,mop14,mop13,mop12,mop11,mop10,mop9,mop8,mop7,mop6,mop5,mop4,mop3,mop2,mop1,lawB17,seqL,seqR,Tryd.f17]
 gi_wp2_with (first
  | (gi_at_call 50;refine CallsIn.mono kk ?_;rintro e w6 ⟨rfl,x6⟩)
  | gi_in)
 exact⟨oA19.trans (o20.trans (.nx x6)),wv,wq,bn,bq,M4.out,M7.out,rfl,rfl,rfl,rfl,rfl,rfl,rfl,rfl,rfl⟩
end Go.Proofs.YtolholkjeehamaaDoor

namespace Go.Proofs.YtolholkjeehamaaDoor
open Go.RowKit Go.Con Go.Conc
local instance:Lone:=mainL
theorem results17 (v:Value) (t:Array Value) (h:t[14]?=some v) (σ:Rn):ResultsC Tryd.prog Tryd.f17 (t.map (ren σ)) (ren σ v):=by
 have:=resultsC_tmp (P:=Tryd.prog) (fn:=Tryd.f17) (t:=14) rfl (t.map (ren σ))
 simp only [Array.getD_eq_getD_getElem?,Array.getElem?_map,h,Option.map_some,Option.getD_some] at this
 exact this
theorem more_go (E Fz Arg:Nat→Prop) (W0:World) (hArg:∀ x,Arg x↔x<W0.heap.size) (Post:Value→World→Prop) (φ:Ph) (d:Dit) (r:Rows6) (x y z u b0 b1 b2 pr:Int) (W:World) (hd:DitSl W d r) (hb:d.Big) (hg:Glob W) (hx:0≤x∧x≤255) (hy:0≤y∧y≤4294967295) (hz:0≤z∧z≤4294967295) (hu:0≤u∧u≤4294967295) (h0:0≤b0∧b0≤65535) (h1:0≤b1∧b1≤65535) (h2:0≤b2∧b2≤65535) (hpr:0≤pr∧pr≤65535)
  (hPost:∀ Fz1 ρ D own A fr W1 W',Here Tryd.prog true E Fz1 Arg W0 ρ D own A fr [] W1 W'→Post (ren ρ (.bool true)) W') :
  GoM Tryd.prog true E Fz Arg W0 (AtEnd Tryd.prog Post) φ [] (Fr 17 #[d.val r,.int .u8 x,.int .u32 y,.int .u32 z,.int .u32 u,.agg #[.int .u16 b0,.int .u16 b1,.int .u16 b2],.int .u16 pr,undef,undef,undef,undef,undef,undef,undef,undef,undef,undef,undef,undef,undef,undef,undef,undef,undef,undef,undef,undef,undef,undef,undef,undef,undef,undef,undef,undef,undef,undef,undef,undef,undef,undef,undef,undef,undef,undef,undef,undef,undef,undef,undef,undef,undef,undef,undef,undef,undef,undef,undef,undef,undef,undef,undef,undef,undef,undef,undef,undef,undef,undef,undef,undef,undef,undef,undef,undef,undef,undef,undef,undef,undef,undef,undef,undef,undef,undef,undef,undef,undef,undef,undef,undef,undef,undef,undef,undef,undef,undef,undef,undef,undef,undef,undef,undef,undef,undef,undef,undef,undef,undef,undef,undef,undef,undef,undef,undef,undef,undef,undef,undef,undef,undef,undef,undef,undef,undef,undef,undef,undef,undef,undef,undef,undef,undef,undef,undef,undef,undef,undef,undef,undef,undef,undef,undef,undef,undef,undef,undef,undef,undef,undef,undef,undef,undef,undef,undef,undef,undef,undef,undef,undef,undef,undef,undef,undef,undef,undef,undef,undef,undef,undef,undef,undef,undef,undef,undef,undef,undef,undef,undef,undef,undef,undef,undef,undef,undef,undef,undef,undef,undef,undef,undef,undef,undef,undef,undef,undef,undef,undef,undef,undef,undef,undef,undef,undef,undef,undef,undef,undef,undef,undef,undef,undef,undef,undef,undef,undef,undef,undef,undef,undef,undef,undef,undef] [.code lawB17]) [] W:=by
 have hgood:goodFn Tryd.prog (.func 17)=false:=by kernel_rfl
 have hL:=more_lone d r x y z u b0 b1 b2 pr W hd hb hg
 rw [lawB17_eq]
 refine Gm.seq ?_
 refine Gm.lone (F:=FG 17) _ rfl rfl rfl (List.mem_cons_self ..) (FG_ok 17 hgood) (by kernel_rfl) (by kernel_rfl) hL ?_
 clear hL
 intro t0 V0 hL
 refine Gm.seq (Gm.seq ?_)
 refine Gm.lone (F:=FG 17) _ rfl rfl rfl (List.mem_cons_self ..) (FG_ok 17 hgood) (by kernel_rfl) (by kernel_rfl) hL ?_
 clear hL
 rintro t W1 ⟨hO1,hs,h48 | ⟨h48,hO2,⟨hck,hsm,hn⟩,B,v35,v36,v37,v38,v39,v40,v41,v42,v43,v44,v45,v46,v47,v48,rfl,hB,cB,cY⟩⟩
 ·refine Gm.cond (b:=true) (eval_tmp h48) rfl ?_
  refine Gm.seq ?_
  rw [mo2_eq]
  refine Gm.region ?_
  rw [show List.range opmo2.size=[0,1] by kernel_rfl]
  refine Gm.enter (o:=⟨some 49,.call { callee:=.value (.func 20),args:=#[],argTypes:=#[] },_,_,_,none⟩) (c:={ callee:=.value (.func 20),args:=#[],argTypes:=#[] }) rfl rfl rfl rfl (by kernel_rfl) Tryd.func20 body20_of (by kernel_rfl) ?_
  rw [fr20]
  refine flows_go E _ Arg W0 hArg _ _ _ _ _ (hg.old hO1) ?_
  intro WL FzL φL hOL
  rw [Fr_finish (o:=⟨some 49,.call { callee:=.value (.func 20),args:=#[],argTypes:=#[] },_,_,_,none⟩) rfl]
  refine Gm.op (o:=⟨some 14,.assign (.tmp 49),_,_,_,none⟩) (.bool true) WL rfl rfl (by kernel_rfl) rfl (asg_run _ (eval_tmp (by simp only [putD_get,putD_same,putD_size,hs,ne_eq,Nat.reduceEqDiff,not_false_eq_true,Nat.reduceLT]))) id ?_
  refine Gm.regionEnd ?_
  refine Gm.done Tryd.func17 (by kernel_rfl) (results17 (.bool true) _ (by simp only [putD_get,putD_same,putD_size,hs,ne_eq,Nat.reduceEqDiff,not_false_eq_true,Nat.reduceLT])) ?_
  exact fun ρ D own A fr W' h=>hPost _ ρ D own A fr _ W' h
 ·refine Gm.cond (b:=false) (eval_tmp h48) rfl ?_
  refine Gm.skip ?_
  clear hO1 hs h48
  have hL:=fun {v35 v36 v37 v38 v39 v40 v41 v42 v43 v44 v45 v46 v47 v48:Value}=>more_mid (v35:=v35) (v36:=v36) (v37:=v37) (v38:=v38) (v39:=v39) (v40:=v40) (v41:=v41) (v42:=v42) (v43:=v43) (v44:=v44) (v45:=v45) (v46:=v46) (v47:=v47) (v48:=v48) d r x y z u b0 b1 b2 pr B W1 (hd.old hO2) hsm (hg.old hO2) hck hn cB hB hx hy hz hu hpr
  refine Gm.seq ?_
  refine Gm.lone (F:=FG 17) _ rfl rfl rfl (List.mem_cons_self ..) (FG_ok 17 hgood) (by kernel_rfl) (by kernel_rfl) hL ?_
  clear hL
  intro t3 V3 hL
  refine Gm.seq ?_
  refine Gm.lone (F:=FG 17) _ rfl rfl rfl (List.mem_cons_self ..) (FG_ok 17 hgood) (by kernel_rfl) (by kernel_rfl) hL ?_
  clear hL
  intro t4 V4 hL
  refine Gm.seq ?_
  refine Gm.lone (F:=FG 17) _ rfl rfl rfl (List.mem_cons_self ..) (FG_ok 17 hgood) (by kernel_rfl) (by kernel_rfl) hL ?_
  clear hL
  intro t5 V5 hL
  refine Gm.seq ?_
  refine Gm.lone (F:=FG 17) _ rfl rfl rfl (List.mem_cons_self ..) (FG_ok 17 hgood) (by kernel_rfl) (by kernel_rfl) hL ?_
  clear hL
  intro t6 V6 hL
  refine Gm.seq ?_
  refine Gm.lone (F:=FG 17) _ rfl rfl rfl (List.mem_cons_self ..) (FG_ok 17 hgood) (by kernel_rfl) (by kernel_rfl) hL ?_
  clear hL
  intro t7 V7 hL
  refine Gm.seq ?_
  refine Gm.lone (F:=FG 17) _ rfl rfl rfl (List.mem_cons_self ..) (FG_ok 17 hgood) (by kernel_rfl) (by kernel_rfl) hL ?_
  clear hL
  rintro t W3 ⟨hO3,k,a,b,c,⟨hk,hab⟩,v16,v17,v18,v22,v35,v36,v37,v38,v39,v40,v41,v42,v43,v44,v45,v46,v47,v48,v50,v51,v52,v53,v54,v55,v56,v57,v58,v59,v60,v61,v62,v63,v64,v65,v66,v67,v68,v69,v70,v71,v72,v73,v74,v75,v76,v77,v78,v79,v80,v81,v82,v83,v84,v85,v86,v87,v88,v89,v90,v91,v92,v93,v94,v95,v96,v97,v98,v99,v100,v101,rfl⟩
  have hL:=fun {v0 v1 v2 v3 v4 v5 v14 v16 v17 v18 v21 v22 v35 v36 v37 v38 v39 v40 v41 v42 v43 v44 v45 v46 v47 v48 v50 v51 v52 v53 v54 v55 v56 v57 v58 v59 v60 v61 v62 v63 v64 v65 v66 v67 v68 v69 v70 v71 v72 v73 v74 v75 v76 v77 v78 v79 v80 v81 v82 v83 v84 v85 v86 v87 v88 v89 v90 v91 v92 v93 v94 v95 v96 v97 v98 v99 v100 v101:Value}=>more_tail (v0:=v0) (v1:=v1) (v2:=v2) (v3:=v3) (v4:=v4) (v5:=v5) (v14:=v14) (v16:=v16) (v17:=v17) (v18:=v18) (v21:=v21) (v22:=v22) (v35:=v35) (v36:=v36) (v37:=v37) (v38:=v38) (v39:=v39) (v40:=v40) (v41:=v41) (v42:=v42) (v43:=v43) (v44:=v44) (v45:=v45) (v46:=v46) (v47:=v47) (v48:=v48) (v50:=v50) (v51:=v51) (v52:=v52) (v53:=v53) (v54:=v54) (v55:=v55) (v56:=v56) (v57:=v57) (v58:=v58) (v59:=v59) (v60:=v60) (v61:=v61) (v62:=v62) (v63:=v63) (v64:=v64) (v65:=v65) (v66:=v66) (v67:=v67) (v68:=v68) (v69:=v69) (v70:=v70) (v71:=v71) (v72:=v72) (v73:=v73) (v74:=v74) (v75:=v75) (v76:=v76) (v77:=v77) (v78:=v78) (v79:=v79) (v80:=v80) (v81:=v81) (v82:=v82) (v83:=v83) (v84:=v84) (v85:=v85) (v86:=v86) (v87:=v87) (v88:=v88) (v89:=v89) (v90:=v90) (v91:=v91) (v92:=v92) (v93:=v93) (v94:=v94) (v95:=v95) (v96:=v96) (v97:=v97) (v98:=v98) (v99:=v99) (v100:=v100) (v101:=v101) d r k a b c pr b0 b1 b2 _ _ B W1 W3 (hd.old hO2) hsm (hg.old hO2) hck hO3 (fun i v h=>(hO3.cell ⟨B,i,none⟩ (by show B<_;omega)).trans (cB i v h)) (fun i v h=>(hO3.cell ⟨B+1,i,none⟩ hB).trans (cY i v h)) (Nat.lt_of_lt_of_le hB hO3.size) hk hab hpr h0 h1 h2 rfl rfl
  clear cB cY
  refine Gm.seq ?_
  refine Gm.lone (F:=FG 17) _ rfl rfl rfl (List.mem_cons_self ..) (FG_ok 17 hgood) (by kernel_rfl) (by kernel_rfl) hL ?_
  clear hL
  intro t9 V9 hL
  refine Gm.seq ?_
  refine Gm.lone (F:=FG 17) _ rfl rfl rfl (List.mem_cons_self ..) (FG_ok 17 hgood) (by kernel_rfl) (by kernel_rfl) hL ?_
  clear hL
  intro t10 V10 hL
  refine Gm.seq ?_
  refine Gm.lone (F:=FG 17) _ rfl rfl rfl (List.mem_cons_self ..) (FG_ok 17 hgood) (by kernel_rfl) (by kernel_rfl) hL ?_
  clear hL
  intro t11 V11 hL
  refine Gm.seq ?_
  refine Gm.lone (F:=FG 17) _ rfl rfl rfl (List.mem_cons_self ..) (FG_ok 17 hgood) (by kernel_rfl) (by kernel_rfl) hL ?_
  clear hL
  intro t12 V12 hL
  refine Gm.seq ?_
  refine Gm.lone (F:=FG 17) _ rfl rfl rfl (List.mem_cons_self ..) (FG_ok 17 hgood) (by kernel_rfl) (by kernel_rfl) hL ?_
  clear hL
  intro t13 V13 hL
  refine Gm.seq ?_
  refine Gm.lone (F:=FG 17) _ rfl rfl rfl (List.mem_cons_self ..) (FG_ok 17 hgood) (by kernel_rfl) (by kernel_rfl) hL ?_
  clear hL
  intro t19 V19 hL
  refine Gm.seq ?_
  refine Gm.lone (F:=FG 17) _ rfl rfl rfl (List.mem_cons_self ..) (FG_ok 17 hgood) (by kernel_rfl) (by kernel_rfl) hL ?_
  clear hL
  rintro t W4 ⟨hO4,wv,v,bn,m,hle1,hle2,hs,k24,k26,k32,k34,k31,k23,k33,k25⟩
  have hO14:=hO2.trans hO4
  refine Gm.seq ?_
  rw [mo21_eq]
  refine Gm.region ?_
  rw [show List.range opmo21.size=[0,1,2,3,4,5,6,7,8,9,10,11,12,13,14,15,16,17,18,19,20,21,22,23,24,25,26,27] by kernel_rfl]
  refine Gm.op (o:=⟨some 196,.move (.tmp 24),_,_,_,none⟩) (num 0) W4 rfl rfl (by kernel_rfl) rfl (mvg_run _ (eval_tmp (by simp only [putD_get,putD_same,putD_size,hs,k24,k26,k32,k34,k31,k23,k33,k25,ne_eq,Nat.reduceEqDiff,not_false_eq_true,Nat.reduceLT]))) id ?_
  refine Gm.op (o:=⟨some 197,.binOp .eql 37 (.tmp 196) (.const (.int .i64 0)) 37,_,_,_,none⟩) (.bool true) W4 rfl rfl (by kernel_rfl) rfl (eqcR37_run (n:=0) _ (eval_tmp (by simp only [putD_get,putD_same,putD_size,hs,k24,k26,k32,k34,k31,k23,k33,k25,ne_eq,Nat.reduceEqDiff,not_false_eq_true,Nat.reduceLT])) rfl) id ?_
  refine Gm.op (o:=⟨some 198,.move (.tmp 197),_,_,_,none⟩) (.bool true) W4 rfl rfl (by kernel_rfl) rfl (mvg_run _ (eval_tmp (by simp only [putD_get,putD_same,putD_size,hs,k24,k26,k32,k34,k31,k23,k33,k25,ne_eq,Nat.reduceEqDiff,not_false_eq_true,Nat.reduceLT]))) id ?_
  refine Gm.op (o:=⟨some 199,.move (.tmp 26),_,_,_,some (2,true)⟩) (num 0) W4 rfl (wanted_guard (i:=2) (b:=true) (d:=198) rfl rfl (by simp only [putD_get,putD_same,putD_size,hs,k24,k26,k32,k34,k31,k23,k33,k25,ne_eq,Nat.reduceEqDiff,not_false_eq_true,Nat.reduceLT])) (by kernel_rfl) rfl (mvg_run _ (eval_tmp (by simp only [putD_get,putD_same,putD_size,hs,k24,k26,k32,k34,k31,k23,k33,k25,ne_eq,Nat.reduceEqDiff,not_false_eq_true,Nat.reduceLT]))) id ?_
  refine Gm.op (o:=⟨some 200,.binOp .eql 37 (.tmp 199) (.const (.int .i64 0)) 37,_,_,_,some (2,true)⟩) (.bool true) W4 rfl (wanted_guard (i:=2) (b:=true) (d:=198) rfl rfl (by simp only [putD_get,putD_same,putD_size,hs,k24,k26,k32,k34,k31,k23,k33,k25,ne_eq,Nat.reduceEqDiff,not_false_eq_true,Nat.reduceLT])) (by kernel_rfl) rfl (eqcR37_run (n:=0) _ (eval_tmp (by simp only [putD_get,putD_same,putD_size,hs,k24,k26,k32,k34,k31,k23,k33,k25,ne_eq,Nat.reduceEqDiff,not_false_eq_true,Nat.reduceLT])) rfl) id ?_
  refine Gm.op (o:=⟨some 201,.pick (.tmp 198) (.tmp 200) (.const (.bool false)),_,_,_,none⟩) (.bool true) W4 rfl rfl (by kernel_rfl) rfl (pick_run _ (eval_tmp (by simp only [putD_get,putD_same,putD_size,hs,k24,k26,k32,k34,k31,k23,k33,k25,ne_eq,Nat.reduceEqDiff,not_false_eq_true,Nat.reduceLT])) (eval_tmp (by simp only [putD_get,putD_same,putD_size,hs,k24,k26,k32,k34,k31,k23,k33,k25,ne_eq,Nat.reduceEqDiff,not_false_eq_true,Nat.reduceLT]))) id ?_
  refine Gm.op (o:=⟨some 202,.move (.tmp 201),_,_,_,none⟩) (.bool true) W4 rfl rfl (by kernel_rfl) rfl (mvg_run _ (eval_tmp (by simp only [putD_get,putD_same,putD_size,hs,k24,k26,k32,k34,k31,k23,k33,k25,ne_eq,Nat.reduceEqDiff,not_false_eq_true,Nat.reduceLT]))) id ?_
  refine Gm.op (o:=⟨some 203,.move (.tmp 32),_,_,_,some (6,true)⟩) (num 0) W4 rfl (wanted_guard (i:=6) (b:=true) (d:=202) rfl rfl (by simp only [putD_get,putD_same,putD_size,hs,k24,k26,k32,k34,k31,k23,k33,k25,ne_eq,Nat.reduceEqDiff,not_false_eq_true,Nat.reduceLT])) (by kernel_rfl) rfl (mvg_run _ (eval_tmp (by simp only [putD_get,putD_same,putD_size,hs,k24,k26,k32,k34,k31,k23,k33,k25,ne_eq,Nat.reduceEqDiff,not_false_eq_true,Nat.reduceLT]))) id ?_
  refine Gm.op (o:=⟨some 204,.binOp .eql 37 (.tmp 203) (.const (.int .i64 0)) 37,_,_,_,some (6,true)⟩) (.bool true) W4 rfl (wanted_guard (i:=6) (b:=true) (d:=202) rfl rfl (by simp only [putD_get,putD_same,putD_size,hs,k24,k26,k32,k34,k31,k23,k33,k25,ne_eq,Nat.reduceEqDiff,not_false_eq_true,Nat.reduceLT])) (by kernel_rfl) rfl (eqcR37_run (n:=0) _ (eval_tmp (by simp only [putD_get,putD_same,putD_size,hs,k24,k26,k32,k34,k31,k23,k33,k25,ne_eq,Nat.reduceEqDiff,not_false_eq_true,Nat.reduceLT])) rfl) id ?_
  refine Gm.op (o:=⟨some 205,.pick (.tmp 202) (.tmp 204) (.const (.bool false)),_,_,_,none⟩) (.bool true) W4 rfl rfl (by kernel_rfl) rfl (pick_run _ (eval_tmp (by simp only [putD_get,putD_same,putD_size,hs,k24,k26,k32,k34,k31,k23,k33,k25,ne_eq,Nat.reduceEqDiff,not_false_eq_true,Nat.reduceLT])) (eval_tmp (by simp only [putD_get,putD_same,putD_size,hs,k24,k26,k32,k34,k31,k23,k33,k25,ne_eq,Nat.reduceEqDiff,not_false_eq_true,Nat.reduceLT]))) id ?_
  refine Gm.op (o:=⟨some 206,.move (.tmp 205),_,_,_,none⟩) (.bool true) W4 rfl rfl (by kernel_rfl) rfl (mvg_run _ (eval_tmp (by simp only [putD_get,putD_same,putD_size,hs,k24,k26,k32,k34,k31,k23,k33,k25,ne_eq,Nat.reduceEqDiff,not_false_eq_true,Nat.reduceLT]))) id ?_
  refine Gm.op (o:=⟨some 207,.move (.tmp 34),_,_,_,some (10,true)⟩) (num 0) W4 rfl (wanted_guard (i:=10) (b:=true) (d:=206) rfl rfl (by simp only [putD_get,putD_same,putD_size,hs,k24,k26,k32,k34,k31,k23,k33,k25,ne_eq,Nat.reduceEqDiff,not_false_eq_true,Nat.reduceLT])) (by kernel_rfl) rfl (mvg_run _ (eval_tmp (by simp only [putD_get,putD_same,putD_size,hs,k24,k26,k32,k34,k31,k23,k33,k25,ne_eq,Nat.reduceEqDiff,not_false_eq_true,Nat.reduceLT]))) id ?_
  refine Gm.op (o:=⟨some 208,.binOp .eql 37 (.tmp 207) (.const (.int .i64 0)) 37,_,_,_,some (10,true)⟩) (.bool true) W4 rfl (wanted_guard (i:=10) (b:=true) (d:=206) rfl rfl (by simp only [putD_get,putD_same,putD_size,hs,k24,k26,k32,k34,k31,k23,k33,k25,ne_eq,Nat.reduceEqDiff,not_false_eq_true,Nat.reduceLT])) (by kernel_rfl) rfl (eqcR37_run (n:=0) _ (eval_tmp (by simp only [putD_get,putD_same,putD_size,hs,k24,k26,k32,k34,k31,k23,k33,k25,ne_eq,Nat.reduceEqDiff,not_false_eq_true,Nat.reduceLT])) rfl) id ?_
  refine Gm.op (o:=⟨some 209,.pick (.tmp 206) (.tmp 208) (.const (.bool false)),_,_,_,none⟩) (.bool true) W4 rfl rfl (by kernel_rfl) rfl (pick_run _ (eval_tmp (by simp only [putD_get,putD_same,putD_size,hs,k24,k26,k32,k34,k31,k23,k33,k25,ne_eq,Nat.reduceEqDiff,not_false_eq_true,Nat.reduceLT])) (eval_tmp (by simp only [putD_get,putD_same,putD_size,hs,k24,k26,k32,k34,k31,k23,k33,k25,ne_eq,Nat.reduceEqDiff,not_false_eq_true,Nat.reduceLT]))) id ?_
  refine Gm.op (o:=⟨some 210,.move (.tmp 209),_,_,_,none⟩) (.bool true) W4 rfl rfl (by kernel_rfl) rfl (mvg_run _ (eval_tmp (by simp only [putD_get,putD_same,putD_size,hs,k24,k26,k32,k34,k31,k23,k33,k25,ne_eq,Nat.reduceEqDiff,not_false_eq_true,Nat.reduceLT]))) id ?_
  refine Gm.op (o:=⟨some 211,.move (.tmp 31),_,_,_,some (14,true)⟩) (num v) W4 rfl (wanted_guard (i:=14) (b:=true) (d:=210) rfl rfl (by simp only [putD_get,putD_same,putD_size,hs,k24,k26,k32,k34,k31,k23,k33,k25,ne_eq,Nat.reduceEqDiff,not_false_eq_true,Nat.reduceLT])) (by kernel_rfl) rfl (mvg_run _ (eval_tmp (by simp only [putD_get,putD_same,putD_size,hs,k24,k26,k32,k34,k31,k23,k33,k25,ne_eq,Nat.reduceEqDiff,not_false_eq_true,Nat.reduceLT]))) id ?_
  refine Gm.op (o:=⟨some 212,.move (.tmp 23),_,_,_,some (14,true)⟩) (num wv) W4 rfl (wanted_guard (i:=14) (b:=true) (d:=210) rfl rfl (by simp only [putD_get,putD_same,putD_size,hs,k24,k26,k32,k34,k31,k23,k33,k25,ne_eq,Nat.reduceEqDiff,not_false_eq_true,Nat.reduceLT])) (by kernel_rfl) rfl (mvg_run _ (eval_tmp (by simp only [putD_get,putD_same,putD_size,hs,k24,k26,k32,k34,k31,k23,k33,k25,ne_eq,Nat.reduceEqDiff,not_false_eq_true,Nat.reduceLT]))) id ?_
  refine Gm.op (o:=⟨some 213,.binOp .geq 3 (.tmp 211) (.tmp 212) 3,_,_,_,some (14,true)⟩) (.bool true) W4 rfl (wanted_guard (i:=14) (b:=true) (d:=210) rfl rfl (by simp only [putD_get,putD_same,putD_size,hs,k24,k26,k32,k34,k31,k23,k33,k25,ne_eq,Nat.reduceEqDiff,not_false_eq_true,Nat.reduceLT])) (by kernel_rfl) rfl (geqR_run (n:=v) (m:=wv) _ (eval_tmp (by simp only [putD_get,putD_same,putD_size,hs,k24,k26,k32,k34,k31,k23,k33,k25,ne_eq,Nat.reduceEqDiff,not_false_eq_true,Nat.reduceLT])) (eval_tmp (by simp only [putD_get,putD_same,putD_size,hs,k24,k26,k32,k34,k31,k23,k33,k25,ne_eq,Nat.reduceEqDiff,not_false_eq_true,Nat.reduceLT])) hle1) id ?_
  refine Gm.op (o:=⟨some 214,.pick (.tmp 210) (.tmp 213) (.const (.bool false)),_,_,_,none⟩) (.bool true) W4 rfl rfl (by kernel_rfl) rfl (pick_run _ (eval_tmp (by simp only [putD_get,putD_same,putD_size,hs,k24,k26,k32,k34,k31,k23,k33,k25,ne_eq,Nat.reduceEqDiff,not_false_eq_true,Nat.reduceLT])) (eval_tmp (by simp only [putD_get,putD_same,putD_size,hs,k24,k26,k32,k34,k31,k23,k33,k25,ne_eq,Nat.reduceEqDiff,not_false_eq_true,Nat.reduceLT]))) id ?_
  refine Gm.op (o:=⟨some 215,.move (.tmp 214),_,_,_,none⟩) (.bool true) W4 rfl rfl (by kernel_rfl) rfl (mvg_run _ (eval_tmp (by simp only [putD_get,putD_same,putD_size,hs,k24,k26,k32,k34,k31,k23,k33,k25,ne_eq,Nat.reduceEqDiff,not_false_eq_true,Nat.reduceLT]))) id ?_
  refine Gm.op (o:=⟨some 216,.move (.tmp 33),_,_,_,some (19,true)⟩) (num m) W4 rfl (wanted_guard (i:=19) (b:=true) (d:=215) rfl rfl (by simp only [putD_get,putD_same,putD_size,hs,k24,k26,k32,k34,k31,k23,k33,k25,ne_eq,Nat.reduceEqDiff,not_false_eq_true,Nat.reduceLT])) (by kernel_rfl) rfl (mvg_run _ (eval_tmp (by simp only [putD_get,putD_same,putD_size,hs,k24,k26,k32,k34,k31,k23,k33,k25,ne_eq,Nat.reduceEqDiff,not_false_eq_true,Nat.reduceLT]))) id ?_
  refine Gm.op (o:=⟨some 217,.move (.tmp 25),_,_,_,some (19,true)⟩) (num bn) W4 rfl (wanted_guard (i:=19) (b:=true) (d:=215) rfl rfl (by simp only [putD_get,putD_same,putD_size,hs,k24,k26,k32,k34,k31,k23,k33,k25,ne_eq,Nat.reduceEqDiff,not_false_eq_true,Nat.reduceLT])) (by kernel_rfl) rfl (mvg_run _ (eval_tmp (by simp only [putD_get,putD_same,putD_size,hs,k24,k26,k32,k34,k31,k23,k33,k25,ne_eq,Nat.reduceEqDiff,not_false_eq_true,Nat.reduceLT]))) id ?_
  refine Gm.op (o:=⟨some 218,.binOp .geq 3 (.tmp 216) (.tmp 217) 3,_,_,_,some (19,true)⟩) (.bool true) W4 rfl (wanted_guard (i:=19) (b:=true) (d:=215) rfl rfl (by simp only [putD_get,putD_same,putD_size,hs,k24,k26,k32,k34,k31,k23,k33,k25,ne_eq,Nat.reduceEqDiff,not_false_eq_true,Nat.reduceLT])) (by kernel_rfl) rfl (geqR_run (n:=m) (m:=bn) _ (eval_tmp (by simp only [putD_get,putD_same,putD_size,hs,k24,k26,k32,k34,k31,k23,k33,k25,ne_eq,Nat.reduceEqDiff,not_false_eq_true,Nat.reduceLT])) (eval_tmp (by simp only [putD_get,putD_same,putD_size,hs,k24,k26,k32,k34,k31,k23,k33,k25,ne_eq,Nat.reduceEqDiff,not_false_eq_true,Nat.reduceLT])) hle2) id ?_
  refine Gm.op (o:=⟨some 219,.pick (.tmp 215) (.tmp 218) (.const (.bool false)),_,_,_,none⟩) (.bool true) W4 rfl rfl (by kernel_rfl) rfl (pick_run _ (eval_tmp (by simp only [putD_get,putD_same,putD_size,hs,k24,k26,k32,k34,k31,k23,k33,k25,ne_eq,Nat.reduceEqDiff,not_false_eq_true,Nat.reduceLT])) (eval_tmp (by simp only [putD_get,putD_same,putD_size,hs,k24,k26,k32,k34,k31,k23,k33,k25,ne_eq,Nat.reduceEqDiff,not_false_eq_true,Nat.reduceLT]))) id ?_
  refine Gm.op (o:=⟨some 220,.move (.tmp 219),_,_,_,none⟩) (.bool true) W4 rfl rfl (by kernel_rfl) rfl (mvg_run _ (eval_tmp (by simp only [putD_get,putD_same,putD_size,hs,k24,k26,k32,k34,k31,k23,k33,k25,ne_eq,Nat.reduceEqDiff,not_false_eq_true,Nat.reduceLT]))) id ?_
  refine Gm.enter (o:=⟨some 221,.call { callee:=.value (.func 20),args:=#[],argTypes:=#[] },_,_,_,some (24,true)⟩) (c:={ callee:=.value (.func 20),args:=#[],argTypes:=#[] }) rfl (wanted_guard (i:=24) (b:=true) (d:=220) rfl rfl (by simp only [putD_get,putD_same,putD_size,hs,k24,k26,k32,k34,k31,k23,k33,k25,ne_eq,Nat.reduceEqDiff,not_false_eq_true,Nat.reduceLT])) rfl rfl (by kernel_rfl) Tryd.func20 body20_of (by kernel_rfl) ?_
  rw [fr20]
  refine flows_go E _ Arg W0 hArg _ _ _ _ _ (hg.old hO14) ?_
  intro WL FzL φL hOL
  rw [Fr_finish (o:=⟨some 221,.call { callee:=.value (.func 20),args:=#[],argTypes:=#[] },_,_,_,some (24,true)⟩) rfl]
  refine Gm.op (o:=⟨some 222,.pick (.tmp 220) (.tmp 221) (.const (.bool false)),_,_,_,none⟩) (.bool true) WL rfl rfl (by kernel_rfl) rfl (pick_run _ (eval_tmp (by simp only [putD_get,putD_same,putD_size,hs,k24,k26,k32,k34,k31,k23,k33,k25,ne_eq,Nat.reduceEqDiff,not_false_eq_true,Nat.reduceLT])) (eval_tmp (by simp only [putD_get,putD_same,putD_size,hs,k24,k26,k32,k34,k31,k23,k33,k25,ne_eq,Nat.reduceEqDiff,not_false_eq_true,Nat.reduceLT]))) id ?_
  refine Gm.op (o:=⟨some 14,.assign (.tmp 222),_,_,_,none⟩) (.bool true) WL rfl rfl (by kernel_rfl) rfl (asg_run _ (eval_tmp (by simp only [putD_get,putD_same,putD_size,hs,k24,k26,k32,k34,k31,k23,k33,k25,ne_eq,Nat.reduceEqDiff,not_false_eq_true,Nat.reduceLT]))) id ?_
  refine Gm.regionEnd ?_
  refine Gm.done Tryd.func17 (by kernel_rfl) (results17 (.bool true) _ (by simp only [putD_get,putD_same,putD_size,hs,k24,k26,k32,k34,k31,k23,k33,k25,ne_eq,Nat.reduceEqDiff,not_false_eq_true,Nat.reduceLT])) ?_
  exact fun ρ D own A fr W' h=>hPost _ ρ D own A fr _ W' h
end Go.Proofs.YtolholkjeehamaaDoor

namespace Go.Proofs.YtolholkjeehamaaDoor
open Go.RowKit Go.Con Go.Conc Go.ChangeShapes Go.WideShapes Go.ChangeAt
local instance:Lone:=mainL
theorem under99:Tryd.prog.underlying 99=some (.array 3 77):=by kernel_rfl
section
variable {H:Type} {enc:TypeId×Value→H} {W:World}
theorem by_open {v:Value} {dd:DataW H} {p:List MemPlace} {base:Nat} (hv:Value.okWide Tryd.prog W .any base 99 v) (h:DataW.Trod enc Tryd.prog W 0 (fun _=>true) true 99 v dd p) :
  ∃ b0 b1 b2:Int,v=.agg #[.int .u16 b0,.int .u16 b1,.int .u16 b2]∧(0≤b0∧b0≤65535)∧(0≤b1∧b1≤65535)∧(0≤b2∧b2≤65535):=by
 simp only [Value.okWide,under99] at hv
 obtain⟨cs,rfl,hsz,_⟩:=hv
 rw [show Tryd.prog.cellsOf 99=3 by kernel_rfl] at hsz
 obtain⟨fuel,hf⟩:=h
 simp only [Value.cells] at hf
 obtain⟨l⟩:=cs
 simp only [List.size_toArray] at hsz
 match l,hsz with
 | [u0,u1,u2],_ =>
  obtain⟨y0,y1,y2,n,_,g0,g1,g2⟩:=trod_array3 under99 (by kernel_rfl) hf
  obtain⟨b0,e0,k0⟩:=read_u16 g0
  obtain⟨b1,e1,k1⟩:=read_u16 g1
  obtain⟨b2,e2,k2⟩:=read_u16 g2
  simp only [List.cons.injEq,and_true] at e0 e1 e2
  subst e0 e1 e2
  exact⟨b0,b1,b2,rfl,k0,k1,k2⟩
end
section
variable {H:Type} {enc:TypeId×Value→H} {P:Program} {w:World} {base:Nat} {spare:Nat→Bool} {held:Bool}
theorem trodAll_mk6 {t0 t1 t2 t3 t4 t5:TypeId} {v0 v1 v2 v3 v4 v5:Value} {d0 d1 d2 d3 d4 d5:DataW H} {p0 p1 p2 p3 p4 p5:List MemPlace} (h0:DataW.Trod enc P w base spare held t0 v0 d0 p0) (h1:DataW.Trod enc P w base spare held t1 v1 d1 p1) (h2:DataW.Trod enc P w base spare held t2 v2 d2 p2) (h3:DataW.Trod enc P w base spare held t3 v3 d3 p3) (h4:DataW.Trod enc P w base spare held t4 v4 d4 p4) (h5:DataW.Trod enc P w base spare held t5 v5 d5 p5):DataW.TrodAll enc P w base spare held [t0,t1,t2,t3,t4,t5] [v0,v1,v2,v3,v4,v5] [d0,d1,d2,d3,d4,d5] (p0++(p1++(p2++(p3++(p4++(p5)))))):=⟨p0,p1++(p2++(p3++(p4++(p5)))),h0,trodAll_mk5 h1 h2 h3 h4 h5,rfl⟩
theorem trodAll_seven {t0 t1 t2 t3 t4 t5 t6:TypeId} {args:Array Value} {ds:List (DataW H)} {ps:List MemPlace} (h:DataW.TrodAll enc P w base spare held [t0,t1,t2,t3,t4,t5,t6] args.toList ds ps) :
  ∃ v0 v1 v2 v3 v4 v5 v6 d0 d1 d2 d3 d4 d5 d6 p0 p1 p2 p3 p4 p5 p6,args=#[v0,v1,v2,v3,v4,v5,v6]∧ds=[d0,d1,d2,d3,d4,d5,d6]∧ps=p0++p1++p2++p3++p4++p5++p6∧DataW.Trod enc P w base spare held t0 v0 d0 p0∧DataW.Trod enc P w base spare held t1 v1 d1 p1∧DataW.Trod enc P w base spare held t2 v2 d2 p2∧DataW.Trod enc P w base spare held t3 v3 d3 p3∧DataW.Trod enc P w base spare held t4 v4 d4 p4∧DataW.Trod enc P w base spare held t5 v5 d5 p5∧DataW.Trod enc P w base spare held t6 v6 d6 p6:=by
 obtain⟨v0,vs0,d0,ds0,p0,q0,hargs,rfl,rfl,hd0,hr0⟩:=trodAll_cons h
 obtain⟨v1,vs1,d1,ds1,p1,q1,rfl,rfl,rfl,hd1,hr1⟩:=trodAll_cons hr0
 obtain⟨v2,vs2,d2,ds2,p2,q2,rfl,rfl,rfl,hd2,hr2⟩:=trodAll_cons hr1
 obtain⟨v3,vs3,d3,ds3,p3,q3,rfl,rfl,rfl,hd3,hr3⟩:=trodAll_cons hr2
 obtain⟨v4,vs4,d4,ds4,p4,q4,rfl,rfl,rfl,hd4,hr4⟩:=trodAll_cons hr3
 obtain⟨v5,vs5,d5,ds5,p5,q5,rfl,rfl,rfl,hd5,hr5⟩:=trodAll_cons hr4
 obtain⟨v6,vs6,d6,ds6,p6,q6,rfl,rfl,rfl,hd6,hr6⟩:=trodAll_cons hr5
 obtain⟨rfl,rfl,rfl⟩:=trodAll_nil hr6
 exact⟨v0,v1,v2,v3,v4,v5,v6,d0,d1,d2,d3,d4,d5,d6,p0,p1,p2,p3,p4,p5,p6,by cases args;simp_all,rfl,by simp,hd0,hd1,hd2,hd3,hd4,hd5,hd6⟩
theorem trodAll_mk7 {t0 t1 t2 t3 t4 t5 t6:TypeId} {v0 v1 v2 v3 v4 v5 v6:Value} {d0 d1 d2 d3 d4 d5 d6:DataW H} {p0 p1 p2 p3 p4 p5 p6:List MemPlace} (h0:DataW.Trod enc P w base spare held t0 v0 d0 p0) (h1:DataW.Trod enc P w base spare held t1 v1 d1 p1) (h2:DataW.Trod enc P w base spare held t2 v2 d2 p2) (h3:DataW.Trod enc P w base spare held t3 v3 d3 p3) (h4:DataW.Trod enc P w base spare held t4 v4 d4 p4) (h5:DataW.Trod enc P w base spare held t5 v5 d5 p5) (h6:DataW.Trod enc P w base spare held t6 v6 d6 p6):DataW.TrodAll enc P w base spare held [t0,t1,t2,t3,t4,t5,t6] [v0,v1,v2,v3,v4,v5,v6] [d0,d1,d2,d3,d4,d5,d6] (p0++(p1++(p2++(p3++(p4++(p5++(p6))))))):=⟨p0,p1++(p2++(p3++(p4++(p5++(p6))))),h0,trodAll_mk6 h1 h2 h3 h4 h5 h6,rfl⟩
end
theorem fr17 (a0 a1 a2 a3 a4 a5 a6:Value):#[a0,a1,a2,a3,a4,a5,a6]++Array.replicate (Tryd.f17.ntmps-(#[a0,a1,a2,a3,a4,a5,a6]:Array Value).size) undef=#[a0,a1,a2,a3,a4,a5,a6,undef,undef,undef,undef,undef,undef,undef,undef,undef,undef,undef,undef,undef,undef,undef,undef,undef,undef,undef,undef,undef,undef,undef,undef,undef,undef,undef,undef,undef,undef,undef,undef,undef,undef,undef,undef,undef,undef,undef,undef,undef,undef,undef,undef,undef,undef,undef,undef,undef,undef,undef,undef,undef,undef,undef,undef,undef,undef,undef,undef,undef,undef,undef,undef,undef,undef,undef,undef,undef,undef,undef,undef,undef,undef,undef,undef,undef,undef,undef,undef,undef,undef,undef,undef,undef,undef,undef,undef,undef,undef,undef,undef,undef,undef,undef,undef,undef,undef,undef,undef,undef,undef,undef,undef,undef,undef,undef,undef,undef,undef,undef,undef,undef,undef,undef,undef,undef,undef,undef,undef,undef,undef,undef,undef,undef,undef,undef,undef,undef,undef,undef,undef,undef,undef,undef,undef,undef,undef,undef,undef,undef,undef,undef,undef,undef,undef,undef,undef,undef,undef,undef,undef,undef,undef,undef,undef,undef,undef,undef,undef,undef,undef,undef,undef,undef,undef,undef,undef,undef,undef,undef,undef,undef,undef,undef,undef,undef,undef,undef,undef,undef,undef,undef,undef,undef,undef,undef,undef,undef,undef,undef,undef,undef,undef,undef,undef,undef,undef,undef,undef,undef,undef,undef,undef,undef,undef,undef,undef,undef,undef,undef,undef,undef,undef,undef,undef]:=by
 simp only [Tryd.ntmps17,List.size_toArray,List.length_cons,List.length_nil,Nat.reduceAdd,Nat.reduceSub,Array.replicate_succ,Array.replicate_zero,List.push_toArray,List.append_toArray,List.nil_append,List.cons_append]
theorem more_fin (d:Dit) (r:Rows6) (x1:Int) (x2:Int) (x3:Int) (x4:Int) (b0 b1 b2:Int) (x6:Int) (W:World) (hd:DitSl W d r) (hb:d.Big) (hg:Glob W) (hx1:(0≤x1∧x1≤255)) (hx2:(0≤x2∧x2≤4294967295)) (hx3:(0≤x3∧x3≤4294967295)) (hx4:(0≤x4∧x4≤4294967295)) (h50:(0≤b0∧b0≤65535)) (h51:(0≤b1∧b1≤65535)) (h52:(0≤b2∧b2≤65535)) (hx6:(0≤x6∧x6≤65535)) :
  Con.Fin Tryd.prog (fun u W'=>u=.bool true∧Con.Left W W') (solo (G (Frame.enter Tryd.prog 17 #[d.val r,.int .u8 x1,.int .u32 x2,.int .u32 x3,.int .u32 x4,.agg #[.int .u16 b0,.int .u16 b1,.int .u16 b2],.int .u16 x6] .normal) []) W) #[]:=by
 refine law_fin Tryd.func17 lawB17_of hg (fun v hv=>?_) fun c Post hPost=>?_
 ·simp only [List.mem_cons,List.not_mem_nil,or_false] at hv
  rcases hv with rfl | rfl | rfl | rfl | rfl | rfl | rfl
  ·exact hd.same
  ·exact⟨fun c=>by simp [ren],by simp [ren]⟩
  ·exact⟨fun c=>by simp [ren],by simp [ren]⟩
  ·exact⟨fun c=>by simp [ren],by simp [ren]⟩
  ·exact⟨fun c=>by simp [ren],by simp [ren]⟩
  ·exact Same.agg fun v hv=>by (simp only [List.mem_cons,List.not_mem_nil,or_false] at hv;rcases hv with rfl | rfl | rfl<;>exact⟨fun c=>by simp [ren],by simp [ren]⟩)
  ·exact⟨fun c=>by simp [ren],by simp [ren]⟩
 ·rw [fr17]
  exact more_go _ _ _ _ (fun _=>Iff.rfl) Post _ d r x1 x2 x3 x4 b0 b1 b2 x6 _ hd.entry hb hg.entry hx1 hx2 hx3 hx4 h50 h51 h52 hx6 hPost
theorem more_lifted (os:Os) (started:os.Started) (H:Type) (enc:TypeId×Value→H) :
  ReturnsInLeavingWide {} Tryd.checked os 17 .any (fun w args=>(Rows.turnMoreSpec.pre enc Tryd.prog Tryd.f17 [] false w args∧laidMetH Tryd.prog laid2 w)∧sizedMet enc Tryd.prog Tryd.f17 (OpenSpec.ofChange Rows.turnMoreSpec) false w args)
   (Rows.turnMoreSpec.post enc Tryd.prog Tryd.f17 false true false false):=by
 refine returnsInLeavingWide_and (C:=Tryd.checked) (X:=fun w _=>laidMetH Tryd.prog laid2 w) (fun _ _ _ hh h=>h.of_heap hh) own_knob started Tryd.func17
  (ChangeSpec.witness_shaped (enc:=enc) (C:=Tryd.checked) (os:=os) (X:=fun w _=>laidMetH Tryd.prog laid2 w) false (World.doorLaid Tryd.prog 600 os)
   #[.agg #[.slice none 0 0,.slice none 0 0,.int .i64 0,.int .i64 0,.int .i64 0,.int .i64 0,.slice none 0 0,.slice none 0 0,.slice none 0 0,.int .i64 0,.int .i64 0,.int .i64 0,.int .i64 0,.slice none 0 0],.int .u8 0,.int .u32 0,.int .u32 0,.int .u32 0,.agg #[.int .u16 0,.int .u16 0,.int .u16 0],.int .u16 0] 8 rfl (World.shaped_of_RefB (by kernel_rfl) (by kernel_rfl)) (by kernel_rfl) (by kernel_rfl) (by kernel_rfl) (door_met os _)) ?_
 intro W base args ds gs before hval0 hW _ hsz hL
 have hval:∀ (j:Nat) t v,Tryd.f17.params[j]?=some t→args[j]?=some v→Value.okWide Tryd.prog W .any base t v:=hval0
 have hW':=hW
 obtain⟨p,q,hA0,hV,rfl,hfz,hnd⟩:=hW
 have hA:DataW.TrodAll enc Tryd.prog W 0 (fun _=>true) true Tryd.f17.params.toList args.toList ds p:=hA0
 rw [Tryd.params17] at hA hval
 obtain⟨v0,v1,v2,v3,v4,v5,v6,d0,d1,d2,d3,d4,d5,d6,p0,p1,p2,p3,p4,p5,p6,rfl,rfl,rfl,h0,h1,h2,h3,h4,h5,h6⟩:=trodAll_seven hA
 obtain⟨rfl,rfl⟩:=trodVars_none hV
 obtain⟨x1,rfl,rfl,rfl,w1⟩:=open_int Tryd.underlying5 (hval 1 5 v1 rfl rfl) h1
 have hx1:0≤x1∧x1≤255:=by
  have h:=w1
  simp only [Lit.wf,Bool.and_eq_true,decide_eq_true_eq] at h
  exact h
 obtain⟨x2,rfl,rfl,rfl,w2⟩:=open_int Tryd.underlying43 (hval 2 43 v2 rfl rfl) h2
 have hx2:0≤x2∧x2≤4294967295:=by
  have h:=w2
  simp only [Lit.wf,Bool.and_eq_true,decide_eq_true_eq] at h
  exact h
 obtain⟨x3,rfl,rfl,rfl,w3⟩:=open_int Tryd.underlying43 (hval 3 43 v3 rfl rfl) h3
 have hx3:0≤x3∧x3≤4294967295:=by
  have h:=w3
  simp only [Lit.wf,Bool.and_eq_true,decide_eq_true_eq] at h
  exact h
 obtain⟨x4,rfl,rfl,rfl,w4⟩:=open_int Tryd.underlying43 (hval 4 43 v4 rfl rfl) h4
 have hx4:0≤x4∧x4≤4294967295:=by
  have h:=w4
  simp only [Lit.wf,Bool.and_eq_true,decide_eq_true_eq] at h
  exact h
 obtain⟨b0,b1,b2,rfl,h50,h51,h52⟩:=by_open (hval 5 99 v5 rfl rfl) h5
 obtain⟨x6,rfl,rfl,rfl,w6⟩:=open_int Tryd.underlying77 (hval 6 77 v6 rfl rfl) h6
 have hx6:0≤x6∧x6≤65535:=by
  have h:=w6
  simp only [Lit.wf,Bool.and_eq_true,decide_eq_true_eq] at h
  exact h
 have hfit:Fits 31 d0:=fun n hn=>by
  have:=List.all_eq_true.1 hsz n (DataW.weights_mem_each (P:=Tryd.prog) (j:=0) (t:=31) (d:=d0) (by rw [show Tryd.checked.prog=Tryd.prog from rfl,Tryd.params17];rfl) rfl n hn)
  simpa using this
 obtain⟨d,r,rfl,hd,hb⟩:=dit_open (hval 0 31 v0 rfl rfl) h0 hfit
 clear hA0 hval0
 try simp only [List.append_nil] at hW'
 have hlt:=fun x hx=>hW'.lt x hx
 try simp only [Array.size_empty,Nat.add_zero] at hlt
 refine fin_post (more_fin d r x1 x2 x3 x4 b0 b1 b2 x6 W hd hb (of_laid hL) hx1 hx2 hx3 hx4 h50 h51 h52 hx6) fun W' hl=>?_
 have ha:=trodAll_mk7 (left_trod (by kernel_rfl) (of_decide_eq_true (by kernel_rfl)) h0 hl fun x hx=>hlt x (by simp [hx])) (shut_int Tryd.underlying5 w1) (shut_int Tryd.underlying43 w2) (shut_int Tryd.underlying43 w3) (shut_int Tryd.underlying43 w4) (left_trod (by kernel_rfl) (of_decide_eq_true (by kernel_rfl)) h5 hl fun x hx=>hlt x (by simp [hx])) (shut_int Tryd.underlying77 w6)
 try simp only [List.append_nil] at ha
 exact⟨[d0,.lit (.int .u8 x1),.lit (.int .u32 x2),.lit (.int .u32 x3),.lit (.int .u32 x4),d5,.lit (.int .u16 x6)],[],_,[],_,[],hW',trodAll_mk1 (shut_bool Tryd.underlying4 _),ha,rfl,left_kept hl _,fun h=>by cases h⟩
theorem more_holds:Rows.TurnMoreSaid :=
 OpenClaim.holds_of_wide_leaving 17 Tryd.f17 rfl rfl rfl rfl rfl rfl rfl ⟨rfl,rfl,rfl,rfl,rfl⟩ rfl rfl rfl rfl rfl (by kernel_rfl) Tryd.func17 (by kernel_rfl)
  (of_decide_eq_true (by kernel_rfl)) (by unfold Func.isWrapper;first | (rw [if_pos (by decide +kernel)];kernel_rfl) | (rw [if_neg (by decide +kernel)];exact⟨rfl,rfl⟩))
  (fun os started H enc _=>more_lifted os started H enc)
theorem more_card:Rows.TurnMoreCardSaid :=
 tied_plain_goes .later [] [.funcs,.data] true (true,"13bbfa5877394a3cde13138796d6bb679173f8167c87f9ccc98cd9f3e99a425f") false true
  more_holds (fun _ h=>by cases h) (by kernel_rfl) (fun _ h=>by cases h) turnMore_row_tie rfl ⟨rfl,rfl⟩ (by kernel_rfl) rfl
  (fun f fn hf hfn=>by
   obtain rfl:f=17:=Option.some.inj ((show Tryd.prog.funcNamed "crocus/crocuslaw02.TurnMore" = some 17 by kernel_rfl).symm.trans hf) |>.symm
   obtain rfl:fn=Tryd.f17:=(Option.some.inj (Tryd.func17.symm.trans hfn)).symm
   exact⟨by kernel_rfl,fun j t ht=>by
    rw [Tryd.params17] at ht
    have hm:t∈[31,5,43,43,43,99,77]:=by simpa using Array.mem_of_getElem? ht
    have hall:([31,5,43,43,43,99,77].all fun u=>!Tryd.prog.wantsStandIn u)=true:=by kernel_rfl
    exact (show Tryd.prog.wantsStandIn t=false by simpa using List.all_eq_true.1 hall t hm)⟩)
  (by kernel_rfl)
#print axioms more_card
end Go.Proofs.YtolholkjeehamaaDoor

