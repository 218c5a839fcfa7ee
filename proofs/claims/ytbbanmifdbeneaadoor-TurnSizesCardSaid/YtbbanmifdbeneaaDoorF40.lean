import Derived.Test.YtbbanmifdbeneaaDoorF41
import Derived.Test.YtbbanmifdbeneaaDoorF34
import Derived.Test.YtbbanmifdbeneaaDoorF38
import Derived.Test.YtbbanmifdbeneaaDoorChecked
import Derived.Test.YtbbanmifdbeneaaDoorTie
import Derived.Test.YtbbanmifdbeneaaDoorCards
import Derived.ProofKit
import Derived.LaidMore
import Derived.OpenShut
import Derived.Stop.Joined
import Derived.Conc.LeavingOf
import Derived.SevenTiedAt
import Derived.Test.YtbbanmifdbeneaaDoorF09
import Derived.Test.YtbbanmifdbeneaaDoorF30
set_option linter.all false
set_option maxRecDepth 100000
set_option maxHeartbeats 4000000
open List renaming mem_cons_of_mem → jqa
namespace Go.Proofs.YtbbanmifdbeneaaDoor
open Go.RowKit
theorem zlJ {p q:Prop} [Decidable p] [Decidable q] (h:p↔q) (a b:Int):(if p then a else b)=if q then a else b:=by
 by_cases hp:p
 ·rw [if_pos hp,if_pos (h.1 hp)]
 ·rw [if_neg hp,if_neg fun hq=>hp (h.2 hq)]
theorem sumTo_le {l:List (Int×Int)} (h:∀ x∈l,1≤x.2∧x.2≤100) {i j:Nat} (hij:i≤j):sumTo l i≤sumTo l j:=by
 induction j with
 | zero=>obtain rfl:i=0:=by omega
         exact Int.le_refl _
 | succ j ih =>
  rcases Nat.lt_or_ge i (j+1) with hlt | hge
  ·have:=ih (by omega)
   simp only [sumTo]
   cases hx:l[j]? with
   | none=>simp;omega
   | some x =>
    have:=(h x (List.mem_of_getElem? hx)).1;simp;omega
  ·obtain rfl:i=j+1:=by omega
   exact Int.le_refl _
theorem zkr {l:List (Int×Int)} {r:Int} (hr:r<sumTo l l.length):∀ (n t:Nat),t≤l.length→l.length≤t+n→sumTo l t≤r →
  zei (zcf l l.length) r n t<l.length∧sumTo l (zei (zcf l l.length) r n t)≤r∧r<sumTo l (zei (zcf l l.length) r n t+1)
 | 0,t,h1,h2,h3=>by
  obtain rfl:t=l.length:=by omega
  omega
 | n+1,t,h1,h2,h3=>by
  have hlt:t<l.length:=by
   rcases Nat.lt_or_ge t l.length with h | h
   ·exact h
   ·obtain rfl:t=l.length:=by omega
    omega
  unfold zei;have he:zcf l l.length t=sumTo l (t+1):=by unfold zcf;rw [if_pos hlt]
  rw [he];split
  ·rename_i hge
   exact zkr hr n (t+1) (by omega) (by omega) hge
  ·rename_i hge
   exact⟨hlt,h3,by omega⟩
def Dit.turn (d:Dit) (r:Int):Nat:=zei d.ends r 12 0
theorem Dit.Ok.turn_at {d:Dit} (hO:d.Ok) {r:Int} (h0:0≤r) (h1:r<d.cyc):d.turn r<d.turns.length∧sumTo d.turns (d.turn r)≤r∧r<sumTo d.turns (d.turn r+1) :=
 zkr h1 12 0 (Nat.zero_le _) (by have:=hO.t12;omega) h0
theorem zgc {l:List (Int×Int)} {k:Nat} (hk:k≤l.length):zcV (zcf l l.length) k=sumTo l k:=by
 unfold zcV;split
 ·rename_i h;subst h;rfl
 ·unfold zcf
  rw [if_pos (by omega),show k-1+1=k by omega]
theorem zd8 {d:Dit} (hO:d.Ok) {l:List Int} {holder r:Int} (hr:r≤0):∀ k,k≤d.turns.length→zaD d.ends l holder r k=0
 | 0,_=>rfl
 | k+1,hk=>by
  unfold zaD;rw [zd8 hO hr k (by omega)];have h1:zcV d.ends k=sumTo d.turns k:=zgc (by omega);have h2:=zd1 (fun x hx=>(hO.th x hx).2) k (by omega);rw [h1]
  split<;>omega
theorem part_go {d:Dit} (hO:d.Ok) {l:List Int} {holder r:Int} (h0:0≤r) (h1:r<d.cyc):∀ k,k≤d.turns.length →
  zaD d.ends l holder (r+1) k=zaD d.ends l holder r k+if d.turn r<k∧l[d.turn r]?=some holder then 1 else 0
 | 0,_=>by simp [zaD]
 | k+1,hk=>by
  obtain⟨t1,t2,t3⟩:=hO.turn_at h0 h1;have ih:=part_go hO (l:=l) (holder:=holder) h0 h1 k (by omega);have hs:zcV d.ends k=sumTo d.turns k:=zgc (by omega);have he:d.ends k=sumTo d.turns (k+1):=by unfold Dit.ends zcf;rw [if_pos (by omega)]
  unfold zaD;rw [ih,hs,he];have hth:=fun x hx=>(hO.th x hx).2;have hkk:=sumTo_le hth (Nat.le_succ k);rcases Nat.lt_trichotomy (d.turn r) k with hlt | heq | hgt
  ·have h3:=sumTo_le hth (show d.turn r+1≤k by omega)
   have e1:(d.turn r<k∧l[d.turn r]?=some holder)↔(d.turn r<k+1∧l[d.turn r]?=some holder):=by
    constructor<;>rintro ⟨a,b⟩<;>exact⟨by omega,b⟩
   rw [zlJ e1];have hm:max 0 (min (r+1) (sumTo d.turns (k+1))-sumTo d.turns k)=max 0 (min r (sumTo d.turns (k+1))-sumTo d.turns k):=by omega
   rw [hm];omega
  ·have hn:¬ (d.turn r<k∧l[d.turn r]?=some holder):=fun h=>by omega
   rw [if_neg hn];rw [heq] at t2 t3 ⊢;by_cases hl:l[k]?=some holder
   ·rw [if_pos hl,if_pos hl,if_pos ⟨Nat.lt_succ_self _,hl⟩]
    omega
   ·rw [if_neg hl,if_neg hl,if_neg fun h=>hl h.2]
  ·have h3:=sumTo_le hth (show k+1≤d.turn r by omega)
   have e1:¬ (d.turn r<k∧l[d.turn r]?=some holder):=fun h=>by omega
   have e2:¬ (d.turn r<k+1∧l[d.turn r]?=some holder):=fun h=>by omega
   rw [if_neg e1,if_neg e2];have hm:max 0 (min (r+1) (sumTo d.turns (k+1))-sumTo d.turns k)=max 0 (min r (sumTo d.turns (k+1))-sumTo d.turns k):=by omega
   rw [hm];omega
def Dit.has (d:Dit) (l:List Int) (holder r:Int):Int:=if l[d.turn r]?=some holder then 1 else 0
theorem zfX {d:Dit} (hO:d.Ok) {l:List Int} {holder r:Int} (h0:0≤r) (h1:r<d.cyc) :
  zaD d.ends l holder (r+1) d.turns.length=zaD d.ends l holder r d.turns.length+d.has l holder r:=by
 rw [part_go hO h0 h1 _ (Nat.le_refl _)];have:=(hO.turn_at h0 h1).1;unfold Dit.has;simp [this]
theorem zkh {f g k:Int→Int}:∀ {l:List Int},(∀ x∈l,f x=g x+k x)→sumS f l=sumS g l+sumS k l
 | [],_=>by simp [sumS]
 | x :: l,h=>by
  have h1:=zkh (l:=l) fun y hy=>h y (jqa _ hy);have h2:=h x (List.mem_cons_self ..);simp only [sumS];omega
theorem zj2 {q e:Int}:∀ {l:List Int},l.Nodup→sumS (fun c=>if c=q then e else 0) l=if q∈l then e else 0
 | [],_=>by simp [sumS]
 | x :: l,h=>by
  obtain⟨h1,h2⟩:=List.nodup_cons.1 h;have ih:=zj2 (q:=q) (e:=e) h2;simp only [sumS];by_cases hx:x=q
  ·subst hx
   rw [ih,if_neg h1];simp
  ·rw [ih,if_neg hx]
   have:q∈x :: l↔q∈l:=by simp [Ne.symm hx]
   rw [zlJ this];omega
theorem zme {T h c:Int} (hT:0<T) (hc:c * T≤h∧h<c * T+T):h / T=c∧h % T=h-c * T :=
 (Int.ediv_emod_unique hT).2 ⟨by rw [Int.mul_comm];omega,by omega,by omega⟩
theorem zoK {T h:Int} (hT:0<T):h / T * T≤h∧h<h / T * T+T∧h % T=h-h / T * T:=by
 have h1:=Int.emod_nonneg h (b:=T) (by omega);have h2:=Int.emod_lt_of_pos h hT;have h3:=Int.mul_ediv_add_emod h T;rw [Int.mul_comm] at h3;omega
theorem Dit.Ok.cyc_pos {d:Dit} (hO:d.Ok):0<d.cyc:=by have:=hO.cyc.size;omega
theorem znY {d:Dit} (hO:d.Ok) {holder h c:Int} :
  addS d.ends d.cyc d.us d.oth holder (h+1) c=addS d.ends d.cyc d.us d.oth holder h c+if c=h / d.cyc then d.has (d.oth c) holder (h % d.cyc)-d.has d.us holder (h % d.cyc) else 0:=by
 have hT:=hO.cyc_pos;have hl:d.us.length=d.turns.length:=by simp [Dit.us]
 unfold addS;rw [hl];by_cases hin:c * d.cyc≤h∧h<c * d.cyc+d.cyc
 ·obtain⟨e1,e2⟩:=zme hT hin
  rw [if_pos e1.symm,e2,if_pos (show min d.cyc (h+1-c * d.cyc) > 0 by omega),show min d.cyc (h+1-c * d.cyc)=h-c * d.cyc+1 by omega,show min d.cyc (h-c * d.cyc)=h-c * d.cyc by omega,
   zfX hO (by omega) (by omega),zfX hO (by omega) (by omega)]
  split
  ·omega
  ·rw [zd8 hO (show h-c * d.cyc≤0 by omega) _ (Nat.le_refl _),zd8 hO (show h-c * d.cyc≤0 by omega) _ (Nat.le_refl _)];omega
 ·have hne:c≠h / d.cyc:=by
   rintro rfl;have:=zoK (h:=h) hT;exact hin ⟨this.1,this.2.1⟩
  rw [if_neg hne];by_cases hlo:h<c * d.cyc
  ·rw [if_neg (by omega),if_neg (by omega)];rfl
  ·rw [show min d.cyc (h+1-c * d.cyc)=min d.cyc (h-c * d.cyc) by omega];omega
theorem zoI {d:Dit} {c:Int} (hc:c∉d.keys):d.oth c=d.us:=by
 have h1:∀ s∈d.swaps,s.1≠c:=fun s hs e=>hc (mem_keysOf.2 (.inl (mem_keysOf.2 (.inr ⟨s,hs,e⟩))));have h2:∀ s∈d.loans,s.1≠c:=fun s hs e=>hc (mem_keysOf.2 (.inr ⟨s,hs,e⟩));have f2:∀ (sw:List (Int×Int×Int)) (us:List Int),(∀ s∈sw,s.1≠c)→oth2 us sw c=us:=by
  intro sw
  induction sw with
  | nil=>intro us _;rfl
  | cons s sw ih =>
   intro us h;have:oth2 us (s :: sw) c=oth2 (if s.1=c then zhD us s.2.1.toNat s.2.2.toNat else us) sw c:=rfl;rw [this,if_neg (h s (List.mem_cons_self ..)),ih _ fun t ht=>h t (jqa _ ht)]
 have f3:∀ (sw:List (Int×Int×Int)) (us:List Int),(∀ s∈sw,s.1≠c)→oth3 us sw c=us:=by
  intro sw
  induction sw with
  | nil=>intro us _;rfl
  | cons s sw ih =>
   intro us h;have:oth3 us (s :: sw) c=oth3 (if s.1=c then us.set s.2.1.toNat s.2.2 else us) sw c:=rfl;rw [this,if_neg (h s (List.mem_cons_self ..)),ih _ fun t ht=>h t (jqa _ ht)]
 unfold Dit.oth;rw [f2 _ _ h1,f3 _ _ h2]
def Dit.had (d:Dit) (holder x:Int):Int:=hadS d.ends d.cyc d.us d.keys d.oth holder x
def Dit.own (d:Dit) (holder x:Int):Int:=d.has (d.oth (x / d.cyc)) holder (x % d.cyc)
theorem zp4 (d:Dit) (holder x:Int):d.own holder x=0∨d.own holder x=1:=by
 unfold Dit.own Dit.has
 split<;>simp
theorem Dit.Ok.had_step {d:Dit} (hO:d.Ok) {holder x:Int} (hx:0≤x):d.had holder (x+1)=d.had holder x+d.own holder x:=by
 have hT:=hO.cyc_pos;have hl:d.us.length=d.turns.length:=by simp [Dit.us]
 have hkeys:sumS (addS d.ends d.cyc d.us d.oth holder (x+1)) d.keys=sumS (addS d.ends d.cyc d.us d.oth holder x) d.keys+(d.own holder x-d.has d.us holder (x % d.cyc)):=by
  have h1:=zkh (f:=addS d.ends d.cyc d.us d.oth holder (x+1)) (g:=addS d.ends d.cyc d.us d.oth holder x) (k:=fun c=>if c=x / d.cyc then d.own holder x-d.has d.us holder (x % d.cyc) else 0) (l:=d.keys) (fun c _=>by
   rw [znY hO];unfold Dit.own;by_cases e:c=x / d.cyc
   ·rw [if_pos e,if_pos e,e]
   ·rw [if_neg e,if_neg e])
  rw [h1,zj2 hO.chg.nodup];congr 1;split
  ·rfl
  ·rename_i hn
   unfold Dit.own;rw [zoI hn];omega
 have hu:(x+1).tdiv d.cyc * zaD d.ends d.us holder d.cyc d.us.length+zaD d.ends d.us holder ((x+1).tmod d.cyc) d.us.length=x.tdiv d.cyc * zaD d.ends d.us holder d.cyc d.us.length+zaD d.ends d.us holder (x.tmod d.cyc) d.us.length+d.has d.us holder (x % d.cyc):=by
  rw [Int.tdiv_eq_ediv_of_nonneg hx,Int.tdiv_eq_ediv_of_nonneg (show 0≤x+1 by omega),Int.tmod_eq_emod_of_nonneg hx,Int.tmod_eq_emod_of_nonneg (show 0≤x+1 by omega),hl];obtain⟨q1,q2,q3⟩:=zoK (h:=x) hT;have ps:=zfX hO (l:=d.us) (holder:=holder) (r:=x % d.cyc) (by omega) (by omega);by_cases hc:x % d.cyc+1<d.cyc
  ·obtain⟨e1,e2⟩:=zme (T:=d.cyc) (h:=x+1) (c:=x / d.cyc) hT (by omega)
   rw [e1,e2,show x+1-x / d.cyc * d.cyc=x % d.cyc+1 by omega,ps];omega
  ·have hq:(x / d.cyc+1) * d.cyc=x / d.cyc * d.cyc+d.cyc:=by rw [Int.add_mul];omega
   obtain⟨e1,e2⟩:=zme (T:=d.cyc) (h:=x+1) (c:=x / d.cyc+1) hT (by rw [hq];omega);rw [e1,e2,zd8 hO (r:=x+1-(x / d.cyc+1) * d.cyc) (by rw [hq];omega) _ (Nat.le_refl _),Int.add_mul];rw [show x % d.cyc+1=d.cyc by omega] at ps;generalize x / d.cyc * zaD d.ends d.us holder d.cyc d.turns.length=y;omega
 unfold Dit.had hadS;rw [hkeys];omega
theorem Dit.Ok.had_add {d:Dit} (hO:d.Ok) (holder:Int) {x:Int} (hx:0≤x):∀ n:Nat,d.had holder x≤d.had holder (x+n)∧d.had holder (x+n)≤d.had holder x+n
 | 0=>by simp
 | n+1=>by
  have ih:=hO.had_add holder hx n;have hs:=hO.had_step (holder:=holder) (x:=x+n) (by omega);have e:x+(n+1:Nat)=x+n+1:=by omega
  have:=zp4 d holder (x+n);rw [e,hs];omega
theorem Dit.Ok.had_mono {d:Dit} (hO:d.Ok) (holder:Int) {a b:Int} (ha:0≤a) (hab:a≤b):d.had holder a≤d.had holder b∧d.had holder b≤d.had holder a+(b-a):=by
 have:=hO.had_add holder ha (b-a).toNat;rw [show a+((b-a).toNat:Int)=b by omega] at this;omega
theorem zd3 (d:Dit) (holder a b:Int):d.hoursW holder a b=d.had holder (d.ran b)-d.had holder (d.ran a):=rfl
def Dit.mine (d:Dit) (holder h:Int):Int:=if d.runs h=true then d.own holder (d.ran h) else 0
theorem zby (n low high:Int) (w:World):CallsIn FL 0 Tryd.prog 32 #[num n,num low,num high] w fun e w'=>e=.returned (.bool (decide (low≤n∧n≤high)))∧w'=w:=by
 gi_enter Tryd.func32,Tryd.ntmps32;by_cases h:low≤n
 ·by_cases h2:n≤high
  ·gi_wp2
   go_ret;exact⟨by simp [h,h2],rfl⟩
  ·gi_wp2
   go_ret;exact⟨by simp [h2],rfl⟩
 ·gi_wp2
  go_ret;exact⟨by simp;omega,rfl⟩
theorem zc0 (a b low high:Int) (w:World):CallsIn FL 0 Tryd.prog 33 #[.agg #[num a,num b],num low,num high] w fun e w'=>e=.returned (.bool (decide (low≤a∧a≤b∧b≤high)))∧Nx w w':=by
 gi_enter Tryd.func33,Tryd.ntmps33;by_cases h:low≤a
 ·by_cases h2:a≤b
  ·by_cases h3:b≤high
   ·gi_wp2
    go_ret;exact⟨by simp [h,h2,h3],zaG (Below.refl _ _) _⟩
   ·gi_wp2
    go_ret;exact⟨by simp [h3],zaG (Below.refl _ _) _⟩
  ·gi_wp2
   go_ret;exact⟨by simp;omega,zaG (Below.refl _ _) _⟩
 ·gi_wp2
  go_ret;exact⟨by simp;omega,zaG (Below.refl _ _) _⟩
end Go.Proofs.YtbbanmifdbeneaaDoor

