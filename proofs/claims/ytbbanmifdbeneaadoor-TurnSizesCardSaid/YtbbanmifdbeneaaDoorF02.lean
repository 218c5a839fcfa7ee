import Derived.Test.YtbbanmifdbeneaaDoorF01
import Derived.Laws.IdiomStrings
import Derived.Lib.Hide
set_option linter.all false
set_option maxRecDepth 100000
set_option maxHeartbeats 4000000
open Go.CallsIn renaming mono → jqa
open List renaming getElem?_eq_getElem → jqb, length_map → jqd, getElem?_eq_some_iff → jqe, map_eq_nil_iff → jqg
open Go.RowKit.Below renaming refl → jqc
open Nat renaming not_lt_zero → jqf, lt_succ_iff_lt_or_eq → jqh
namespace Go.Proofs.YtbbanmifdbeneaaDoor
open Go.RowKit
theorem zko {week from_ long h:Int} (hw:0≤week∧week≤1000) (hl:0≤long∧long≤1000) (hf:0≤from_∧from_≤1000) (hr:0<week→long≤week):(zb0 week from_ long h).natAbs≤h.natAbs+1000:=by
 unfold zb0;split
 ·omega
 ·have hp:0<week:=by omega
  have hle:=hr hp;have h1:(h.tdiv week * long).natAbs≤h.natAbs:=by
   rw [Int.natAbs_mul,Int.natAbs_tdiv];have:long.natAbs≤week.natAbs:=by omega
   exact Nat.le_trans (Nat.mul_le_mul_left _ this) (Nat.div_mul_le_self _ _)
  have:=zeq h hp;omega
theorem zj5 {d:Dit} (ht:d.Times) (hr:0<d.week→d.long≤d.week) {a b:Int} (ha : -1000000000000≤a∧a≤1000000000000) (hb : -1000000000000≤b∧b≤1000000000000) :
  -4000000002000≤d.work a b∧d.work a b≤4000000002000:=by
 have h1:=zko (h:=a) ht.week ht.long ht.from_ hr;have h2:=zko (h:=b) ht.week ht.long ht.from_ hr;unfold Dit.work zcZ
 split<;>omega
theorem zix {d:Dit} (ht:d.Times) (hr:0<d.week→d.long≤d.week) {h:Int} (hh : -1000000000000≤h∧h≤1000000000000):∀ k,k≤d.feasts.length→-4000000002000 * (k+1)≤d.ranTo h k∧d.ranTo h k≤4000000002000 * (k+1)
 | 0,_=>by
  have:=zj5 ht hr (a:=d.begin_) (b:=h) (by have:=ht.begin_;omega) hh;rw [Dit.ranTo_zero];omega
 | k+1,hk=>by
  have ih:=zix ht hr hh k (by omega);have hx:d.feasts[k]?=some d.feasts[k]:=jqb (by omega);have hm:=ht.feasts d.feasts[k] (List.getElem_mem _);have:=zj5 ht hr (a:=max d.begin_ d.feasts[k].1) (b:=min h (d.feasts[k].2+1)) (by have:=ht.begin_;omega) (by omega);rw [d.ranTo_succ h hx];omega
theorem zf2 {d:Dit} (ht:d.Times) (hr:0<d.week→d.long≤d.week) {h:Int} (hh : -1000000000000≤h∧h≤1000000000000) : -100000000000000≤d.ran h∧d.ran h≤100000000000000:=by
 have:=zix ht hr hh d.feasts.length (Nat.le_refl _);have hm:=ht.many;rw [d.ranTo_all] at this;omega
theorem zkj {d:Dit} {ends:Nat→Int} {long:Int} {keys:List Int} {oth:Int→List Int} {holder hours:Int} (hy:Cyc d ends long) (hg:Chg d keys oth) (hh : -100000000000000≤hours∧hours≤100000000000000) :
  -2000000000000000000≤hadS ends long (d.turns.map (·.1)) keys oth holder hours∧hadS ends long (d.turns.map (·.1)) keys oth holder hours≤2000000000000000000:=by
 have hl:(d.turns.map (·.1)).length≤12:=by simpa using hy.few.2
 generalize d.turns.map (·.1)=us at hl;have p1:=zbA (l:=us) (holder:=holder) (hours:=long) hy.bd us.length hl;have p2:=zbA (l:=us) (holder:=holder) (hours:=hours.tmod long) hy.bd us.length hl;have hq:=zcg hours long;have hpr:(hours.tdiv long * zaD ends us holder long us.length).natAbs≤100000000000000 * 14400:=zdK (by omega) (by omega);have hab:=zf5 (zmr (ends:=ends) (long:=long) (usual:=us) (oth:=oth) (holder:=holder) (hours:=hours) hy.bd hl) keys;have:=hg.few;unfold hadS;omega
def Dit.hours (d:Dit) (ends:Nat→Int) (long:Int) (keys:List Int) (oth:Int→List Int) (holder a b:Int):Int :=
 hadS ends long (d.turns.map (·.1)) keys oth holder (d.ran b)-hadS ends long (d.turns.map (·.1)) keys oth holder (d.ran a)
theorem ziF (B M:Nat) (d:Dit) (ends:Nat→Int) (long:Int) (keys:List Int) (oth:Int→List Int) (holder a b:Int) (w:World) (hw:Wtr w B M d ends long keys oth) (ht:d.Times) (hr:0<d.week→d.long≤d.week) (hy:Cyc d ends long) (hg:Chg d keys oth)
  (ha : -1000000000000≤a∧a≤1000000000000) (hb : -1000000000000≤b∧b≤1000000000000) :
  CallsIn FL 0 Tryd.prog 31 #[.pointer (some ⟨B,0,none⟩),num holder,num a,num b] w fun e w'=>e=.returned (num (d.hours ends long keys oth holder a b))∧Nx w w':=by
 have key1:∀ (h:Int) (w1:World),Nx w w1→-1000000000000≤h∧h≤1000000000000→CallsIn FL 0 Tryd.prog 54 #[.pointer (some ⟨B,0,none⟩),num h] w1 fun e w'=>e=.returned (num (d.ran h))∧Nx w w' :=
  fun h w1 n1 hh=>(zmA B d h w1 (hw.nx n1).wat.dit ht hh).mono fun e w' ⟨x,y⟩=>⟨x,Nx.trans n1 y⟩
 have key2:∀ (h:Int) (w1:World),Nx w w1→-100000000000000≤h∧h≤100000000000000→CallsIn FL 0 Tryd.prog 53 #[.pointer (some ⟨B,0,none⟩),num holder,num h] w1 fun e w'=>e=.returned (num (hadS ends long (d.turns.map (·.1)) keys oth holder h))∧Nx w w' :=
  fun h w1 n1 hh=>(zoU B M d ends long keys oth holder h w1 (hw.nx n1) hy hg hh).mono fun e w' ⟨x,y⟩=>⟨x,Nx.trans n1 y⟩
 have ra:=zf2 ht hr ha;have rb:=zf2 ht hr hb;have da:=zkj (holder:=holder) hy hg ra;have db:=zkj (holder:=holder) hy hg rb;have n0:Nx w w:=jqc _ _;gi_enter Tryd.func31,Tryd.ntmps31
 gi_wp2_with (first
  | (gi_at_call 54;refine jqa (key1 _ _ (by assumption) (by assumption)) ?_;rintro e w1 ⟨rfl,n1⟩)
  | (gi_at_call 53;refine jqa (key2 _ _ (by assumption) (by assumption)) ?_;rintro e w1 ⟨rfl,n1⟩))
 go_ret;exact⟨rfl,by assumption⟩
def zbz (g:Int→Bool):Nat→Int→Int→Int
 | 0,lo,_=>lo
 | f+1,lo,hi=>if lo<hi then (if g (lo+(hi-lo).tdiv 2) then zbz g f lo (lo+(hi-lo).tdiv 2) else zbz g f (lo+(hi-lo).tdiv 2+1) hi) else lo
theorem zm8 (cap:Array Value) (g:Int→Bool) (lo hi:Int) (w:World) (hb:0≤lo∧lo≤hi∧hi≤1000000000)
  (hg:∀ n w1,Nx w w1→lo≤n→n<hi→CallsIn FL 0 Tryd.prog 47 (#[num n]++cap) w1 fun e w'=>e=.returned (.bool (g n))∧Nx w w') :
  CallsIn FL 0 Tryd.prog 46 #[num lo,num hi,.func (.func 47) #[] cap] w fun e w'=>e=.returned (num (zbz g (hi-lo).toNat lo hi))∧Nx w w':=by
 gi_enter Tryd.func46,Tryd.ntmps46;gi_wp2
 gi_loopw [0,1] (fun a b wr=>∃ (l h:Int) (f:Nat),a=num l∧b=num h∧lo≤l∧l≤h∧h≤hi∧(h-l).toNat≤f∧zbz g f l h=zbz g (hi-lo).toNat lo hi∧Nx w wr) (fun a b _=>(intOf b-intOf a).toNat)
 case atStart=>exact⟨lo,hi,_,rfl,rfl,by omega,by omega,by omega,Nat.le_refl _,rfl,jqc _ _⟩
 case round =>
  obtain⟨l,h,f,rfl,rfl,h1,h2,h3,h4,h5,n1⟩:=hrel;by_cases hlt:l<h
  ·obtain⟨f',rfl⟩:∃ f',f=f' + 1:=⟨f-1,by omega⟩
   rw [zbz,if_pos hlt] at h5;have hd:0≤(h-l).tdiv 2∧(h-l).tdiv 2<h-l:=by
    rw [Int.tdiv_eq_ediv_of_nonneg (by omega)];omega
   have key:=fun w1 n1=>hg (l+(h-l).tdiv 2) w1 n1 (by omega) (by omega);have H5:Hid _:=h5;clear hg h5;generalize hm:l+(h-l).tdiv 2=m at key H5
   gi_wp2_with (first | (gi_at_call 47;refine jqa (key _ (by assumption)) ?_;rintro e w1 ⟨rfl,n1⟩) | gi_in)
   ·rename_i hgm
    have H6:(if g m=true then zbz g f' l m else zbz g f' (m+1) h)=zbz g (hi-lo).toNat lo hi:=H5;rw [if_pos hgm] at H6;exact⟨⟨l,m,f',rfl,rfl,h1,by omega,by omega,by omega,H6,n1⟩,by simp [intOf];omega⟩
   ·rename_i hgm
    have H6:(if g m=true then zbz g f' l m else zbz g f' (m+1) h)=zbz g (hi-lo).toNat lo hi:=H5;rw [if_neg (by rw [hgm];simp)] at H6;exact⟨⟨m+1,h,f',rfl,rfl,by omega,by omega,h3,by omega,H6,n1⟩,by simp [intOf];omega⟩
  ·have e:zbz g f l h=l:=by
    cases f with
    | zero=>rfl
    | succ f=>rw [zbz,if_neg hlt]
   rw [e] at h5;have H5:Hid _:=h5;clear h5;gi_wp2;go_ret;exact⟨congrArg (fun n=>Ending.returned (num n)) H5,n1⟩
def zbq (a b:Int):Int:=if ¬ (0≤a∧a≤999999999)∨¬ (0≤b∧b≤999999999) then 1 else if b<a then 7 else 0
theorem zjT (a b:Int) (w:World):CallsIn FL 0 Tryd.prog 52 #[num a,num b] w fun e w'=>e=.returned (num (zbq a b))∧w'=w:=by
 have key:=fun n=>zbc n 0 999999999 w;by_cases ha:0≤a∧a≤999999999
 ·by_cases hb:0≤b∧b≤999999999
  ·by_cases hab:b<a
   ·gi_enter Tryd.func52,Tryd.ntmps52
    gi_wp2_with (gi_at_call 40;refine jqa (key _) ?_;rintro e w1 ⟨rfl,rfl⟩)
    go_ret;exact⟨by simp [zbq,ha,hb,hab],rfl⟩
   ·gi_enter Tryd.func52,Tryd.ntmps52
    gi_wp2_with (gi_at_call 40;refine jqa (key _) ?_;rintro e w1 ⟨rfl,rfl⟩)
    go_ret;exact⟨by simp [zbq,ha,hb,hab],rfl⟩
  ·gi_enter Tryd.func52,Tryd.ntmps52
   gi_wp2_with (gi_at_call 40;refine jqa (key _) ?_;rintro e w1 ⟨rfl,rfl⟩)
   go_ret;exact⟨by simp [zbq,ha,hb],rfl⟩
 ·gi_enter Tryd.func52,Tryd.ntmps52
  gi_wp2_with (gi_at_call 40;refine jqa (key _) ?_;rintro e w1 ⟨rfl,rfl⟩)
  go_ret;exact⟨by simp [zbq,ha],rfl⟩
theorem zlE (B M p q r:Nat) (d:Dit) (ends:Nat→Int) (long:Int) (keys:List Int) (oth:Int→List Int) (holder a n:Int) (w:World) (hw:Wtr w B M d ends long keys oth) (ht:d.Times) (hr:0<d.week→d.long≤d.week) (hy:Cyc d ends long) (hg:Chg d keys oth)
  (hp:w.cell? ⟨p,0,none⟩=some (.pointer (some ⟨B,0,none⟩))) (hq:w.cell? ⟨q,0,none⟩=some (num holder)) (hr2:w.cell? ⟨r,0,none⟩=some (num a)) (ha:0≤a∧a≤999999999) (hn:0≤n∧n≤1000000000) :
  CallsIn FL 0 Tryd.prog 47 #[num n,.pointer (some ⟨p,0,none⟩),.pointer (some ⟨q,0,none⟩),.pointer (some ⟨r,0,none⟩)] w fun e w'=>e=.returned (.bool (decide (d.hours ends long keys oth holder a (n+1) > 0)))∧Nx w w':=by
 have key:=ziF B M d ends long keys oth holder a (n+1) w hw ht hr hy hg (by omega) (by omega);clear hw;gi_enter Tryd.func47,Tryd.ntmps47
 gi_wp2_with (gi_at_call 31;refine jqa key ?_;rintro e w1 ⟨rfl,n1⟩)
 go_ret;exact⟨rfl,n1⟩
theorem Sl.cases {w:World} {v:Value} {sz:Nat} {xs:List (List Value)} (h:Sl w v sz xs):∃ a cap,v=.slice a xs.length cap:=by
 obtain⟨cap,⟨rfl,rfl⟩ | ⟨b,off,rfl,_⟩⟩:=h
 ·exact⟨none,cap,rfl⟩
 ·exact⟨_,cap,rfl⟩
theorem zb6 (B:Nat) (d:Dit) (n:Int) (w:World) (hd:DitAt w B 0 d) (hl:d.holders.length≤1000000000) :
  CallsIn FL 0 Tryd.prog 51 #[.pointer (some ⟨B,0,none⟩),num n] w fun e w'=>e=.returned (.bool (decide (0≤n∧n≤d.holders.length-1)))∧w'=w:=by
 obtain⟨v,c0,hv⟩:=hd.holders;obtain⟨a,cap,rfl⟩:=hv.cases;rw [jqd] at c0;have key:=fun h=>zbc n 0 h w;clear hv hd;gi_enter Tryd.func51,Tryd.ntmps51
 gi_wp2_with (gi_at_call 40;refine jqa (key _) ?_;rintro e w1 ⟨rfl,rfl⟩)
 go_ret;exact⟨by simp,rfl⟩
theorem zlg (B:Nat) (d:Dit) (n:Int) (w:World) (hd:DitAt w B 0 d) (hl:d.turns.length≤1000000000) :
  CallsIn FL 0 Tryd.prog 98 #[.pointer (some ⟨B,0,none⟩),num n] w fun e w'=>e=.returned (.bool (decide (0≤n∧n≤d.turns.length-1)))∧w'=w:=by
 obtain⟨v,c0,hv⟩:=hd.turns;obtain⟨a,cap,rfl⟩:=hv.cases;rw [jqd] at c0;have key:=fun h=>zbc n 0 h w;clear hv hd;gi_enter Tryd.func98,Tryd.ntmps98
 gi_wp2_with (gi_at_call 40;refine jqa (key _) ?_;rintro e w1 ⟨rfl,rfl⟩)
 go_ret;exact⟨by simp,rfl⟩
theorem zcK (x y low high:Int) (w:World):CallsIn FL 0 Tryd.prog 63 #[.agg #[num x,num y],num low,num high] w fun e w'=>e=.returned (.bool (decide (low≤x∧x≤y∧y≤high)))∧Nx w w':=by
 have n0:∀ o,Nx w (w.alloc o):=fun o=>(jqc _ _).alloc (Nat.le_refl _) o;by_cases h1:low≤x
 ·by_cases h2:x≤y
  ·gi_enter Tryd.func63,Tryd.ntmps63
   gi_wp2;go_ret;exact⟨by simp [h1,h2],n0 _⟩
  ·gi_enter Tryd.func63,Tryd.ntmps63
   gi_wp2;go_ret;exact⟨by simp;omega,n0 _⟩
 ·gi_enter Tryd.func63,Tryd.ntmps63
  gi_wp2;go_ret;exact⟨by simp;omega,n0 _⟩
def badB (c:Int):Bool:=decide ((c<97∨122<c)∧(c<48∨57<c)∧¬ c=45)
abbrev byte (c:Int):Value:=.int .u8 c
theorem znx (c:Int) (w:World):CallsIn FL 0 Tryd.prog 102 #[byte c] w fun e w'=>e=.returned (.bool (badB c))∧w'=w:=by
 have fin:∀ {b:Bool},((c<97∨122<c)∧(c<48∨57<c)∧¬ c=45↔b=true)→Ending.returned (.bool b)=.returned (.bool (badB c)):=by
  intro b h;unfold badB
  cases b with
  | true=>rw [decide_eq_true (h.2 rfl)]
  | false=>rw [decide_eq_false (fun h'=>by have:=h.1 h';cases this)]
 gi_enter Tryd.func102,Tryd.ntmps102;by_cases h1:c<97
 ·by_cases h2:c<48
  ·by_cases h4:c=45
   ·subst h4
    gi_wp2;go_ret;exact⟨rfl,rfl⟩
   ·have h5:(c != 45)=true:=by simpa using h4
    gi_wp2;go_ret;exact⟨fin (by simp;omega),rfl⟩
  ·by_cases h3:57<c
   ·have h5:(c != 45)=true:=by simp;omega
    gi_wp2;go_ret;exact⟨fin (by simp;omega),rfl⟩
   ·gi_wp2
    go_ret;exact⟨fin (by simp;omega),rfl⟩
 ·by_cases h2:122<c
  ·have h3:57<c:=by omega
   have h4:¬ c<48:=by omega
   have h5:(c != 45)=true:=by simp;omega
   gi_wp2;go_ret;exact⟨fin (by simp;omega),rfl⟩
  ·gi_wp2
   go_ret;exact⟨fin (by simp;omega),rfl⟩
def idxOf {α:Type} (p:α→Bool) (l:List α):Int:=match l.findIdx? p with | some i=>i | none=>-1
theorem zeg {α:Type} {p:α→Bool} {l:List α} (h:∀ (j:Nat) (x:α),j<l.length→l[j]?=some x→p x=false):idxOf p l=-1:=by
 unfold idxOf;rw [List.findIdx?_eq_none_iff.2 fun x hx=>by
  obtain⟨j,hj,rfl⟩:=List.getElem_of_mem hx;exact h j _ hj (jqb hj)]
theorem zd5 {α:Type} {p:α→Bool} {l:List α} {k:Nat} {x:α} (hk:l[k]?=some x) (hp:p x=true) (h:∀ (j:Nat) (x:α),j<k→l[j]?=some x→p x=false):idxOf p l=k:=by
 unfold idxOf;obtain⟨hlt,rfl⟩:=jqe.1 hk;rw [List.findIdx?_eq_some_iff_getElem.2 ⟨hlt,hp,fun j hj=>by rw [h j _ hj (jqb (by omega))];simp⟩]
theorem zeH {α:Type} (p:α→Bool) (l:List α):decide (0≤idxOf p l)=l.any p:=by
 unfold idxOf
 cases h:l.findIdx? p with
 | none =>
  have:l.any p=false:=by
   rw [List.any_eq_false];intro x hx;have:=List.findIdx?_eq_none_iff.1 h x hx;simp [this]
  rw [this];rfl
 | some i =>
  obtain⟨hlt,hp,_⟩:=List.findIdx?_eq_some_iff_getElem.1 h;have:l.any p=true:=List.any_eq_true.2 ⟨_,List.getElem_mem hlt,hp⟩;rw [this];simp
theorem zhA {α:Type} (p:α→Bool) (l:List α) : -1≤idxOf p l:=by
 unfold idxOf;split<;>omega
theorem zit (v:Value) (l:List Int) (w:World) (hv:Sl w v 1 (l.map fun c=>[byte c])) (hl:l.length≤1000000000) :
  CallsIn FL 0 Tryd.prog 105 #[v,.func (.func 102) #[] #[]] w fun e w'=>e=.returned (num (idxOf badB l))∧w'=w:=by
 have key:=fun c=>znx c w;obtain⟨cap,⟨hn,rfl⟩ | ⟨b,off,rfl,hbl,hcl⟩⟩:=hv
 ·gi_enter Tryd.func105,Tryd.ntmps105
  gi_wp2
  gi_loopw [5,8] (fun _ i wr=>i=num 0∧wr=w) (fun _ _ _=>0)
  case atStart=>exact⟨rfl,rfl⟩
  case round =>
   obtain⟨rfl,rfl⟩:=hrel;gi_wp2;go_ret;have hf:l=[]:=jqg.1 hn;exact⟨by rw [hf];rfl,rfl⟩
 ·rw [jqd] at *
  gi_enter Tryd.func105,Tryd.ntmps105;gi_wp2
  gi_loopw [5,8] (fun _ i wr=>∃ k:Nat,k≤l.length∧i=num k∧(∀ (j:Nat) (x:Int),j<k→l[j]?=some x→badB x=false)∧wr=w) (fun _ i _=>l.length-(intOf i).toNat)
  case atStart=>exact⟨0,Nat.zero_le _,rfl,fun _ _ h=>absurd h (jqf _),rfl⟩
  case round =>
   obtain⟨k,hk,rfl,hno,rfl⟩:=hrel;by_cases hlt:k<l.length
   ·have g1:wr.cell? ⟨b,off+k,none⟩=some (byte l[k]):=by
     have:=hcl k 0 [byte l[k]] _ (by simp [hlt]) rfl
     rwa [Nat.mul_one] at this
    have hx:l[k]?=some l[k]:=jqb hlt;have HX:Hid _:=hx;have HN:Hid (∀ (j:Nat) (x:Int),j<k→l[j]?=some x→badB x=false):=hno;clear hno hcl hx;generalize hxk:l[k]=x at g1 HX;clear hxk
    gi_wp2_with (first | (gi_at_call 102;refine jqa (key _) ?_;rintro e w1 ⟨rfl,rfl⟩) | gi_in)
    ·rename_i hb
     go_ret;exact⟨by rw [zd5 (show l[k]?=some x from HX) hb HN];rfl,rfl⟩
    ·rename_i hb
     refine⟨⟨k+1,hlt,by simp,?_,trivial⟩,by simp [intOf];omega⟩;intro j y hj hy;rcases jqh.1 hj with hj | rfl
     ·exact HN j y hj hy
     ·have hz:l[j]?=some x:=HX
      rw [hz] at hy;cases hy
      exact hb
   ·obtain rfl:k=l.length:=by omega
    have HN:Hid (∀ (j:Nat) (x:Int),j<l.length→l[j]?=some x→badB x=false):=hno;clear hno hcl;gi_wp2;go_ret;exact⟨by rw [zeg HN];rfl,rfl⟩
theorem zgM (v:Value) (l:List Int) (w:World) (hv:Sl w v 1 (l.map fun c=>[byte c])) (hl:l.length≤1000000000) :
  CallsIn FL 0 Tryd.prog 101 #[v,.func (.func 102) #[] #[]] w fun e w'=>e=.returned (.bool (l.any badB))∧w'=w:=by
 have key:=zit v l w hv hl;have h1:=zeH badB l;have h2:=zhA badB l;generalize idxOf badB l=n at key h1 h2;generalize l.any badB=r at h1;subst h1;clear hv;gi_enter Tryd.func101,Tryd.ntmps101
 gi_wp2_with (gi_at_call 105;refine jqa key ?_;rintro e w1 ⟨rfl,rfl⟩)
 go_ret;exact⟨by simp,rfl⟩
def bytes (s:List UInt8):List Int:=s.map fun b=>(b.toNat:Int)
def zg2 (s:List UInt8):Int:=((bytes s)[0]?).getD 0
def zbu (s:List UInt8):Bool:=decide (1≤s.length∧s.length≤14) && (decide (97≤zg2 s) && decide (zg2 s≤122) && !(bytes s).any badB)
theorem zmI (s:List UInt8) (w:World):∃ v W1,(convert 9 158 (str s)).run Tryd.prog w=.ok v W1∧Nx w W1∧Sl W1 v 1 ((bytes s).map fun c=>[byte c]):=by
 refine⟨_,_,run_bytes_of_string (P:=Tryd.prog) w 9 158 5 ⟨s.toArray⟩ Tryd.underlying9 Tryd.underlying158 Tryd.underlying5,?_,?_⟩
 ·exact (Below.drew (jqc _ _)).alloc (Nat.le_refl _) _
 ·refine⟨grownCap w (ByteArray.size ⟨s.toArray⟩) 0 5,.inr ⟨w.heap.size,0,?_,by simp,fun j k l x hj hk=>?_⟩⟩
  ·congr 1
   simp [bytes,ByteArray.size]
  ·rw [List.getElem?_map] at hj
   have hx:=bytesRow_at ⟨s.toArray⟩ (grownCap w (ByteArray.size ⟨s.toArray⟩) 0 5) j;unfold bytes at hj;rw [List.getElem?_map] at hj
   cases hs:s[j]? with
   | none=>rw [hs] at hj;cases hj
   | some c =>
    rw [hs] at hj;simp only [Option.map_some,Option.some.injEq] at hj;subst hj
    cases k with
    | zero =>
     simp at hk;subst hk;obtain⟨hlt,rfl⟩:=jqe.1 hs;have:=hx (by simpa using hlt);have e:=World.cell?_alloc_mark w.drew (bytesRow ⟨s.toArray⟩ (grownCap w (ByteArray.size ⟨s.toArray⟩) 0 5)) 5 ((bytesRow ⟨s.toArray⟩ (grownCap w (ByteArray.size ⟨s.toArray⟩) 0 5)).size,(bytesRow ⟨s.toArray⟩ (grownCap w (ByteArray.size ⟨s.toArray⟩) 0 5)).size+1) j;simp only [Nat.zero_add,Nat.mul_one,Nat.add_zero];exact e.trans (this.trans (by simp))
    | succ k=>simp at hk
theorem zki {s:List UInt8} (h:0<s.length):(({ data:=s.toArray }:ByteArray)[0]'(by simpa [ByteArray.size] using h)).toNat=zg2 s:=by
 have hx:s[0]?=some s[0]:=jqb h;have:(({ data:=s.toArray }:ByteArray)[0]'(by simpa [ByteArray.size] using h))=s[0]:=rfl;rw [this];simp [zg2,bytes,hx]
theorem zin (s:List UInt8) (w:World) (hl:s.length≤1000000000):CallsIn FL 0 Tryd.prog 96 #[str s] w fun e w'=>e=.returned (.bool (zbu s))∧Nx w w':=by
 have key0:=fun n=>zbc n 1 14 w;obtain⟨v,W1,hrun,nx,hsl⟩:=zmI s w;have key1:=zgM v (bytes s) W1 hsl (by simpa [bytes] using hl);have n0:Nx w w:=jqc _ _;clear hsl;gi_enter Tryd.func96,Tryd.ntmps96;by_cases hlen:1≤s.length∧s.length≤14
 ·have H:Hid (zbu s=(decide (97≤zg2 s) && decide (zg2 s≤122) && !(bytes s).any badB)):=by unfold zbu Hid;simp [hlen]
  have HB:=@zki s (by omega);generalize zg2 s=c at H HB;generalize (bytes s).any badB=r at H key1;by_cases h1:97≤c
  ·by_cases h2:c≤122
   ·gi_wp2_with (first | (gi_at_call 40;refine jqa (key0 _) ?_;rintro e w1 ⟨rfl,rfl⟩) | (gi_at_call 101;refine jqa key1 ?_;rintro e w1 ⟨rfl,rfl⟩) | gi_in)
    go_ret;exact⟨congrArg (fun b=>Ending.returned (.bool b)) (by rw [show zbu s=_ from H];simp [h1,h2]),nx⟩
   ·gi_wp2_with (first | (gi_at_call 40;refine jqa (key0 _) ?_;rintro e w1 ⟨rfl,rfl⟩) | gi_in)
    go_ret;exact⟨congrArg (fun b=>Ending.returned (.bool b)) (by rw [show zbu s=_ from H];simp;omega),n0⟩
  ·gi_wp2_with (first | (gi_at_call 40;refine jqa (key0 _) ?_;rintro e w1 ⟨rfl,rfl⟩) | gi_in)
   go_ret;exact⟨congrArg (fun b=>Ending.returned (.bool b)) (by rw [show zbu s=_ from H];simp;omega),n0⟩
 ·have H:Hid (zbu s=false):=by unfold zbu Hid;simp [hlen]
  gi_wp2_with (first | (gi_at_call 40;refine jqa (key0 _) ?_;rintro e w1 ⟨rfl,rfl⟩) | gi_in)
  all_goals (go_ret;exact⟨congrArg (fun b=>Ending.returned (.bool b)) (by rw [show zbu s=_ from H]),n0⟩)
theorem ziT (v:Value) (l:List (List UInt8)) (s:List UInt8) (w:World) (hv:Sl w v 1 (l.map fun c=>[str c])) (hl:l.length≤1000000000) :
  CallsIn FL 0 Tryd.prog 103 #[v,str s] w fun e w'=>e=.returned (num (idxOf (fun x=>decide (x=s)) l))∧w'=w:=by
 obtain⟨cap,⟨hn,rfl⟩ | ⟨b,off,rfl,hbl,hcl⟩⟩:=hv
 ·gi_enter Tryd.func103,Tryd.ntmps103
  gi_wp2
  gi_loopw [5,8] (fun _ i wr=>i=num 0∧wr=w) (fun _ _ _=>0)
  case atStart=>exact⟨rfl,rfl⟩
  case round =>
   obtain⟨rfl,rfl⟩:=hrel;gi_wp2;go_ret;have hf:l=[]:=jqg.1 hn;exact⟨by rw [hf];rfl,rfl⟩
 ·rw [jqd] at *
  gi_enter Tryd.func103,Tryd.ntmps103;gi_wp2
  gi_loopw [5,8] (fun _ i wr=>∃ k:Nat,k≤l.length∧i=num k∧(∀ (j:Nat) (x:List UInt8),j<k→l[j]?=some x→decide (x=s)=false)∧wr=w) (fun _ i _=>l.length-(intOf i).toNat)
  case atStart=>exact⟨0,Nat.zero_le _,rfl,fun _ _ h=>absurd h (jqf _),rfl⟩
  case round =>
   obtain⟨k,hk,rfl,hno,rfl⟩:=hrel;by_cases hlt:k<l.length
   ·have g1:wr.cell? ⟨b,off+k,none⟩=some (str l[k]):=by
     have:=hcl k 0 [str l[k]] _ (by simp [hlt]) rfl
     rwa [Nat.mul_one] at this
    have hx:l[k]?=some l[k]:=jqb hlt;have HX:Hid _:=hx;have HN:Hid (∀ (j:Nat) (x:List UInt8),j<k→l[j]?=some x→decide (x=s)=false):=hno;clear hno hcl hx;generalize hxk:l[k]=x at g1 HX;clear hxk;gi_wp2
    ·rename_i hb
     go_ret;exact⟨by rw [zd5 (show l[k]?=some x from HX) (decide_eq_true (beq_iff_eq.1 hb).symm) HN];rfl,rfl⟩
    ·rename_i hb
     refine⟨⟨k+1,hlt,by simp,?_,trivial⟩,by simp [intOf];omega⟩;intro j y hj hy;rcases jqh.1 hj with hj | rfl
     ·exact HN j y hj hy
     ·have hz:l[j]?=some x:=HX
      rw [hz] at hy;cases hy
      exact decide_eq_false fun e=>by rw [e] at hb;simp at hb
   ·obtain rfl:k=l.length:=by omega
    have HN:Hid (∀ (j:Nat) (x:List UInt8),j<l.length→l[j]?=some x→decide (x=s)=false):=hno;clear hno hcl;gi_wp2;go_ret;exact⟨by rw [zeg HN];rfl,rfl⟩
theorem zf9 (v:Value) (l:List (List UInt8)) (s:List UInt8) (w:World) (hv:Sl w v 1 (l.map fun c=>[str c])) (hl:l.length≤1000000000) :
  CallsIn FL 0 Tryd.prog 97 #[v,str s] w fun e w'=>e=.returned (.bool (l.any fun x=>decide (x=s)))∧w'=w:=by
 have key:=ziT v l s w hv hl;have h1:=zeH (fun x=>decide (x=s)) l;have h2:=zhA (fun x=>decide (x=s)) l;generalize idxOf (fun x=>decide (x=s)) l=n at key h1 h2;generalize l.any (fun x=>decide (x=s))=r at h1;subst h1;clear hv;gi_enter Tryd.func97,Tryd.ntmps97
 gi_wp2_with (gi_at_call 103;refine jqa key ?_;rintro e w1 ⟨rfl,rfl⟩)
 go_ret;exact⟨by simp,rfl⟩
abbrev Plot.val (p:Plot):Value:=.agg #[str p.name,num p.holder,num p.far,num p.low,num p.high,num p.worth]
theorem zje (q:Nat) (p o:Plot) (w:World) (hq:w.cell? ⟨q,0,none⟩=some (str p.name)) (hlt:q<w.heap.size) :
  CallsIn FL 0 Tryd.prog 100 #[o.val,.pointer (some ⟨q,0,none⟩)] w fun e w'=>e=.returned (.bool (decide (o.name=p.name)))∧Nx w w':=by
 obtain⟨n,h,f,x,y,wo⟩:=o;obtain⟨n',h',f',x',y',wo'⟩:=p;dsimp only at hq ⊢;gi_enter Tryd.func100,Tryd.ntmps100;have hq' : ∀ o,(w.alloc o).cell? ⟨q,0,none⟩=some (str n'):=fun o=>(World.cell?_alloc_old _ _ _ (Nat.ne_of_lt hlt)).trans hq;gi_wp2;go_ret;exact⟨congrArg (fun b=>Ending.returned (.bool b)) (by rw [Bool.eq_iff_iff];simp),(jqc _ _).alloc (Nat.le_refl _) _⟩
theorem ziD (v:Value) (l:List Plot) (q:Nat) (p:Plot) (w:World) (hv:Sl w v 6 (l.map Plot.cells)) (hl:l.length≤1000000000) (hq:w.cell? ⟨q,0,none⟩=some (str p.name)) (hql:q<w.heap.size) :
  CallsIn FL 0 Tryd.prog 104 #[v,.func (.func 100) #[] #[.pointer (some ⟨q,0,none⟩)]] w fun e w'=>e=.returned (num (idxOf (fun o:Plot=>decide (o.name=p.name)) l))∧Nx w w':=by
 have key:∀ (o:Plot) (w1:World),Nx w w1→CallsIn FL 0 Tryd.prog 100 #[o.val,.pointer (some ⟨q,0,none⟩)] w1 fun e w'=>e=.returned (.bool (decide (o.name=p.name)))∧Nx w w' :=
  fun o w1 n1=>(zje q p o w1 ((n1.cell (by exact hql)).trans hq) (Nat.lt_of_lt_of_le hql n1.size)).mono fun e w' ⟨x,y⟩=>⟨x,Nx.trans n1 y⟩
 obtain⟨cap,⟨hn,rfl⟩ | ⟨b,off,rfl,hbl,hcl⟩⟩:=hv
 ·clear key
  gi_enter Tryd.func104,Tryd.ntmps104;gi_wp2
  gi_loopw [5,8] (fun _ i wr=>i=num 0∧wr=w) (fun _ _ _=>0)
  case atStart=>exact⟨rfl,rfl⟩
  case round =>
   obtain⟨rfl,rfl⟩:=hrel;gi_wp2;go_ret;have hf:l=[]:=jqg.1 hn;exact⟨by rw [hf];rfl,jqc _ _⟩
 ·rw [jqd] at *
  gi_enter Tryd.func104,Tryd.ntmps104;gi_wp2
  gi_loopw [5,8] (fun _ i wr=>∃ k:Nat,k≤l.length∧i=num k∧(∀ (j:Nat) (x:Plot),j<k→l[j]?=some x→decide (x.name=p.name)=false)∧Nx w wr) (fun _ i _=>l.length-(intOf i).toNat)
  case atStart=>exact⟨0,Nat.zero_le _,rfl,fun _ _ h=>absurd h (jqf _),jqc _ _⟩
  case round =>
   obtain⟨k,hk,rfl,hno,n2⟩:=hrel;by_cases hlt:k<l.length
   ·have hx:l[k]?=some l[k]:=jqb hlt
    have HX:Hid _:=hx;have HN:Hid (∀ (j:Nat) (x:Plot),j<k→l[j]?=some x→decide (x.name=p.name)=false):=hno;have g:∀ (j:Nat) (y:Value),(Plot.cells l[k])[j]?=some y→wr.cell? ⟨b,off+k * 6+j,none⟩=some y:=fun j y hj =>
     (n2.cell (by exact hbl)).trans (hcl k j (Plot.cells l[k]) y (by simp [hlt]) hj)
    clear hno hcl hx;generalize hxk:l[k]=x at HX g;clear hxk;have key1:=key x;obtain⟨n,h,f,x1,x2,wo⟩:=x;have g0:=g 0 _ rfl;rw [Nat.add_zero] at g0;have g1:=g 1 _ rfl;have g2:=g 2 _ rfl;have g3:=g 3 _ rfl;have g4:=g 4 _ rfl;have g5:=g 5 _ rfl;dsimp only at g0 g1 g2 g3 g4 g5;clear g key
    gi_wp2_with (first | (gi_at_call 100;refine jqa (key1 _ (by assumption)) ?_;rintro e w1 ⟨rfl,n1⟩) | gi_in)
    ·rename_i hb
     go_ret;exact⟨by rw [zd5 (show l[k]?=some _ from HX) (decide_eq_true hb) HN];rfl,by assumption⟩
    ·rename_i hb
     refine⟨⟨k+1,hlt,by simp,?_,by assumption⟩,by simp [intOf];omega⟩;intro j y hj hy;rcases jqh.1 hj with hj | rfl
     ·exact HN j y hj hy
     ·have hz:l[j]?=some _:=HX
      rw [hz] at hy;cases hy
      exact decide_eq_false hb
   ·obtain rfl:k=l.length:=by omega
    have HN:Hid (∀ (j:Nat) (x:Plot),j<l.length→l[j]?=some x→decide (x.name=p.name)=false):=hno;clear hno hcl key;gi_wp2;go_ret;exact⟨by rw [zeg HN];rfl,n2⟩
theorem zgd (v:Value) (l:List Plot) (q:Nat) (p:Plot) (w:World) (hv:Sl w v 6 (l.map Plot.cells)) (hl:l.length≤1000000000) (hq:w.cell? ⟨q,0,none⟩=some (str p.name)) (hql:q<w.heap.size) :
  CallsIn FL 0 Tryd.prog 99 #[v,.func (.func 100) #[] #[.pointer (some ⟨q,0,none⟩)]] w fun e w'=>e=.returned (.bool (l.any fun o:Plot=>decide (o.name=p.name)))∧Nx w w':=by
 have key:=ziD v l q p w hv hl hq hql;have h1:=zeH (fun o:Plot=>decide (o.name=p.name)) l;have h2:=zhA (fun o:Plot=>decide (o.name=p.name)) l;generalize idxOf (fun o:Plot=>decide (o.name=p.name)) l=n at key h1 h2;generalize l.any (fun o:Plot=>decide (o.name=p.name))=r at h1;subst h1;clear hv;gi_enter Tryd.func99,Tryd.ntmps99
 gi_wp2_with (gi_at_call 104;refine jqa key ?_;rintro e w1 ⟨rfl,n1⟩)
 go_ret;exact⟨by simp,n1⟩
def scan {α:Type} (f:Nat→α→Int):Nat→List α→Int
 | _,[]=>0
 | i,x :: l=>if f i x=0 then scan f (i+1) l else f i x
theorem zbL {α:Type} {f:Nat→α→Int} {l:List α} {k:Nat} {x:α} {r:Int} (hk:l[k]?=some x) (h:f k x=0) (H:r=scan f k (l.drop k)):r=scan f (k+1) (l.drop (k+1)):=by
 obtain⟨hlt,rfl⟩:=jqe.1 hk;rw [H,List.drop_eq_getElem_cons hlt,scan,if_pos h]
theorem za4 {α:Type} {f:Nat→α→Int} {l:List α} {k:Nat} {x:α} {r:Int} (hk:l[k]?=some x) (h:f k x≠0) (H:r=scan f k (l.drop k)):r=f k x:=by
 obtain⟨hlt,rfl⟩:=jqe.1 hk;rw [H,List.drop_eq_getElem_cons hlt,scan,if_neg h]
theorem zbi {α:Type} {f:Nat→α→Int} {l:List α} {r:Int} (H:r=scan f l.length (l.drop l.length)):r=0:=by
 rw [H,List.drop_length];rfl
theorem zcv {α:Type} {f:Nat→α→Int}:∀ {l:List α} {i:Nat},scan f i l=0→∀ j x,l[j]?=some x→f (i+j) x=0
 | [],_,_,j,x,h=>by simp at h
 | y :: l,i,H,j,x,h=>by
  rw [scan] at H
  split at H
  ·rename_i h0
   cases j with
   | zero=>simp at h;subst h;exact h0
   | succ j =>
    have:=zcv H j x (by simpa using h)
    rwa [show i+(j+1)=i+1+j by omega]
  ·rename_i h0;exact absurd H h0
def zbp (l:List (List UInt8)) (i:Nat) (s:List UInt8):Int:=if zbu s then (if (l.take i).any fun x=>decide (x=s) then 5 else 0) else 4
def zdl (h:Nat) (_:Nat) (t:Int×Int):Int:=if 0≤t.1∧t.1≤(h:Int)-1 then (if 1≤t.2∧t.2≤100 then 0 else 1) else 6
def zaI (d:Dit):Int :=
 if d.holders.length > 6 then 2 else
 if scan (zbp d.holders) 0 d.holders≠0 then scan (zbp d.holders) 0 d.holders else
 if ¬ (1≤d.turns.length∧d.turns.length≤12) then 2 else scan (zdl d.holders.length) 0 d.turns
structure Dit.Small (d:Dit):Prop where
 h:d.holders.length≤1000000000
 t:d.turns.length≤1000000000
 f:d.feasts.length≤1000000000
 s:d.swaps.length≤1000000000
 l:d.loans.length≤1000000000
 p:d.plots.length≤1000000000
 hn:∀ s∈d.holders,s.length≤1000000000
 pn:∀ p∈d.plots,p.name.length≤1000000000
theorem Sl.one {w:World} {b off:Nat} {α:Type} {enc:α→Value} {l:List α} (hcl:∀ (j k:Nat) (z:List Value) (x:Value),(l.map fun x=>[enc x])[j]?=some z→z[k]?=some x→w.cell? ⟨b,off+j * 1+k,none⟩=some x) {k:Nat} {x:α} (hk:l[k]?=some x) :
  w.cell? ⟨b,off+k,none⟩=some (enc x):=by
 have:=hcl k 0 [enc x] _ (by simp [hk]) rfl
 rwa [Nat.mul_one] at this
theorem zaQ {n lo hi:Int} (h:lo≤n∧n≤hi) (w1:World):CallsIn FL 0 Tryd.prog 40 #[num n,num lo,num hi] w1 fun e w'=>e=.returned (.bool true)∧w'=w1 :=
 (zbc n lo hi w1).mono fun e w' ⟨x,y⟩=>⟨by rw [x,decide_eq_true h],y⟩
theorem zbS {n lo hi:Int} (h:¬ (lo≤n∧n≤hi)) (w1:World):CallsIn FL 0 Tryd.prog 40 #[num n,num lo,num hi] w1 fun e w'=>e=.returned (.bool false)∧w'=w1 :=
 (zbc n lo hi w1).mono fun e w' ⟨x,y⟩=>⟨by rw [x,decide_eq_false h],y⟩
theorem Sl.get {w:World} {a:Option Addr} {n cap sz:Nat} {xs:List (List Value)} (hv:Sl w (.slice a n cap) sz xs) (h:0<xs.length) :
  ∃ b off,a=some ⟨b,off,none⟩∧b<w.heap.size∧(∀ (j k:Nat) (z:List Value) (x:Value),xs[j]?=some z→z[k]?=some x→w.cell? ⟨b,off+j * sz+k,none⟩=some x):=by
 obtain⟨cap',⟨hn,_⟩ | ⟨b,off,h1,h2,h3⟩⟩:=hv
 ·rw [hn] at h;exact absurd h (jqf _)
 ·simp only [Value.slice.injEq] at h1
  exact⟨b,off,h1.1,h2,h3⟩
theorem Sl.take {w:World} {b off cap sz:Nat} {xs:List (List Value)} {k:Nat} (hk:k≤xs.length) (hb:b<w.heap.size) (h:∀ (j k:Nat) (z:List Value) (x:Value),xs[j]?=some z→z[k]?=some x→w.cell? ⟨b,off+j * sz+k,none⟩=some x) :
  Sl w (.slice (some ⟨b,off,none⟩) k cap) sz (xs.take k):=by
 refine⟨cap,.inr ⟨b,off,by simp [Nat.min_eq_left hk],hb,fun j k' z y hj hk'=>h j k' z y ?_ hk'⟩⟩;rw [List.getElem?_take] at hj
 split at hj
 ·exact hj
 ·cases hj
theorem zlC (B:Nat) (d:Dit) (w:World) (hd:DitAt w B 0 d) (hs:d.Small) :
  CallsIn FL 0 Tryd.prog 92 #[.pointer (some ⟨B,0,none⟩)] w fun e w'=>e=.returned (num (zaI d))∧Nx w w':=by
 obtain⟨v,c0,hv⟩:=hd.holders;obtain⟨v1,c1,hv1⟩:=hd.turns;obtain⟨a,cap,rfl⟩:=hv.cases;obtain⟨a1,cap1,rfl⟩:=hv1.cases;rw [jqd] at c0 hv c1 hv1;simp only [Nat.zero_add] at c0 c1;have hcap:=hd.cap0 _ _ _ c0;have hlh:=hs.h;have hlt1:=hs.t;have n0:Nx w w:=jqc _ _;have cB:∀ w1,Nx w w1→w1.cell? ⟨B,0,none⟩=some (.slice a d.holders.length cap)∧w1.cell? ⟨B,1,none⟩=some (.slice a1 d.turns.length cap1):=fun w1 n1=>⟨(n1.cell (by exact hd.lt)).trans c0,(n1.cell (by exact hd.lt)).trans c1⟩;have keyB:∀ n lo hi w1,CallsIn FL 0 Tryd.prog 40 #[num n,num lo,num hi] w1 fun e w'=>e=.returned (.bool (decide (lo≤n∧n≤hi)))∧w'=w1:=fun n lo hi w1=>zbc n lo hi w1;gi_enter Tryd.func92,Tryd.ntmps92;by_cases h6:6<d.holders.length
 ·have hp:zaI d=2:=by unfold zaI;rw [if_pos h6]
  have HP:Hid _:=hp;clear hp hv hcap cB keyB;gi_wp2;go_ret;exact⟨congrArg (fun n=>Ending.returned (num n)) (Eq.symm HP),n0⟩
 ·have HP1:Hid (scan (zbp d.holders) 0 d.holders≠0→zaI d=scan (zbp d.holders) 0 d.holders):=by
   intro h;unfold zaI;rw [if_neg h6,if_pos h]
  have HP2:Hid (scan (zbp d.holders) 0 d.holders=0→zaI d=if ¬ (1≤d.turns.length∧d.turns.length≤12) then 2 else scan (zdl d.holders.length) 0 d.turns):=by
   intro h;unfold zaI;rw [if_neg h6,if_neg (by rw [h];simp)]
  gi_wp2
  gi_loopw [20] (fun i wr=>∃ k:Nat,k≤d.holders.length∧i=num k∧(scan (zbp d.holders) 0 d.holders=scan (zbp d.holders) k (d.holders.drop k))∧Nx w wr) (fun i _=>d.holders.length-(intOf i).toNat)
  case atStart=>exact⟨0,Nat.zero_le _,rfl,rfl,n0⟩
  case round =>
   obtain⟨k,hk,rfl,hsc,n2⟩:=hrel;by_cases hlt:k<d.holders.length
   ·obtain⟨b,off,ha,hbl,hcl⟩:=hv.get (by simp;omega)
    subst ha;have hx:d.holders[k]?=some d.holders[k]:=jqb hlt;have hxl:=hs.hn _ (List.getElem_mem hlt);generalize hxk:d.holders[k]=x at hx hxl;clear hxk;have g1:=(n2.cell (p:=⟨b,off+k,none⟩) (by exact hbl)).trans (Sl.one hcl hx);have hgo:=fun h0=>zbL hx h0 hsc;have hstop:=fun h0=>za4 hx h0 hsc;have keyN:∀ w1,Nx w w1→CallsIn FL 0 Tryd.prog 96 #[str x] w1 fun e w'=>e=.returned (.bool (zbu x))∧Nx w w':=fun w1 n1=>(zin x w1 hxl).mono fun e w' ⟨y,z⟩=>⟨y,Nx.trans n1 z⟩;have keyC:∀ w1,Nx w w1→CallsIn FL 0 Tryd.prog 97 #[.slice (some ⟨b,off,none⟩) k cap,str x] w1 fun e w'=>e=.returned (.bool ((d.holders.take k).any fun x'=>decide (x'=x)))∧w'=w1:=by
     intro w1 n1;have:=Sl.take (cap:=cap) (k:=k) (by simp;omega) (Nat.lt_of_lt_of_le hbl n1.size) (fun j k z x h1 h2=>(n1.cell (p:=⟨b,off+j * 1+k,none⟩) (by exact hbl)).trans (hcl j k z x h1 h2));rw [← List.map_take] at this;exact zf9 _ (d.holders.take k) x w1 this (by simp;omega)
    have HG:Hid _:=hgo;have HS:Hid _:=hstop;have HC:Hid _:=hsc;have hkc:k≤cap:=by omega
    have f0:=(cB _ n2).1;clear hgo hstop hsc hv hcl hx
    gi_wp2_with (first | (gi_at_call 96;refine jqa (keyN _ (by assumption)) ?_;rintro e w1 ⟨rfl,n3⟩;have f3:=(cB _ n3).1;clear cB) | (gi_at_call 97;refine jqa (keyC _ (by assumption)) ?_;rintro e w3 ⟨rfl,rfl⟩) | gi_in)
    ·rename_i hn
     have hn' : zbu x=false:=by simpa using hn
     have hf:zbp d.holders k x=4:=by unfold zbp;rw [hn'];rfl
     have hr:=HS.out (by rw [hf];decide);go_ret;exact⟨by rw [HP1.out (by rw [hr,hf];decide),hr,hf];rfl,by assumption⟩
    ·have hn:(!zbu x)=false:=by assumption
     have ht:((d.holders.take k).any fun x'=>decide (x'=x))=true:=by assumption
     have hn' : zbu x=true:=by simpa using hn
     have hf:zbp d.holders k x=5:=by unfold zbp;rw [hn',ht];rfl
     have hr:=HS.out (by rw [hf];decide);go_ret;exact⟨by rw [HP1.out (by rw [hr,hf];decide),hr,hf];rfl,by assumption⟩
    ·have hn:(!zbu x)=false:=by assumption
     have ht:((d.holders.take k).any fun x'=>decide (x'=x))=false:=by assumption
     have hn' : zbu x=true:=by simpa using hn
     have hf:zbp d.holders k x=0:=by unfold zbp;rw [hn',ht];rfl
     exact⟨⟨k+1,hlt,by simp,HG.out hf,by assumption⟩,by simp [intOf];omega⟩
   ·obtain rfl:k=d.holders.length:=by omega
    have HZ:Hid _:=zbi hsc;obtain⟨f0,f1⟩:=cB _ n2;clear hsc hv;by_cases hmt:1≤d.turns.length∧d.turns.length≤12
    ·have HP3:Hid (zaI d=scan (zdl d.holders.length) 0 d.turns):=by show _=_;rw [HP2.out HZ.out,if_neg (by simpa using hmt)]
     have keyH:∀ (n:Int) (w1:World),Nx w w1→CallsIn FL 0 Tryd.prog 51 #[.pointer (some ⟨B,0,none⟩),num n] w1 fun e w'=>e=.returned (.bool (decide (0≤n∧n≤d.holders.length-1)))∧w'=w1:=fun n w1 n1=>zb6 B d n w1 (hd.nx n1) hs.h
     gi_wp2_with (first | (gi_at_call 40;refine jqa (zaQ (by omega) _) ?_;rintro e w1 ⟨rfl,rfl⟩) | gi_in)
     gi_loopw [54] (fun i wr'=>∃ k:Nat,k≤d.turns.length∧i=num k∧(scan (zdl d.holders.length) 0 d.turns=scan (zdl d.holders.length) k (d.turns.drop k))∧Nx w wr') (fun i _=>d.turns.length-(intOf i).toNat)
     case atStart=>exact⟨0,Nat.zero_le _,rfl,rfl,by assumption⟩
     case round =>
      obtain⟨k,hk,rfl,hsc,n4⟩:=hrel;by_cases hlt:k<d.turns.length
      ·obtain⟨b,off,ha,hbl,hcl⟩:=hv1.get (by simp;omega)
       subst ha;have hx:d.turns[k]?=some d.turns[k]:=jqb hlt;generalize hxk:d.turns[k]=x at hx;clear hxk;obtain⟨x1,x2⟩:=x;have g1:=(n4.cell (p:=⟨b,off+k * 2+0,none⟩) (by exact hbl)).trans (hcl k 0 (two (x1,x2)) _ (by simp [hx]) rfl);have g2:=(n4.cell (p:=⟨b,off+k * 2+1,none⟩) (by exact hbl)).trans (hcl k 1 (two (x1,x2)) _ (by simp [hx]) rfl);rw [Nat.add_zero] at g1;dsimp only at g1 g2;have HG:=Lib.hid fun h0=>zbL hx h0 hsc;have HS:=Lib.hid fun h0=>za4 hx h0 hsc;have n5:∀ o,Nx w (wr.alloc o):=fun o=>n4.alloc (by exact n4.size) o;clear hsc hcl hx keyB cB;by_cases hh:0≤x1∧x1≤(d.holders.length:Int)-1
       ·have keyH1:∀ (w1:World),Nx w w1→CallsIn FL 0 Tryd.prog 51 #[.pointer (some ⟨B,0,none⟩),num x1] w1 fun e w'=>e=.returned (.bool true)∧w'=w1:=fun w1 n1=>(keyH x1 w1 n1).mono fun e w' ⟨y,z⟩=>⟨by rw [y,decide_eq_true hh],z⟩
        by_cases hr:1≤x2∧x2≤100
        ·have hf:zdl d.holders.length k (x1,x2)=0:=by unfold zdl;rw [if_pos hh,if_pos hr]
         have hz:=Lib.hid (HG.out hf);clear keyH HG HS hf
         gi_wp2_with (first | (gi_at_call 51;refine jqa (keyH1 _ (by first | assumption | exact n5 _)) ?_;rintro e w1 ⟨rfl,rfl⟩) | (gi_at_call 40;refine jqa (zaQ hr _) ?_;rintro e w1 ⟨rfl,rfl⟩) | gi_in)
         exact⟨⟨k+1,hlt,by simp,hz.out,n5 _⟩,by simp [intOf];omega⟩
        ·have hf:zdl d.holders.length k (x1,x2)=1:=by unfold zdl;rw [if_pos hh,if_neg hr]
         have hz:=Lib.hid ((HS.out (by rw [hf];decide)).trans hf);clear keyH HG HS hf
         gi_wp2_with (first | (gi_at_call 51;refine jqa (keyH1 _ (by first | assumption | exact n5 _)) ?_;rintro e w1 ⟨rfl,rfl⟩) | (gi_at_call 40;refine jqa (zbS hr _) ?_;rintro e w1 ⟨rfl,rfl⟩) | gi_in)
         go_ret;exact⟨by rw [HP3.out,hz.out];rfl,n5 _⟩
       ·have keyH1:∀ (w1:World),Nx w w1→CallsIn FL 0 Tryd.prog 51 #[.pointer (some ⟨B,0,none⟩),num x1] w1 fun e w'=>e=.returned (.bool false)∧w'=w1:=fun w1 n1=>(keyH x1 w1 n1).mono fun e w' ⟨y,z⟩=>⟨by rw [y,decide_eq_false hh],z⟩
        have hf:zdl d.holders.length k (x1,x2)=6:=by unfold zdl;rw [if_neg hh]
        have hz:=Lib.hid ((HS.out (by rw [hf];decide)).trans hf);clear keyH HG HS hf
        gi_wp2_with (first | (gi_at_call 51;refine jqa (keyH1 _ (by first | assumption | exact n5 _)) ?_;rintro e w1 ⟨rfl,rfl⟩) | gi_in)
        go_ret;exact⟨by rw [HP3.out,hz.out];rfl,n5 _⟩
      ·obtain rfl:k=d.turns.length:=by omega
       have HZ:=Lib.hid (zbi hsc);clear hsc hv1;gi_wp2;go_ret;exact⟨by rw [HP3.out,HZ.out];rfl,n4⟩
    ·have HP3:Hid (zaI d=2):=by show _=_;rw [HP2.out HZ.out,if_pos (by simpa using hmt)]
     gi_wp2_with (first | (gi_at_call 40;refine jqa (zbS (by omega) _) ?_;rintro e w1 ⟨rfl,rfl⟩) | gi_in)
     go_ret;exact⟨by rw [HP3.out];rfl,by assumption⟩
end Go.Proofs.YtbbanmifdbeneaaDoor
