/- For every ditch, any span and any 32 bit number the law TurnFeast returns true, does not panic, and leaves the ditch as it was. Conditions: the package's variables hold what the program lays in them at its start (the statement's own word: laid), and the arguments are values as the statement's card tells them. -/
import Derived.Test.YtolholkjeehamaaDoorK1
import Derived.Test.YtolholkjeehamaaDoorC40
import Derived.Test.YtolholkjeehamaaDoorC39
import Derived.Test.YtolholkjeehamaaDoorC34
import Derived.Test.YtolholkjeehamaaDoorC09
import Derived.Deep.Upon
set_option linter.all false
set_option maxRecDepth 100000
set_option maxHeartbeats 4000000
namespace Go.Proofs.YtolholkjeehamaaDoor
end Go.Proofs.YtolholkjeehamaaDoor
namespace Go.Proofs.YtolholkjeehamaaDoor
open Go.RowKit
def runningF (d:Dit) (a b:Int):Int×Int:=if checkS d≠0 then (0,checkS d) else if stretchS a b≠0 then (0,stretchS a b) else (d.ran b-d.ran a,0)
theorem ran_W {w:World} {B M:Nat} {d:Dit} (hw:Wtr w B M d d.ends d.cyc d.keys d.oth) (hO:d.Ok) {h:Int} (hh : -1000000000000≤h∧h≤1000000000000) :
  CallsIn FL 0 Tryd.prog 78 #[.pointer (some ⟨B,0,none⟩),num h] w fun e w'=>e=.returned (num (d.ran h))∧Nx w w':=ran_any B d h w hw.wat.dit hO.times hh
set_option maxRecDepth 100000 in
set_option maxHeartbeats 4000000 in
theorem running_any (d:Dit) (r:Rows6) (a b:Int) (w:World) (hd:DitSl w d r) (hs:d.Small) (hg:Glob w) :
  CallsIn FL 0 Tryd.prog 42 #[d.val r,num a,num b] w fun e w'=>e=.returned (.tuple #[num (runningF d a b).1,num (runningF d a b).2])∧Nx w w':=by
 obtain⟨W,hW,n0,hWs,cW⟩:=boxed w d r
 have nWW:Nx W W:=Below.refl _ _
 obtain⟨c0,c1,c2,c3,c4,c5,c6,c7,c8,c9,c10,c11,c12,c13⟩:=cells14 (cW _ nWW)
 have fin:∀ {x y:Int},runningF d a b=(x,y)→Ending.returned (.tuple #[num x,num y])=.returned (.tuple #[num (runningF d a b).1,num (runningF d a b).2]):=fun e=>by rw [e]
 by_cases hc:checkS d=0
 ·have hO:=ok_of_check hc
  have k66:=open_any d r W (hd.nx n0) hs (hg.nx n0) hc
  have k77:=fun w1=>stretch_any a b w1
  by_cases hst:stretchS a b=0
  ·have HA:Hid (runningF d a b=(d.ran b-d.ran a,0)):=by show _=_;unfold runningF;rw [if_neg (by simp [hc]),if_neg (by simp [hst])]
   obtain⟨ha,hb,hab⟩:=stretch_ok hst
   rw [hst] at k77
   have hra:=ran_bd2 hO.times hO.roomy (h:=a) (by omega)
   have hrb:=ran_bd2 hO.times hO.roomy (h:=b) (by omega)
   clear hc cW hst
   gi_enter Tryd.func42,Tryd.ntmps42
   gi_wp2_with (first
    | (gi_at_call 66;refine CallsIn.mono k66 ?_;rintro e w1 ⟨B,M,rfl,n1,hB,hw⟩;have HW:=Lib.hid hw;have n2:Nx w1 w1:=Below.refl _ _;have k78:∀ wx h,Nx w1 wx→-1000000000000≤h∧h≤1000000000000→CallsIn FL 0 Tryd.prog 78 #[.pointer (some ⟨B,0,none⟩),num h] wx (fun e w'=>e=.returned (num (d.ran h))∧Nx w1 w'):=fun wx h nx hh=>(ran_W (hw.nx nx) hO hh).mono (fun e w' hx=>⟨hx.1,Nx.trans nx hx.2⟩);clear hw)
    | (gi_at_call 77;refine CallsIn.mono (k77 _) ?_;rintro e w1 ⟨rfl,rfl⟩)
    | (gi_at_call 78;refine CallsIn.mono (k78 _ _ (by assumption) (by omega)) ?_;rintro e w2 ⟨rfl,n2⟩)
    | gi_in)
   go_ret2
   exact⟨fin HA.out,Nx.trans n0 (Nx.trans n1 n2)⟩
  ·have HA:Hid (runningF d a b=(0,stretchS a b)):=by show _=_;unfold runningF;rw [if_neg (by simp [hc]),if_pos hst]
   have hb:(stretchS a b != 0)=true:=by simpa using hst
   clear hc cW hO hst
   gi_enter Tryd.func42,Tryd.ntmps42
   gi_wp2_with (first
    | (gi_at_call 66;refine CallsIn.mono k66 ?_;rintro e w1 ⟨B,M,rfl,n1,hB,hw⟩;clear hw)
    | (gi_at_call 77;refine CallsIn.mono (k77 _) ?_;rintro e w1 ⟨rfl,rfl⟩)
    | gi_in)
   go_ret2
   exact⟨fin HA.out,Nx.trans n0 n1⟩
 ·have k66:=open_bad d r W (hd.nx n0) hs (hg.nx n0) hc
  have HA:Hid (runningF d a b=(0,checkS d)):=by show _=_;unfold runningF;rw [if_pos hc]
  have hb:(checkS d != 0)=true:=by simpa using hc
  have hb2:(checkS d == 0)=false:=by simpa using hc
  clear cW hc
  gi_enter Tryd.func42,Tryd.ntmps42
  gi_wp2_with (first
   | (gi_at_call 66;refine CallsIn.mono k66 ?_;rintro e w1 ⟨rfl,n1⟩)
   | gi_in)
  go_ret2
  exact⟨fin HA.out,Nx.trans n0 n1⟩
end Go.Proofs.YtolholkjeehamaaDoor

namespace Go.Proofs.YtolholkjeehamaaDoor
theorem ask_zero {d:Dit} (hc:checkS d=0) {k a b:Int} (hk:0≤k∧k≤(d.holders.length:Int)-1) (ha:0≤a) (hab:a≤b) (hb:b≤999999999):askS d k a b=0:=by
 unfold askS stretchS
 rw [if_neg (by simp [hc]),if_neg (by simpa using hk)]
 split
 ·omega
 ·split<;>omega
end Go.Proofs.YtolholkjeehamaaDoor

namespace Go.Proofs.YtolholkjeehamaaDoor
end Go.Proofs.YtolholkjeehamaaDoor

namespace Go.Proofs.YtolholkjeehamaaDoor
end Go.Proofs.YtolholkjeehamaaDoor

namespace Go.Proofs.YtolholkjeehamaaDoor
theorem Dit.Ok.up_mono {d:Dit} (hO:d.Ok) {a:Int} (ha:0≤a):∀ n:Nat,upS d.week d.from_ d.long a≤upS d.week d.from_ d.long (a+n)∧upS d.week d.from_ d.long (a+n)≤upS d.week d.from_ d.long a+n
 | 0=>by simp
 | n+1=>by
  have ih:=hO.up_mono ha n
  have hs:=up_step hO.room hO.times.from_.1 hO.times.long.1 (h:=a+n) (by omega)
  have e:a+((n+1:Nat):Int)=a+n+1:=by omega
  rw [e]
  omega
theorem Dit.Ok.work_bd {d:Dit} (hO:d.Ok) {a b:Int} (ha:0≤a):0≤workS d.week d.from_ d.long a b∧workS d.week d.from_ d.long a b≤max 0 (b-a):=by
 rw [work_up]
 split
 ·omega
 ·have:=hO.up_mono ha (b-a).toNat
  rw [show a+((b-a).toNat:Int)=b by omega] at this
  omega
theorem sumQ_append {α:Type} (f:α→Int) (x:α):∀ l:List α,sumQ f (l++[x])=sumQ f l+f x
 | []=>by simp [sumQ]
 | y :: l=>by
  have:=sumQ_append f x l
  show f y+sumQ f (l++[x])=f y+sumQ f l+f x
  omega
def Dit.feast (d:Dit) (x:Int×Int):Dit:={ d with feasts:=d.feasts++[x] }
theorem Dit.feast_ran (d:Dit) (x:Int×Int) (h:Int):(d.feast x).ran h=d.ran h-workS d.week d.from_ d.long (max d.begin_ x.1) (min h (x.2+1)):=by
 rw [ran_sum,ran_sum]
 show _-sumQ _ (d.feasts++[x])=_
 rw [sumQ_append]
 show workS d.week d.from_ d.long d.begin_ h-(sumQ (fun x=>workS d.week d.from_ d.long (max d.begin_ x.1) (min h (x.2+1))) d.feasts+workS d.week d.from_ d.long (max d.begin_ x.1) (min h (x.2+1)))=_
 omega
theorem Dit.feast_had (d:Dit) (x:Int×Int) (k n:Int):(d.feast x).had k n=d.had k n:=rfl
theorem feast_law {d:Dit} {x:Int×Int} (hc:checkS d=0) (hx:checkS (d.feast x)=0) {a:Int} (ha:0≤a∧a≤999999999) :
  ∃ f g:Nat→Int,∃ n m:Int,(∀ i:Nat,i<d.holders.length→hoursF d i 0 a=(f i,0)∧hoursF (d.feast x) i 0 a=(g i,0)∧g i≤f i) ∧
   runningF d 0 a=(n,0)∧runningF (d.feast x) 0 a=(m,0)∧m≤n∧n-(x.2-x.1+1)≤m∧(0≤n∧n≤999999999)∧(0≤x.1∧x.1≤x.2∧x.2≤999999999):=by
 have hO:=ok_of_check hc
 have hP:=ok_of_check hx
 have run:∀ d:Dit,checkS d=0→runningF d 0 a=(d.ran a-d.ran 0,0):=fun d hc=>by
  have hst:stretchS 0 a=0:=by unfold stretchS;rw [if_neg (by omega),if_neg (by omega)]
  unfold runningF;rw [if_neg (by simp [hc]),if_neg (by simp [hst])]
 have hrs:∀ d:Dit,checkS d=0→∀ i:Nat,i<d.holders.length→hoursF d i 0 a=(d.hoursW i 0 a,0):=fun d hc i hi=>by
  unfold hoursF;rw [if_neg (by simp [ask_zero (d:=d) (k:=i) hc (by omega) (Int.le_refl 0) ha.1 ha.2])]
 have z:∀ d:Dit,d.Ok→d.ran 0=0:=fun d hO=>ran_low hO.times.begin_.1
 have hxx:=hP.feasts d.feasts.length x (by show (d.feasts++[x])[_]?=_;simp)
 have hw:=hO.work_bd (a:=max d.begin_ x.1) (b:=min a (x.2+1)) (by omega)
 have hr:=d.feast_ran x a
 have hn:=hP.ran_nonneg a
 have hm:=hO.ran_mono (a:=0) (b:=a) (by omega) ha.1
 have z1:=z d hO
 have z2:=z _ hP
 refine⟨fun i=>d.hoursW i 0 a,fun i=>(d.feast x).hoursW i 0 a,_,_,fun i hi=>⟨hrs d hc i hi,hrs _ hx i hi,?_⟩,run d hc,run _ hx,by omega,by omega,by omega,by omega⟩
 show (d.feast x).hoursW i 0 a≤d.hoursW i 0 a
 rw [hoursW_had,hoursW_had,Dit.feast_had,Dit.feast_had,z1,z2]
 have:=hO.had_mono i (a:=(d.feast x).ran a) (b:=d.ran a) hn (by omega)
 omega
end Go.Proofs.YtolholkjeehamaaDoor

namespace Go.Proofs.YtolholkjeehamaaDoor
open Go.RowKit Go.Con Go.Conc
local instance:Lone:=mainL
section
variable {dst:Option Nat} {ty:TypeId} {pos:String} {af:Array Edge} {x y c b o:Nat} {w:World} {gd:Option (Nat×Bool)} (e:Operand→Value)
theorem subR_run {n m k:Int} (h:e (.tmp x)=num n) (h2:e (.tmp y)=num m) (hb : -9223372036854775808≤n-m∧n-m≤9223372036854775807) (hk:n-m=k) (τ:Tape):(execOp e ⟨dst,.binOp .sub 3 (.tmp x) (.tmp y) 3,ty,pos,af,gd⟩).run Tryd.prog { w with tape:=τ }=.ok (.value (num k)) { w with tape:=τ }:=by
 subst hk
 simp [execOp,go_sem,h,h2]
 exact IntWalk.i64_in _ hb
theorem addcR_run {n m k:Int} (h:e (.tmp x)=num n) (h2:e (.const (.int .i64 m))=num m) (hb : -9223372036854775808≤n+m∧n+m≤9223372036854775807) (hk:n+m=k) (τ:Tape):(execOp e ⟨dst,.binOp .add 3 (.tmp x) (.const (.int .i64 m)) 3,ty,pos,af,gd⟩).run Tryd.prog { w with tape:=τ }=.ok (.value (num k)) { w with tape:=τ }:=by
 subst hk
 simp [execOp,go_sem,h,h2]
 exact IntWalk.i64_in _ hb
theorem leqR_run {n m:Int} (h:e (.tmp x)=num n) (h2:e (.tmp y)=num m) (hn:n≤m) (τ:Tape):(execOp e ⟨dst,.binOp .leq 3 (.tmp x) (.tmp y) 3,ty,pos,af,gd⟩).run Tryd.prog { w with tape:=τ }=.ok (.value (.bool true)) { w with tape:=τ }:=by
 simp [execOp,go_sem,h,h2,hn]
theorem geqR_run {n m:Int} (h:e (.tmp x)=num n) (h2:e (.tmp y)=num m) (hn:m≤n) (τ:Tape):(execOp e ⟨dst,.binOp .geq 3 (.tmp x) (.tmp y) 3,ty,pos,af,gd⟩).run Tryd.prog { w with tape:=τ }=.ok (.value (.bool true)) { w with tape:=τ }:=by
 simp [execOp,go_sem,h,h2,hn]
theorem eqcR37_run {n:Int} (h:e (.tmp x)=num n) (h2:e (.const (.int .i64 n))=num n) (τ:Tape):(execOp e ⟨dst,.binOp .eql 37 (.tmp x) (.const (.int .i64 n)) 37,ty,pos,af,gd⟩).run Tryd.prog { w with tape:=τ }=.ok (.value (.bool true)) { w with tape:=τ }:=by
 simp [execOp,go_sem,h,h2]
theorem fa28_0g_run (h:e (.tmp x)=.pointer (some ⟨b,0,none⟩)) (τ:Tape):(execOp e ⟨dst,.fieldAddr 28 (.tmp x) 0,ty,pos,af,gd⟩).run Tryd.prog { w with tape:=τ }=.ok (.value (.pointer (some ⟨b,0,none⟩))) { w with tape:=τ }:=by
 simp [execOp,go_sem,h]
theorem fa28_1g_run (h:e (.tmp x)=.pointer (some ⟨b,0,none⟩)) (τ:Tape):(execOp e ⟨dst,.fieldAddr 28 (.tmp x) 1,ty,pos,af,gd⟩).run Tryd.prog { w with tape:=τ }=.ok (.value (.pointer (some ⟨b,1,none⟩))) { w with tape:=τ }:=by
 simp [execOp,go_sem,h]
theorem ld3g_run {a:Addr} {v:Value} (h:e (.tmp x)=.pointer (some a)) (hc:w.cell? a=some v) (τ:Tape) :
  (execOp e ⟨dst,.load 3 (.tmp x),ty,pos,af,gd⟩).run Tryd.prog { w with tape:=τ }=.ok (.value v) { w with tape:=τ }:=by
 have hc' : ({ w with tape:=τ }:World).cell? a=some v:=hc
 simp [execOp,go_sem,h,hc']
end
end Go.Proofs.YtolholkjeehamaaDoor

namespace Go.Proofs.YtolholkjeehamaaDoor
open Go.RowKit
theorem flat_at {sz:Nat}:∀ (ys:List (List Value)) (j k:Nat) (l:List Value) (x:Value),(∀ y∈ys,y.length=sz)→ys[j]?=some l→l[k]?=some x→ys.flatten[j * sz+k]?=some x
 | [],j,k,l,x,_,h,_=>by simp at h
 | y :: ys,j,k,l,x,hl,hj,hk=>by
  have hy:=hl y (List.mem_cons_self ..)
  cases j with
  | zero =>
   simp only [List.getElem?_cons_zero,Option.some.injEq] at hj
   subst hj
   have:k<y.length:=(List.getElem?_eq_some_iff.1 hk).1
   rw [Nat.zero_mul,Nat.zero_add,List.flatten_cons,List.getElem?_append_left this]
   exact hk
  | succ j =>
   rw [List.flatten_cons,List.getElem?_append_right (by rw [hy,Nat.succ_mul];omega),hy]
   have:(j+1) * sz+k-sz=j * sz+k:=by rw [Nat.succ_mul];omega
   rw [this]
   exact flat_at ys j k l x (fun y hy=>hl y (List.mem_cons_of_mem _ hy)) hj hk
theorem flat_len {sz:Nat}:∀ ys:List (List Value),(∀ y∈ys,y.length=sz)→ys.flatten.length=ys.length * sz
 | [],_=>by simp
 | y :: ys,h=>by
  have:=flat_len ys fun z hz=>h z (List.mem_cons_of_mem _ hz)
  rw [List.flatten_cons,List.length_append,this,h y (List.mem_cons_self ..),List.length_cons,Nat.succ_mul]
  omega
theorem flat_ix {sz:Nat} (hs:0<sz) {ys:List (List Value)} (h:∀ y∈ys,y.length=sz) {j:Nat} {x:Value} (hj:ys.flatten[j]?=some x):∃ l,ys[j / sz]?=some l∧l[j % sz]?=some x:=by
 have hl:j<ys.length * sz:=by rw [← flat_len ys h];exact (List.getElem?_eq_some_iff.1 hj).1
 have hd:j / sz<ys.length:=Nat.div_lt_of_lt_mul (by rwa [Nat.mul_comm])
 have hm:j % sz<(ys[j / sz]).length:=by rw [h _ (List.getElem_mem _)];exact Nat.mod_lt _ hs
 have h1:=flat_at (sz:=sz) ys (j / sz) (j % sz) _ _ h (List.getElem?_eq_getElem hd) (List.getElem?_eq_getElem hm)
 rw [show j / sz * sz+j % sz=j by rw [Nat.mul_comm];exact Nat.div_add_mod ..] at h1
 rw [h1] at hj
 cases hj
 exact⟨_,List.getElem?_eq_getElem hd,List.getElem?_eq_getElem hm⟩
theorem addr_add (b o j:Nat):(⟨b,o,none⟩:Addr).add j=⟨b,o+j,none⟩:=by
 unfold Addr.add
 split
 ·rename_i h;subst h;rfl
 ·rfl
structure ElemT (t e:TypeId) (z:Value) (sz by_:Nat):Prop where
 und:Tryd.prog.underlying t=some (.slice e)
 info:∃ i:TypeInfo,Tryd.prog.info? e=some i∧i.zero=some z∧i.size=sz∧i.bytes=by_
 zs:z.cells.size=sz
 pos:0<sz
theorem ElemT.mk' {t e:TypeId} {z:Value} {sz by_:Nat} (h1:Tryd.prog.underlying t=some (.slice e)) (h:(Tryd.prog.info? e).map (fun i=>(i.zero,i.size,i.bytes))=some (some z,sz,by_)) (h2:z.cells.size=sz) (h3:0<sz):ElemT t e z sz by_:=by
 refine⟨h1,?_,h2,h3⟩
 cases hi:Tryd.prog.info? e with
 | none=>rw [hi] at h;cases h
 | some i =>
  rw [hi] at h
  simp only [Option.map_some,Option.some.injEq,Prod.mk.injEq] at h
  exact⟨i,rfl,h.1,h.2.1,h.2.2⟩
theorem own_sl {w:World} {base e sz n:Nat} {v:Value} {rows:List (List Value)} (hr:∀ y∈rows,y.length=sz) (hn:rows.length=n) (h:w.ownsRow base e sz v n rows.flatten):Sl w v sz rows:=by
 subst hn
 obtain⟨_,⟨rfl,h0⟩ | ⟨g,cap,cur,rfl,hb,hg,hc,hm,hs,ht⟩⟩:=h
 ·exact⟨0,.inl ⟨List.eq_nil_of_length_eq_zero h0,rfl⟩⟩
 ·refine⟨cap,.inr ⟨g,0,rfl,(Array.getElem?_eq_some_iff.1 hg).1,fun j k l x hj hk=>?_⟩⟩
  have h1:=flat_at (sz:=sz) rows j k l x hr hj hk
  rw [← ht,List.getElem?_take] at h1
  split at h1
  ·unfold World.cell?
   dsimp only
   rw [hg]
   simpa using h1
  ·cases h1
theorem own_shape {w:World} {base e sz n:Nat} {v:Value} {xs:List Value} (h0:0<n) (h:w.ownsRow base e sz v n xs):∃ g cap,v=.slice (some ⟨g,0,none⟩) n cap∧base≤g∧g<w.heap.size∧n≤cap∧Kind w v:=by
 obtain⟨_,⟨_,h1⟩ | ⟨g,cap,cur,rfl,hb,hg,hc,_⟩⟩:=h
 ·omega
 ·exact⟨g,cap,rfl,hb,(Array.getElem?_eq_some_iff.1 hg).1,hc,fun a n c e=>by cases e;exact⟨_,_,_,hg⟩⟩
section
variable {t e:TypeId} {z:Value} {sz by_:Nat} (T:ElemT t e z sz by_)
include T
theorem run_copy (base:Nat) (w:World) (g0:Nat) (hg:w.heap[g0]?=some (.cells #[] e (0,0))) (hb:base≤g0) (u:Value) (rows:List (List Value)) (hr:∀ y∈rows,y.length=sz) (h1:∀ y∈rows,∀ x∈y,x.oneCell'=true) (hu:Sl w u sz rows)
  (hl:rows.length * by_≤140737488355328) (hm:rows.length≤281474976710656) :
  ∃ v' w',(Builtin.append_ #[t,t] t #[.slice (some ⟨g0,0,none⟩) 0 0,u]).run Tryd.prog w=.ok v' w'∧w'.ownsRow base e sz v' rows.length rows.flatten∧w.grownBy w' (some g0)∧(v'.ownBlock=some g0∨v'.ownBlock=some w.heap.size):=by
 obtain⟨i,hi,hz,hs,hby⟩:=T.info
 have hown:w.ownsRow base e sz (.slice (some ⟨g0,0,none⟩) 0 0) 0 []:=⟨by simp,.inr ⟨g0,0,#[],rfl,hb,hg,Nat.le_refl _,by simp [maxLen],by simp,by simp⟩⟩
 have hgl:g0<w.heap.size:=(Array.getElem?_eq_some_iff.1 hg).1
 obtain⟨cap,⟨h0,rfl⟩ | ⟨b,off,rfl,hbl,hc⟩⟩:=hu
 ·subst h0
  refine⟨_,w,?_,hown,World.grownBy.refl _ _,.inl rfl⟩
  simp [Builtin.append_,run_underlying T.und,sizeOf,typeInfo,hi,Builtin.lenOf,Builtin.firstCells,storeCells]
 ·obtain⟨v',w',r1,r2,r3,_,r5⟩:=run_append_own_at (P:=Tryd.prog) w base t t e i z sz by_ T.und hi hz hs hby T.zs T.pos _ 0 [] hown ⟨b,off,none⟩ rows.length cap rows.flatten (by rw [flat_len rows hr]) (fun j x hj=>by
   obtain⟨l,g1,g2⟩:=flat_ix T.pos hr hj
   have:=hc (j / sz) (j % sz) l x g1 g2
   rw [addr_add]
   rw [show off+j / sz * sz+j % sz=off+j by have:=Nat.div_add_mod j sz;rw [Nat.mul_comm] at this;omega] at this
   exact this) (fun x hx=>by
   obtain⟨y,hy,hxy⟩:=List.mem_flatten.1 hx
   exact h1 y hy x hxy) (by unfold maxLen;omega) (by rw [Nat.zero_add];exact hl) (by omega)
  rw [Nat.zero_add,List.nil_append] at r2
  exact⟨v',w',r1,r2,r3,r5⟩
theorem run_more (base:Nat) (w:World) (v:Value) (rows:List (List Value)) (hr:∀ y∈rows,y.length=sz) (hown:w.ownsRow base e sz v rows.length rows.flatten) (g1:Nat) (x:List Value) (hx:x.length=sz) (hg:w.heap[g1]?=some (.cells x.toArray e (0,0)))
  (h1:∀ y∈x,y.oneCell'=true) (hl:(rows.length+1) * by_≤140737488355328) (hm:rows.length≤281474976710656) (hb:base≤w.heap.size) :
  ∃ v' w',(Builtin.append_ #[t,t] t #[v,.slice (some ⟨g1,0,none⟩) 1 1]).run Tryd.prog w=.ok v' w'∧w'.ownsRow base e sz v' (rows.length+1) (rows++[x]).flatten∧w.grownBy w' v.ownBlock:=by
 obtain⟨i,hi,hz,hs,hby⟩:=T.info
 obtain⟨v',w',r1,r2,r3,_,r5⟩:=run_append_own_at (P:=Tryd.prog) w base t t e i z sz by_ T.und hi hz hs hby T.zs T.pos v rows.length rows.flatten hown ⟨g1,0,none⟩ 1 1 x (by omega) (fun j y hj=>by
  rw [addr_add]
  unfold World.cell?
  dsimp only
  rw [hg]
  simpa using hj) h1 (by unfold maxLen;omega) hl hb
 exact⟨v',w',r1,by rw [List.flatten_append];simpa using r2,r3⟩
end
theorem T24:ElemT 24 28 (.agg #[num 0,num 0]) 2 16:=.mk' Tryd.underlying24 (by kernel_rfl) (by kernel_rfl) (by decide)
end Go.Proofs.YtolholkjeehamaaDoor

namespace Go.Proofs.YtolholkjeehamaaDoor
open Go.RowKit
section
variable {F:Fence} {n:Nat} {ops:Array Oper} {C:World→Prop} {a:Act} {dst:Option Nat} {ty:TypeId} {pos:String} {af:Array Edge}
theorem yC_load24 {s:Nat} {p:Addr} {v:Value} (h:a.eval (.tmp s)=.pointer (some p)) (hc:∀ x,C x→x.cell? p=some v):YieldsC F n Tryd.prog ops C ⟨dst,.load 24 (.tmp s),ty,pos,af,none⟩ v a :=
 yC rfl (fun _=>rfl) fun x hx=>by have:=hc x hx;generalize a.eval=ρ at h ⊢;simp [execOp,go_sem,h,this]
theorem yC_f31_6 {s B:Nat} (h:a.eval (.tmp s)=.pointer (some ⟨B,0,none⟩)):YieldsC F n Tryd.prog ops C ⟨dst,.fieldAddr 31 (.tmp s) 6,ty,pos,af,none⟩ (.pointer (some ⟨B,6,none⟩)) a :=
 yC rfl (fun _=>rfl) fun x _=>by generalize a.eval=ρ at h ⊢;simp [execOp,go_sem,h]
end
end Go.Proofs.YtolholkjeehamaaDoor

namespace Go.Proofs.YtolholkjeehamaaDoor
open Go.RowKit Go.Con Go.Conc Go.ChangeShapes Go.WideShapes Go.ChangeAt
section
variable {H:Type} {enc:TypeId×Value→H} {W:World}
theorem slice_fit {t e:TypeId} {fuel:Nat} {v:Value} {x:DataW H×List MemPlace} (ht:Tryd.prog.underlying t=some (.slice e)) (h:trodW enc W fuel t [v]=some x) (hfit:Fits t x.1) (a:Option Addr) (n cap:Nat) (hv:v=.slice a n cap):n * Tryd.prog.bytesOf e≤reachBytes:=by
 rcases DataW.trod_slice ht h with ⟨h1,_⟩ | ⟨a',len,cap',elems,rest,m,_,h1,hxx,_,hl,hm,hlen,hel,_,_⟩
 ·simp only [List.cons.injEq,and_true] at h1
  subst h1
  cases hv
  simp
 ·simp only [List.cons.injEq,and_true] at h1
  subst h1
  subst hxx
  cases hv
  have hwt:(DataW.slice (elems.map (·.1)) (rest.map (·.1)):DataW H).weights Tryd.prog t=((elems.map (·.1)).length+(rest.map (·.1)).length) * Tryd.prog.bytesOf e :: (DataW.weightsAll Tryd.prog e (elems.map (·.1))++DataW.weightsAll Tryd.prog e (rest.map (·.1))):=by
   unfold DataW.weights
   rw [ht]
  unfold Fits at hfit
  dsimp only at hfit
  rw [hwt] at hfit
  have h1:=hfit _ (List.mem_cons_self ..)
  rw [List.length_map,List.length_map,hlen] at h1
  exact Nat.le_trans (Nat.mul_le_mul_right _ (Nat.le_add_right _ _)) h1
theorem dit_fit {d:Dit} {r:Rows6} {dd:DataW H} {p:List MemPlace} (hd:DitSl W d r) (h:DataW.Trod enc Tryd.prog W 0 (fun _=>true) true 31 (d.val r) dd p) (hfit:Fits 31 dd) :
  d.feasts.length * 16≤140737488351232∧d.swaps.length * 24≤140737488351232∧d.loans.length * 24≤140737488351232∧d.plots.length * 56≤140737488351232:=by
 obtain⟨fuel,hf⟩:=h
 have e:(d.val r).cells=#[r.h,r.t,num d.begin_,num d.week,num d.from_,num d.long,r.f,r.s,r.l,num d.flow.1,num d.flow.2,num d.loss.1,num d.loss.2,r.p]:=rfl
 rw [e] at hf
 obtain⟨xs,m,_,hyy,_,hx,hg⟩:=DataW.trod_struct Tryd.underlying31 hf
 simp only [Prod.mk.injEq] at hyy
 obtain⟨rfl,rfl⟩:=hyy
 have hwt:(DataW.agg (xs.map (·.1)):DataW H).weights Tryd.prog 31=DataW.weightsEach Tryd.prog [22,23,3,3,3,3,24,25,26,28,28,29] (xs.map (·.1)):=by
  unfold DataW.weights
  rw [Tryd.underlying31]
  rfl
 unfold Fits at hfit
 rw [hwt] at hfit
 have hx0:∀ (i:Nat) (y:DataW H×List MemPlace) (t:TypeId),xs[i]?=some y→([22,23,3,3,3,3,24,25,26,28,28,29]:List TypeId)[i]?=some t→Fits t y.1:=fun i y t hy ht m hm=>hfit m (DataW.weights_mem_each ht (by rw [List.getElem?_map,hy];rfl) m hm)
 have c24:Tryd.prog.cellsOf 24=1:=by kernel_rfl
 have c25:Tryd.prog.cellsOf 25=1:=by kernel_rfl
 have c26:Tryd.prog.cellsOf 26=1:=by kernel_rfl
 have c29:Tryd.prog.cellsOf 29=1:=by kernel_rfl
 have g6:=hg 6 ⟨ "Feasts",24,6,false,"","",80⟩ rfl
 have g7:=hg 7 ⟨ "Swaps",25,7,false,"","",104⟩ rfl
 have g8:=hg 8 ⟨ "Loans",26,8,false,"","",128⟩ rfl
 have g11:=hg 11 ⟨ "Plots",29,13,false,"","",184⟩ rfl
 rw [List.getElem?_eq_getElem (by rw [hx];simp)] at g6 g7 g8 g11
 dsimp only at g6 g7 g8 g11
 rw [c24] at g6;rw [c25] at g7;rw [c26] at g8;rw [c29] at g11
 simp only [List.drop_succ_cons,List.drop_zero,List.take_succ_cons,List.take_zero] at g6 g7 g8 g11
 obtain⟨a1,b1,e1⟩:=hd.feasts.cases
 obtain⟨a2,b2,e2⟩:=hd.swaps.cases
 obtain⟨a3,b3,e3⟩:=hd.loans.cases
 obtain⟨a4,b4,e4⟩:=hd.plots.cases
 have f1:=slice_fit Tryd.underlying24 g6 (hx0 6 _ _ (List.getElem?_eq_getElem _) rfl) _ _ _ e1
 have f2:=slice_fit Tryd.underlying25 g7 (hx0 7 _ _ (List.getElem?_eq_getElem _) rfl) _ _ _ e2
 have f3:=slice_fit Tryd.underlying26 g8 (hx0 8 _ _ (List.getElem?_eq_getElem _) rfl) _ _ _ e3
 have f4:=slice_fit Tryd.underlying29 g11 (hx0 11 _ _ (List.getElem?_eq_getElem _) rfl) _ _ _ e4
 rw [List.length_map] at f1 f2 f3 f4
 rw [show Tryd.prog.bytesOf 28=16 by kernel_rfl] at f1
 rw [show Tryd.prog.bytesOf 49=24 by kernel_rfl] at f2
 rw [show Tryd.prog.bytesOf 51=24 by kernel_rfl] at f3
 rw [show Tryd.prog.bytesOf 91=56 by kernel_rfl] at f4
 have hr:reachBytes=140737488351232:=by decide
 omega
theorem open_two {t:TypeId} {f0 f1:Field} {v:Value} {x:DataW H} {p:List MemPlace} {base:Nat} (ht:Tryd.prog.underlying t=some (.struct #[f0,f1])) (t0:f0.type=3) (t1:f1.type=3) (o0:f0.offset=0) (o1:f1.offset=1) (hc:Tryd.prog.cellsOf t=2)
  (hv:Value.okWide Tryd.prog W .any base t v) (h:DataW.Trod enc Tryd.prog W 0 (fun _=>true) true t v x p):∃ a b:Int,v=.agg #[num a,num b]:=by
 simp only [Value.okWide,ht] at hv
 obtain⟨cs,rfl,_⟩:=hv
 obtain⟨fuel,hf⟩:=h
 simp only [Value.cells] at hf
 obtain⟨⟨a,b⟩,e,_⟩:=read_two ht t0 t1 o0 o1 hc hf
 obtain⟨l⟩:=cs
 refine⟨a,b,?_⟩
 have e' : l=[num a,num b]:=e
 rw [e']
end
end Go.Proofs.YtolholkjeehamaaDoor

namespace Go.Proofs.YtolholkjeehamaaDoor
open Go.RowKit Go.Con Go.Conc
theorem wpIn_of_value {F:Fence} {n:Nat} {P:Program} {K:Act→World→Prop} {Q:Exit→Act→World→Prop} {o:Oper} {a:Act} {w w1:World} {v:Value} (hro:F.round=none) (hab:o.about P w a.eval=none) (hrun:(execOp a.eval o).run P w=.ok (.value v) w1) (h:K (a.put o.dst v) w1):o.wpIn F n P a w K Q:=by
 unfold Oper.wpIn
 refine⟨fun f hf=>(by rw [hab] at hf;cases hf),?_⟩
 rw [hro,Oper.semAt_none,hrun]
 exact h
section
variable {dst:Option Nat} {ty:TypeId} {pos:String} {af:Array Edge} {x y:Nat} {w:World} (e:Operand→Value)
theorem app_run {t:TypeId} {v u v' : Value} {w' : World} (h:e (.tmp x)=v) (h2:e (.tmp y)=u) (hr:(Builtin.append_ #[t,t] t #[v,u]).run Tryd.prog w=.ok v' w') :
  (execOp e ⟨dst,.call { callee:=.builtin .append,args:=#[.tmp x,.tmp y],argTypes:=#[t,t] },t,pos,af,none⟩).run Tryd.prog w=.ok (.value v') w':=by
 simp [execOp,resolve,invoke,builtin,h,h2,hr,Result.andThen]
end
theorem old_blocks {w w' : World} (hs:w.heap.size≤w'.heap.size) (h:∀ b,b<w.heap.size→w'.heap[b]?=w.heap[b]?):Old w w':=by
 refine⟨hs,fun a ha=>?_,fun b hb=>?_,fun b es k hb=>?_⟩
 ·unfold World.cell?
  rw [h _ ha]
 ·obtain⟨cs,t,fz,e⟩:=hb
  exact⟨cs,t,fz,(h b (Array.getElem?_eq_some_iff.1 e).1).trans e⟩
 ·exact (h b (Array.getElem?_eq_some_iff.1 hb).1).trans hb
end Go.Proofs.YtolholkjeehamaaDoor

namespace Go.Proofs.YtolholkjeehamaaDoor
open Go.RowKit Go.Con Go.Conc
local instance:Lone:=mainL
noncomputable def lawB14:Code:=match Tryd.f14.body with | some c=>c | none=>.skip
noncomputable def q0:Code:=seqL lawB14
noncomputable def qp1:Code:=seqR lawB14
noncomputable def q1:Code:=seqL qp1
noncomputable def qp2:Code:=seqR qp1
noncomputable def q2:Code:=seqL qp2
noncomputable def qp3:Code:=seqR qp2
noncomputable def q3:Code:=seqL (seqL qp3)
noncomputable def q4:Code:=match seqR (seqL qp3) with | .cond _ x _=>seqL x | c=>c
noncomputable def qp4:Code:=seqR qp3
noncomputable def q5:Code:=seqL qp4
noncomputable def qp5:Code:=seqR qp4
noncomputable def q6:Code:=seqL qp5
noncomputable def qp6:Code:=seqR qp5
noncomputable def q13:Code:=seqL qp6
noncomputable def qp7:Code:=seqR qp6
noncomputable def q14:Code:=seqL qp7
noncomputable def qp8:Code:=seqR qp7
noncomputable def q15:Code:=seqL qp8
theorem lawB14_eq:lawB14=.seq q0 (.seq q1 (.seq q2 (.seq (.seq q3 (.cond (.tmp 39) (.seq q4 .ret) .skip)) (.seq q5 (.seq q6 (.seq q13 (.seq q14 (.seq q15 .ret)))))))):=by kernel_rfl
theorem lawB14_of:Tryd.f14.body=some lawB14:=by kernel_rfl
noncomputable def opq4:Array Oper:=opsOf q4
theorem q4_eq:q4=.region 4 opq4 false:=by kernel_rfl
noncomputable def opq15:Array Oper:=opsOf q15
theorem q15_eq:q15=.region 15 opq15 false:=by kernel_rfl
theorem st24_run {dst:Option Nat} {ty:TypeId} {pos:String} {af:Array Edge} {x y:Nat} {w:World} (e:Operand→Value) {a:Addr} {u:Value} {s:Option Addr} {n c:Nat} (h:e (.tmp x)=.pointer (some a)) (h2:e (.tmp y)=.slice s n c) (hc:w.cell? a=some u) (hf:w.frozen? a=false) :
  (execOp e ⟨dst,.store 24 (.tmp x) (.tmp y),ty,pos,af,none⟩).run Tryd.prog w=.ok .skip (w.setCell a (.slice s n c)):=by
 simp [execOp,go_sem,h,h2,hc,hf]
noncomputable def opq2:Array Oper:=match q2 with | .region _ ops _=>ops | _=>#[]
theorem q2_eqA:q2=.region 2 opq2 true:=by kernel_rfl
theorem feast_app (d:Dit) (r:Rows6) (x1 x2:Int) (Y:World) (B Bx Bo:Nat) (oc:Array Value) (v0 v1 v2 v18:Value) (hc:∀ i v,(d.cellsA r)[i]?=some v→Y.cell? ⟨B,i,none⟩=some v) (hB:B<Y.heap.size) (hX:Y.heap[Bx]?=some (.cells #[num x1,num x2] 28 (0,0))) (hO:Y.heap[Bo]?=some (.cells oc 31 (0,0))) (h14:oc.size=14)
  (hBo:B≠Bo) (hXo:Bx≠Bo) (hs:Sl Y r.f 2 (d.feasts.map two)) (hl:(d.feasts.length+1) * 16≤140737488355328) :
  q2.wpIn (FG 14) 0 Tryd.prog (fun e a w'=>e=.normal∧a.defers=[]∧∃ y0 y3 y5 g cap,a.tmps=#[v0,v1,v2,.pointer (some ⟨B,0,none⟩),.pointer (some ⟨Bx,0,none⟩),undef,.bool false,.pointer (some ⟨Bo,0,none⟩),undef,undef,undef,undef,undef,undef,undef,undef,undef,undef,v18,y0,.pointer (some ⟨B,6,none⟩),r.f,y3,.agg #[num x1,num x2],y5,.slice (some ⟨g,0,none⟩) (d.feasts.length+1) cap,.pointer (some ⟨Bo,6,none⟩),undef,undef,undef,undef,undef,undef,undef,undef,undef,undef,undef,undef,undef,undef,undef,undef,undef,undef,undef,undef,undef,undef,undef,undef,undef,undef,undef,undef,undef,undef,undef,undef,undef,undef,undef,undef,undef,undef,undef,undef,undef,undef,undef,undef,undef,undef,undef,undef,undef,undef,undef,undef,undef,undef,undef,undef,undef,undef,undef,undef,undef,undef,undef,undef,undef,undef,undef,undef,undef,undef,undef,undef,undef,undef,undef,undef,undef,undef,undef,undef,undef,undef,undef,undef,undef,undef,undef] ∧
   Y.heap.size≤w'.heap.size∧(∀ b,b<Y.heap.size→b≠Bo→w'.heap[b]?=Y.heap[b]?)∧(w'.os=Y.os∧w'.tape=Y.tape∧w'.output=Y.output)∧w'.heap[Bo]?=some (.cells (oc.setIfInBounds 6 (.slice (some ⟨g,0,none⟩) (d.feasts.length+1) cap)) 31 (0,0))∧d.feasts.length+1≤cap∧Y.heap.size≤g ∧
   Sl w' (.slice (some ⟨g,0,none⟩) (d.feasts.length+1) cap) 2 ((d.feasts++[(x1,x2)]).map two)∧Kind w' (.slice (some ⟨g,0,none⟩) (d.feasts.length+1) cap)) ⟨#[v0,v1,v2,.pointer (some ⟨B,0,none⟩),.pointer (some ⟨Bx,0,none⟩),undef,.bool false,.pointer (some ⟨Bo,0,none⟩),undef,undef,undef,undef,undef,undef,undef,undef,undef,undef,v18,undef,undef,undef,undef,undef,undef,undef,undef,undef,undef,undef,undef,undef,undef,undef,undef,undef,undef,undef,undef,undef,undef,undef,undef,undef,undef,undef,undef,undef,undef,undef,undef,undef,undef,undef,undef,undef,undef,undef,undef,undef,undef,undef,undef,undef,undef,undef,undef,undef,undef,undef,undef,undef,undef,undef,undef,undef,undef,undef,undef,undef,undef,undef,undef,undef,undef,undef,undef,undef,undef,undef,undef,undef,undef,undef,undef,undef,undef,undef,undef,undef,undef,undef,undef,undef,undef,undef,undef,undef,undef,undef,undef,undef,undef,undef],[]⟩ Y:=by
 have hr:∀ y∈d.feasts.map two,y.length=2:=fun y hy=>by
  obtain⟨z,_,rfl⟩:=List.mem_map.1 hy;rfl
 have h1:∀ y∈d.feasts.map two,∀ x∈y,x.oneCell'=true:=fun y hy x hx=>by
  obtain⟨z,_,rfl⟩:=List.mem_map.1 hy
  simp only [two,List.mem_cons,List.not_mem_nil,or_false] at hx
  rcases hx with rfl | rfl<;>rfl
 have hbl:Bx<Y.heap.size:=(Array.getElem?_eq_some_iff.1 hX).1
 have hol:Bo<Y.heap.size:=(Array.getElem?_eq_some_iff.1 hO).1
 have hn:(d.feasts.map two).length=d.feasts.length:=List.length_map ..
 rw [q2_eqA]
 let C:World→Prop:=fun x=>x.heap[B]?=Y.heap[B]?∧x.heap[Bx]?=Y.heap[Bx]?
 have cC:∀ i v,(d.cellsA r)[i]?=some v→∀ x,C x→x.cell? ⟨B,i,none⟩=some v:=fun i v hv x hx=>by
  have:=hc i v hv
  unfold World.cell? at this ⊢;dsimp only at this ⊢;rw [hx.1];exact this
 have cX:∀ i v,(#[num x1,num x2]:Array Value)[i]?=some v→∀ x,C x→x.cell? ⟨Bx,i,none⟩=some v:=fun i v hv x hx=>by
  unfold World.cell?;dsimp only;rw [hx.2,hX];exact hv
 have cN:∀ x,Nx Y x→C x:=fun x n=>⟨n.block _ hB,n.block _ hbl⟩
 refine wpIn_region_C C (by kernel_rfl) ?_
 change wpAnyC _ _ _ _ _ _ _ 9 #[false,false,false,false,false,false,false,false,false] _ _
 refine wpAnyC_takeR (i:=1) (oi:=⟨some 20,.fieldAddr 31 (.tmp 3) 6,_,_,_,none⟩) (v:=.pointer (some ⟨B,6,none⟩)) (plain_ops (by kernel_rfl)) rfl (by kernel_rfl) (by kernel_rfl) (by kernel_rfl) (fun _ _ _ h=>by cases h.1) (yC_f31_6 rfl) ?_
 simp only [Act.put,List.setIfInBounds_toArray,List.set_cons_succ,List.set_cons_zero]
 refine wpAnyC_as (l':=#[false,true,false,false,false,false,false,false,false]) rfl ?_
 refine wpAnyC_takeR (i:=2) (oi:=⟨some 21,.load 24 (.tmp 20),_,_,_,none⟩) (v:=r.f) (plain_ops (by kernel_rfl)) rfl (by kernel_rfl) (by kernel_rfl) (by kernel_rfl) (fun _ _ _ h=>by cases h.1) (yC_load24 rfl (cC 6 _ rfl)) ?_
 simp only [Act.put,List.setIfInBounds_toArray,List.set_cons_succ,List.set_cons_zero]
 refine wpAnyC_as (l':=#[false,true,true,false,false,false,false,false,false]) rfl ?_
 refine wpAnyC_takeR (i:=4) (oi:=⟨some 23,.load 28 (.tmp 4),_,_,_,none⟩) (v:=.agg #[num x1,num x2]) (plain_ops (by kernel_rfl)) rfl (by kernel_rfl) (by kernel_rfl) (by kernel_rfl) (fun _ _ _ h=>by cases h.1) (yC rfl (fun _=>rfl) fun x hx=>by have e0:=cX 0 _ rfl x hx;have e1:=cX 1 _ rfl x hx;clear hc cC cX cN hX hO;simp [execOp,go_sem,e0,e1]) ?_
 simp only [Act.put,List.setIfInBounds_toArray,List.set_cons_succ,List.set_cons_zero]
 refine wpAnyC_as (l':=#[false,true,true,false,true,false,false,false,false]) rfl ?_
 have n0:Nx Y Y.drew:=Below.drew (Below.refl _ _)
 change wpAnyC _ _ _ _ _ _ _ _ _ _ Y.drew
 have fin:∀ (y0 y3 y5 y6:Value) (w4:World),Nx Y w4→w4.ownsRow Y.heap.size 28 2 y6 (d.feasts.length+1) ((d.feasts++[(x1,x2)]).map two).flatten→wpAnyC (FG 14) 0 Tryd.prog .any opq2 C (fun e a w'=>e=.normal∧a.defers=[]∧∃ y0 y3 y5 g cap,a.tmps=#[v0,v1,v2,.pointer (some ⟨B,0,none⟩),.pointer (some ⟨Bx,0,none⟩),undef,.bool false,.pointer (some ⟨Bo,0,none⟩),undef,undef,undef,undef,undef,undef,undef,undef,undef,undef,v18,y0,.pointer (some ⟨B,6,none⟩),r.f,y3,.agg #[num x1,num x2],y5,.slice (some ⟨g,0,none⟩) (d.feasts.length+1) cap,.pointer (some ⟨Bo,6,none⟩),undef,undef,undef,undef,undef,undef,undef,undef,undef,undef,undef,undef,undef,undef,undef,undef,undef,undef,undef,undef,undef,undef,undef,undef,undef,undef,undef,undef,undef,undef,undef,undef,undef,undef,undef,undef,undef,undef,undef,undef,undef,undef,undef,undef,undef,undef,undef,undef,undef,undef,undef,undef,undef,undef,undef,undef,undef,undef,undef,undef,undef,undef,undef,undef,undef,undef,undef,undef,undef,undef,undef,undef,undef,undef,undef,undef,undef,undef,undef,undef,undef,undef,undef,undef,undef,undef,undef] ∧
   Y.heap.size≤w'.heap.size∧(∀ b,b<Y.heap.size→b≠Bo→w'.heap[b]?=Y.heap[b]?)∧(w'.os=Y.os∧w'.tape=Y.tape∧w'.output=Y.output)∧w'.heap[Bo]?=some (.cells (oc.setIfInBounds 6 (.slice (some ⟨g,0,none⟩) (d.feasts.length+1) cap)) 31 (0,0))∧d.feasts.length+1≤cap∧Y.heap.size≤g ∧
   Sl w' (.slice (some ⟨g,0,none⟩) (d.feasts.length+1) cap) 2 ((d.feasts++[(x1,x2)]).map two)∧Kind w' (.slice (some ⟨g,0,none⟩) (d.feasts.length+1) cap)) 2 #[true,true,true,true,true,true,true,false,false] ⟨#[v0,v1,v2,.pointer (some ⟨B,0,none⟩),.pointer (some ⟨Bx,0,none⟩),undef,.bool false,.pointer (some ⟨Bo,0,none⟩),undef,undef,undef,undef,undef,undef,undef,undef,undef,undef,v18,y0,.pointer (some ⟨B,6,none⟩),r.f,y3,.agg #[num x1,num x2],y5,y6,undef,undef,undef,undef,undef,undef,undef,undef,undef,undef,undef,undef,undef,undef,undef,undef,undef,undef,undef,undef,undef,undef,undef,undef,undef,undef,undef,undef,undef,undef,undef,undef,undef,undef,undef,undef,undef,undef,undef,undef,undef,undef,undef,undef,undef,undef,undef,undef,undef,undef,undef,undef,undef,undef,undef,undef,undef,undef,undef,undef,undef,undef,undef,undef,undef,undef,undef,undef,undef,undef,undef,undef,undef,undef,undef,undef,undef,undef,undef,undef,undef,undef,undef,undef,undef,undef,undef,undef],[]⟩ w4:=by
  intro y0 y3 y5 y6 w4 n4 hown
  have hsl:=own_sl (fun y hy=>by obtain⟨z,_,rfl⟩:=List.mem_map.1 hy;rfl) (by simp) hown
  obtain⟨g,cap,rfl,hg,hgl,hcap,hk⟩:=own_shape (by omega) hown
  have hob:w4.heap[Bo]?=some (.cells oc 31 (0,0)):=(n4.block _ hol).trans hO
  obtain⟨z0,hz0⟩:∃ z,oc[6]?=some z:=⟨_,Array.getElem?_eq_getElem (by omega)⟩
  have hcl:w4.cell? ⟨Bo,6,none⟩=some z0:=by unfold World.cell?;dsimp only;rw [hob];exact hz0
  have hfz:w4.frozen? ⟨Bo,6,none⟩=false:=frozen_of_row _ _ _ _ _ hob
  refine wpAnyC_takeR (i:=7) (oi:=⟨some 26,.fieldAddr 31 (.tmp 7) 6,_,_,_,none⟩) (v:=.pointer (some ⟨Bo,6,none⟩)) (plain_ops (by kernel_rfl)) rfl (by kernel_rfl) (by kernel_rfl) (by kernel_rfl) (fun _ _ _ h=>by cases h.1) (yC_f31_6 rfl) ?_
  simp only [Act.put,List.setIfInBounds_toArray,List.set_cons_succ,List.set_cons_zero]
  refine wpAnyC_as (l':=#[true,true,true,true,true,true,true,true,false]) rfl ?_
  refine wpAnyC_only (i:=8) (o:=⟨none,.store 24 (.tmp 26) (.tmp 25),_,_,_,none⟩) (by kernel_rfl) rfl rfl (cN _ n4) ?_
  intro K hK
  refine wpIn_of_skip rfl rfl (st24_run _ rfl rfl hcl hfz) ?_
  simp only [Act.put]
  refine hK _ _ ?_
  refine wpAnyC_as (l':=#[true,true,true,true,true,true,true,true,true]) rfl ?_
  have hneg:g≠Bo:=by omega
  have hoth:∀ b,b≠Bo→(w4.setCell ⟨Bo,6,none⟩ (.slice (some ⟨g,0,none⟩) (d.feasts.length+1) cap)).heap[b]?=w4.heap[b]?:=fun b hb=>heap_setCell_other _ _ _ _ (by exact hb)
  have hsz:(w4.setCell ⟨Bo,6,none⟩ (.slice (some ⟨g,0,none⟩) (d.feasts.length+1) cap)).heap.size=w4.heap.size:=by simp
  refine wpAnyC_done (by kernel_rfl) ⟨(hoth _ hBo).trans (n4.block _ hB),(hoth _ hXo).trans (n4.block _ hbl)⟩ ⟨rfl,rfl,y0,y3,y5,g,cap,rfl,by rw [hsz];exact n4.size,fun b hb hbo=>(hoth b hbo).trans (n4.block _ hb),⟨n4.os,n4.tape,n4.output⟩,?_,hcap,hg,?_,?_⟩
  ·unfold World.setCell
   simp [Array.getElem?_modify,hob]
  ·obtain⟨c',⟨h0,e⟩ | ⟨b,o,e,h2,h3⟩⟩:=hsl
   ·cases e
   ·simp only [Value.slice.injEq,Option.some.injEq,Addr.mk.injEq,and_true] at e
    obtain⟨⟨rfl,rfl⟩,e2,rfl⟩:=e
    exact⟨cap,.inr ⟨_,_,by rw [← e2],by rw [hsz];exact h2,fun j k l x hj hk=>by
     have:=h3 j k l x hj hk
     unfold World.cell? at this ⊢
     dsimp only at this ⊢
     rw [hoth _ hneg]
     exact this⟩⟩
  ·intro a n c e
   cases e
   obtain⟨q1,q2,q3,q4⟩:=hk _ _ _ rfl
   exact⟨q1,q2,q3,(hoth _ hneg).trans q4⟩
 generalize Y.drew=q at *
 have nq:=n0
 clear n0
 refine wpAnyC_two (i:=0) (j:=5) (oi:=⟨some 19,.buildSlice 24 0 #[],_,_,_,none⟩) (oj:=⟨some 24,.buildSlice 24 1 #[(0,.tmp 23)],_,_,_,none⟩) (by kernel_rfl) rfl rfl rfl rfl (cN _ nq) ?_ ?_
 ·skip
  intro K hK
  refine wpIn_of_value (v:=.slice (some ⟨q.heap.size,0,none⟩) 0 0) (w1:=q.alloc (.cells #[] 28)) rfl rfl (by simp [execOp,go_sem]) ?_
  simp only [Act.put,List.setIfInBounds_toArray,List.set_cons_succ,List.set_cons_zero]
  refine hK _ _ ?_
  refine wpAnyC_as (l':=#[true,true,true,false,true,false,false,false,false]) rfl ?_
  have nw:Nx Y (q.alloc (.cells #[] 28)):=alloc_nx nq _
  have gw:(q.alloc (.cells #[] 28)).heap[q.heap.size]?=some (.cells #[] 28 (0,0)):=heap_alloc_new _ _
  have hgA:Y.heap.size≤q.heap.size:=nq.size
  generalize q.heap.size=gA at *
  generalize q.alloc (.cells #[] 28)=w1 at *
  have nw1:=nw
  have ga:=gw
  clear nw gw
  refine wpAnyC_two (i:=3) (j:=5) (oi:=⟨some 22,.call { callee:=.builtin .append,args:=#[.tmp 19,.tmp 21],argTypes:=#[24,24] },_,_,_,none⟩) (oj:=⟨some 24,.buildSlice 24 1 #[(0,.tmp 23)],_,_,_,none⟩) (by kernel_rfl) rfl rfl rfl rfl (cN _ nw1) ?_ ?_
  ·skip
   intro K hK
   obtain⟨y3,w2,hr1,hown,hgr,hob⟩:=run_copy T24 Y.heap.size w1 gA ga hgA r.f (d.feasts.map two) hr h1 (hs.nx nw1) (by rw [hn];omega) (by rw [hn];omega)
   rw [hn] at hown
   refine wpIn_of_value rfl rfl (app_run _ rfl rfl hr1) ?_
   simp only [Act.put,List.setIfInBounds_toArray,List.set_cons_succ,List.set_cons_zero]
   refine hK _ _ ?_
   refine wpAnyC_as (l':=#[true,true,true,true,true,false,false,false,false]) rfl ?_
   have nw2:Nx Y w2:=nw1.grown hgr fun z hz=>by cases hz;exact hgA
   clear hr1 hgr hob
   refine wpAnyC_only (i:=5) (o:=⟨some 24,.buildSlice 24 1 #[(0,.tmp 23)],_,_,_,none⟩) (by kernel_rfl) rfl rfl (cN _ nw2) ?_
   intro K hK
   refine wpIn_of_value (v:=.slice (some ⟨w2.heap.size,0,none⟩) 1 1) (w1:=w2.alloc (.cells #[num x1,num x2] 28)) rfl rfl (by simp [execOp,go_sem]) ?_
   simp only [Act.put,List.setIfInBounds_toArray,List.set_cons_succ,List.set_cons_zero]
   refine hK _ _ ?_
   refine wpAnyC_as (l':=#[true,true,true,true,true,true,false,false,false]) rfl ?_
   have nw:Nx Y (w2.alloc (.cells #[num x1,num x2] 28)):=alloc_nx nw2 _
   have gw:(w2.alloc (.cells #[num x1,num x2] 28)).heap[w2.heap.size]?=some (.cells #[num x1,num x2] 28 (0,0)):=heap_alloc_new _ _
   have ow2:=hown.alloc (.cells #[num x1,num x2] 28)
   clear hown
   generalize w2.heap.size=gD at *
   generalize w2.alloc (.cells #[num x1,num x2] 28)=w3 at *
   have nw3:=nw
   have gd:=gw
   clear nw gw
   have hown:=ow2
   clear ow2
   refine wpAnyC_only (i:=6) (o:=⟨some 25,.call { callee:=.builtin .append,args:=#[.tmp 22,.tmp 24],argTypes:=#[24,24] },_,_,_,none⟩) (by kernel_rfl) rfl rfl (cN _ nw3) ?_
   intro K hK
   obtain⟨y6,w4,hr1,how2,hgr⟩:=run_more T24 Y.heap.size w3 y3 (d.feasts.map two) hr (by rw [hn];exact hown) gD [num x1,num x2] rfl gd (by simp [Value.oneCell']) (by rw [hn];exact hl) (by rw [hn];omega) nw3.size
   rw [hn,show d.feasts.map two++[[num x1,num x2]]=(d.feasts++[(x1,x2)]).map two by rw [List.map_append];rfl] at how2
   refine wpIn_of_value rfl rfl (app_run _ rfl rfl hr1) ?_
   simp only [Act.put,List.setIfInBounds_toArray,List.set_cons_succ,List.set_cons_zero]
   refine hK _ _ ?_
   refine wpAnyC_as (l':=#[true,true,true,true,true,true,true,false,false]) rfl ?_
   exact fin _ _ _ _ _ (nw3.grown hgr fun z hz=>(hown.lt z hz).1) how2
  ·skip
   intro K hK
   refine wpIn_of_value (v:=.slice (some ⟨w1.heap.size,0,none⟩) 1 1) (w1:=w1.alloc (.cells #[num x1,num x2] 28)) rfl rfl (by simp [execOp,go_sem]) ?_
   simp only [Act.put,List.setIfInBounds_toArray,List.set_cons_succ,List.set_cons_zero]
   refine hK _ _ ?_
   refine wpAnyC_as (l':=#[true,true,true,false,true,true,false,false,false]) rfl ?_
   have nw:Nx Y (w1.alloc (.cells #[num x1,num x2] 28)):=alloc_nx nw1 _
   have gw:(w1.alloc (.cells #[num x1,num x2] 28)).heap[w1.heap.size]?=some (.cells #[num x1,num x2] 28 (0,0)):=heap_alloc_new _ _
   have ga2:(w1.alloc (.cells #[num x1,num x2] 28)).heap[gA]?=some (.cells #[] 28 (0,0)):=(heap_alloc_old _ _ (Array.getElem?_eq_some_iff.1 ga).1).trans ga
   have hDA:w1.heap.size≠gA:=by have:=(Array.getElem?_eq_some_iff.1 ga).1;omega
   clear ga
   generalize w1.heap.size=gD at *
   generalize w1.alloc (.cells #[num x1,num x2] 28)=w5 at *
   have nw5:=nw
   have gd:=gw
   clear nw gw
   have ga:=ga2
   clear ga2
   refine wpAnyC_only (i:=3) (o:=⟨some 22,.call { callee:=.builtin .append,args:=#[.tmp 19,.tmp 21],argTypes:=#[24,24] },_,_,_,none⟩) (by kernel_rfl) rfl rfl (cN _ nw5) ?_
   intro K hK
   obtain⟨y3,w6,hr1,hown,hgr,hob⟩:=run_copy T24 Y.heap.size w5 gA ga hgA r.f (d.feasts.map two) hr h1 (hs.nx nw5) (by rw [hn];omega) (by rw [hn];omega)
   rw [hn] at hown
   refine wpIn_of_value rfl rfl (app_run _ rfl rfl hr1) ?_
   simp only [Act.put,List.setIfInBounds_toArray,List.set_cons_succ,List.set_cons_zero]
   refine hK _ _ ?_
   refine wpAnyC_as (l':=#[true,true,true,true,true,true,false,false,false]) rfl ?_
   have nw6:Nx Y w6:=nw5.grown hgr fun z hz=>by cases hz;exact hgA
   have gd3:=(hgr.block gD (Array.getElem?_eq_some_iff.1 gd).1 (by simpa using hDA)).trans gd
   clear gd
   have gd:=gd3
   clear hr1 hgr hob
   refine wpAnyC_only (i:=6) (o:=⟨some 25,.call { callee:=.builtin .append,args:=#[.tmp 22,.tmp 24],argTypes:=#[24,24] },_,_,_,none⟩) (by kernel_rfl) rfl rfl (cN _ nw6) ?_
   intro K hK
   obtain⟨y6,w7,hr1,how2,hgr⟩:=run_more T24 Y.heap.size w6 y3 (d.feasts.map two) hr (by rw [hn];exact hown) gD [num x1,num x2] rfl gd (by simp [Value.oneCell']) (by rw [hn];exact hl) (by rw [hn];omega) nw6.size
   rw [hn,show d.feasts.map two++[[num x1,num x2]]=(d.feasts++[(x1,x2)]).map two by rw [List.map_append];rfl] at how2
   refine wpIn_of_value rfl rfl (app_run _ rfl rfl hr1) ?_
   simp only [Act.put,List.setIfInBounds_toArray,List.set_cons_succ,List.set_cons_zero]
   refine hK _ _ ?_
   refine wpAnyC_as (l':=#[true,true,true,true,true,true,true,false,false]) rfl ?_
   exact fin _ _ _ _ _ (nw6.grown hgr fun z hz=>(hown.lt z hz).1) how2
 ·skip
  intro K hK
  refine wpIn_of_value (v:=.slice (some ⟨q.heap.size,0,none⟩) 1 1) (w1:=q.alloc (.cells #[num x1,num x2] 28)) rfl rfl (by simp [execOp,go_sem]) ?_
  simp only [Act.put,List.setIfInBounds_toArray,List.set_cons_succ,List.set_cons_zero]
  refine hK _ _ ?_
  refine wpAnyC_as (l':=#[false,true,true,false,true,true,false,false,false]) rfl ?_
  have nw:Nx Y (q.alloc (.cells #[num x1,num x2] 28)):=alloc_nx nq _
  have gw:(q.alloc (.cells #[num x1,num x2] 28)).heap[q.heap.size]?=some (.cells #[num x1,num x2] 28 (0,0)):=heap_alloc_new _ _
  generalize q.heap.size=gD at *
  generalize q.alloc (.cells #[num x1,num x2] 28)=w8 at *
  have nw8:=nw
  have gd:=gw
  clear nw gw
  refine wpAnyC_only (i:=0) (o:=⟨some 19,.buildSlice 24 0 #[],_,_,_,none⟩) (by kernel_rfl) rfl rfl (cN _ nw8) ?_
  intro K hK
  refine wpIn_of_value (v:=.slice (some ⟨w8.heap.size,0,none⟩) 0 0) (w1:=w8.alloc (.cells #[] 28)) rfl rfl (by simp [execOp,go_sem]) ?_
  simp only [Act.put,List.setIfInBounds_toArray,List.set_cons_succ,List.set_cons_zero]
  refine hK _ _ ?_
  refine wpAnyC_as (l':=#[true,true,true,false,true,true,false,false,false]) rfl ?_
  have nw:Nx Y (w8.alloc (.cells #[] 28)):=alloc_nx nw8 _
  have gw:(w8.alloc (.cells #[] 28)).heap[w8.heap.size]?=some (.cells #[] 28 (0,0)):=heap_alloc_new _ _
  have hgA:Y.heap.size≤w8.heap.size:=nw8.size
  have gd2:(w8.alloc (.cells #[] 28)).heap[gD]?=some (.cells #[num x1,num x2] 28 (0,0)):=(heap_alloc_old _ _ (Array.getElem?_eq_some_iff.1 gd).1).trans gd
  have hDA:gD≠w8.heap.size:=by have:=(Array.getElem?_eq_some_iff.1 gd).1;omega
  clear gd
  generalize w8.heap.size=gA at *
  generalize w8.alloc (.cells #[] 28)=w9 at *
  have nw9:=nw
  have ga:=gw
  clear nw gw
  have gd:=gd2
  clear gd2
  refine wpAnyC_only (i:=3) (o:=⟨some 22,.call { callee:=.builtin .append,args:=#[.tmp 19,.tmp 21],argTypes:=#[24,24] },_,_,_,none⟩) (by kernel_rfl) rfl rfl (cN _ nw9) ?_
  intro K hK
  obtain⟨y3,w10,hr1,hown,hgr,hob⟩:=run_copy T24 Y.heap.size w9 gA ga hgA r.f (d.feasts.map two) hr h1 (hs.nx nw9) (by rw [hn];omega) (by rw [hn];omega)
  rw [hn] at hown
  refine wpIn_of_value rfl rfl (app_run _ rfl rfl hr1) ?_
  simp only [Act.put,List.setIfInBounds_toArray,List.set_cons_succ,List.set_cons_zero]
  refine hK _ _ ?_
  refine wpAnyC_as (l':=#[true,true,true,true,true,true,false,false,false]) rfl ?_
  have nw10:Nx Y w10:=nw9.grown hgr fun z hz=>by cases hz;exact hgA
  have gd3:=(hgr.block gD (Array.getElem?_eq_some_iff.1 gd).1 (by simpa using hDA)).trans gd
  clear gd
  have gd:=gd3
  clear hr1 hgr hob
  refine wpAnyC_only (i:=6) (o:=⟨some 25,.call { callee:=.builtin .append,args:=#[.tmp 22,.tmp 24],argTypes:=#[24,24] },_,_,_,none⟩) (by kernel_rfl) rfl rfl (cN _ nw10) ?_
  intro K hK
  obtain⟨y6,w11,hr1,how2,hgr⟩:=run_more T24 Y.heap.size w10 y3 (d.feasts.map two) hr (by rw [hn];exact hown) gD [num x1,num x2] rfl gd (by simp [Value.oneCell']) (by rw [hn];exact hl) (by rw [hn];omega) nw10.size
  rw [hn,show d.feasts.map two++[[num x1,num x2]]=(d.feasts++[(x1,x2)]).map two by rw [List.map_append];rfl] at how2
  refine wpIn_of_value rfl rfl (app_run _ rfl rfl hr1) ?_
  simp only [Act.put,List.setIfInBounds_toArray,List.set_cons_succ,List.set_cons_zero]
  refine hK _ _ ?_
  refine wpAnyC_as (l':=#[true,true,true,true,true,true,true,false,false]) rfl ?_
  exact fin _ _ _ _ _ (nw10.grown hgr fun z hz=>(hown.lt z hz).1) how2
end Go.Proofs.YtolholkjeehamaaDoor

namespace Go.Proofs.YtolholkjeehamaaDoor
open Go.RowKit Go.Con Go.Conc
local instance:Lone:=mainL
theorem feast_box (d:Dit) (r:Rows6) (Y:World) (B:Nat) (v0 v1 v2 v4:Value) (hd:DitSl Y d r) (hc:∀ i v,(d.cellsA r)[i]?=some v→Y.cell? ⟨B,i,none⟩=some v) :
  q1.wpIn (FG 14) 0 Tryd.prog (fun e a w'=>e=.normal∧a.defers=[]∧a.tmps=#[v0,v1,v2,.pointer (some ⟨B,0,none⟩),v4,undef,.bool false,.pointer (some ⟨Y.heap.size,0,none⟩),undef,undef,undef,undef,undef,undef,undef,undef,undef,undef,d.val r,undef,undef,undef,undef,undef,undef,undef,undef,undef,undef,undef,undef,undef,undef,undef,undef,undef,undef,undef,undef,undef,undef,undef,undef,undef,undef,undef,undef,undef,undef,undef,undef,undef,undef,undef,undef,undef,undef,undef,undef,undef,undef,undef,undef,undef,undef,undef,undef,undef,undef,undef,undef,undef,undef,undef,undef,undef,undef,undef,undef,undef,undef,undef,undef,undef,undef,undef,undef,undef,undef,undef,undef,undef,undef,undef,undef,undef,undef,undef,undef,undef,undef,undef,undef,undef,undef,undef,undef,undef,undef,undef,undef,undef,undef,undef]∧w'=Y.alloc (.cells (d.cellsA r) 31)) ⟨#[v0,v1,v2,.pointer (some ⟨B,0,none⟩),v4,undef,.bool false,undef,undef,undef,undef,undef,undef,undef,undef,undef,undef,undef,undef,undef,undef,undef,undef,undef,undef,undef,undef,undef,undef,undef,undef,undef,undef,undef,undef,undef,undef,undef,undef,undef,undef,undef,undef,undef,undef,undef,undef,undef,undef,undef,undef,undef,undef,undef,undef,undef,undef,undef,undef,undef,undef,undef,undef,undef,undef,undef,undef,undef,undef,undef,undef,undef,undef,undef,undef,undef,undef,undef,undef,undef,undef,undef,undef,undef,undef,undef,undef,undef,undef,undef,undef,undef,undef,undef,undef,undef,undef,undef,undef,undef,undef,undef,undef,undef,undef,undef,undef,undef,undef,undef,undef,undef,undef,undef],[]⟩ Y:=by
 obtain⟨c0,c1,c2,c3,c4,c5,c6,c7,c8,c9,c10,c11,c12,c13⟩:=cells14 hc
 obtain⟨ah,hh,eh⟩:=hd.holders.cases
 obtain⟨at1,ht,et⟩:=hd.turns.cases
 obtain⟨af,hf,ef⟩:=hd.feasts.cases
 obtain⟨as1,hs,es⟩:=hd.swaps.cases
 obtain⟨al,hl,el⟩:=hd.loans.cases
 obtain⟨ap,hp,ep⟩:=hd.plots.cases
 have hval:d.val r=.agg #[r.h,r.t,num d.begin_,num d.week,num d.from_,num d.long,r.f,r.s,r.l,num d.flow.1,num d.flow.2,num d.loss.1,num d.loss.2,r.p]:=rfl
 have hcel:d.cellsA r=#[r.h,r.t,num d.begin_,num d.week,num d.from_,num d.long,r.f,r.s,r.l,num d.flow.1,num d.flow.2,num d.loss.1,num d.loss.2,r.p]:=rfl
 rw [hval,hcel]
 clear hval hcel hc hd
 rw [eh] at c0;rw [et] at c1;rw [ef] at c6;rw [es] at c7;rw [el] at c8;rw [ep] at c13
 rw [eh,et,ef,es,el,ep]
 generalize (d.holders.map fun s=>[str s]).length=nh at *
 generalize (d.turns.map two).length=nt at *
 generalize (d.feasts.map two).length=nf at *
 generalize (d.swaps.map three).length=ns at *
 generalize (d.loans.map three).length=nl at *
 generalize (d.plots.map Plot.cells).length=np at *
 clear eh et ef es el ep
 simp only [q1,qp8,qp7,qp6,qp5,qp4,qp3,qp2,qp1,lawB14,seqL,seqR,Tryd.f14]
 gi_wp2
def FeastR (x1 x2:Int) (W:World) (t:Array Value) (W2:World):Prop:=Old W W2∧∃ (n m:Int) (b:Nat),m≤n∧n-(x2-x1+1)≤m∧(0≤n∧n≤999999999)∧(0≤x1∧x1≤x2∧x2≤999999999)∧t.size=114∧t[15]?=some (num 0)∧t[17]?=some (num 0)∧t[16]?=some (num m)∧t[14]?=some (num n)∧t[4]?=some (.pointer (some ⟨b,0,none⟩)) ∧
 W2.cell? ⟨b,1,none⟩=some (num x2)∧W2.cell? ⟨b,0,none⟩=some (num x1)
theorem feast_lone (d:Dit) (r:Rows6) (x1 x2 x:Int) (W:World) (hd:DitSl W d r) (hb:d.Big) (hf:d.feasts.length * 16≤140737488351232) (hg:Glob W) (hx:0≤x∧x≤4294967295) :
  Lones Tryd.prog (FG 14) [q0,q1,q2,q3] (fun t W1=>Old W W1∧t.size=114∧(t[39]?=some (.bool true)∨(t[39]?=some (.bool false)∧Lones Tryd.prog (FG 14) [q5,q6,q13,q14] (FeastR x1 x2 W) t W1)))
   #[d.val r,.agg #[num x1,num x2],.int .u32 x,undef,undef,undef,undef,undef,undef,undef,undef,undef,undef,undef,undef,undef,undef,undef,undef,undef,undef,undef,undef,undef,undef,undef,undef,undef,undef,undef,undef,undef,undef,undef,undef,undef,undef,undef,undef,undef,undef,undef,undef,undef,undef,undef,undef,undef,undef,undef,undef,undef,undef,undef,undef,undef,undef,undef,undef,undef,undef,undef,undef,undef,undef,undef,undef,undef,undef,undef,undef,undef,undef,undef,undef,undef,undef,undef,undef,undef,undef,undef,undef,undef,undef,undef,undef,undef,undef,undef,undef,undef,undef,undef,undef,undef,undef,undef,undef,undef,undef,undef,undef,undef,undef,undef,undef,undef,undef,undef,undef,undef,undef,undef] W:=by
 intro τ
 generalize hw0:({ W with tape:=τ }:World)=w0
 have hO0:Old W w0:=by rw [← hw0];exact .same rfl
 clear hw0
 have hd0:=hd.old hO0
 generalize hY:(w0.alloc (.cells (d.cellsA r) 31)).alloc (.cells #[.int .i64 x1,.int .i64 x2] 28)=Y
 obtain⟨g1,g2,sY,nY⟩:=al2 hY
 have hcd:d.cellsA r=#[r.h,r.t,num d.begin_,num d.week,num d.from_,num d.long,r.f,r.s,r.l,num d.flow.1,num d.flow.2,num d.loss.1,num d.loss.2,r.p]:=rfl
 rw [hcd] at hY
 simp only [q0,lawB14,seqL,seqR,Tryd.f14]
 gi_wp2
 clear hcd hY
 intro τ1
 generalize hY1:({ Y with tape:=τ1 }:World)=Y1
 have h1:Y1.heap=Y.heap:=by rw [← hY1]
 have n1:Nx Y Y:=Below.refl _ _
 clear hY1
 have hot1:∀ b,b<w0.heap.size→Y1.heap[b]?=w0.heap[b]?:=fun b hb=>by rw [h1];exact nY.block b hb
 have g1' : Y1.heap[w0.heap.size]?=some (.cells (d.cellsA r) 31 (0,0)):=by rw [h1];exact g1
 have g2' : Y1.heap[w0.heap.size+1]?=some (.cells #[num x1,num x2] 28 (0,0)):=by rw [h1];exact g2
 have s1:Y1.heap.size=w0.heap.size+2:=by rw [h1];exact sY
 have o1:Old w0 Y1:=old_blocks (by omega) hot1
 clear h1 g1 g2 sY nY n1
 refine wpIn_mono (feast_box d r Y1 w0.heap.size _ _ _ _ (hd0.old o1) (fun i v h=>by unfold World.cell?;dsimp only;rw [g1'];exact h)) ?_
 rintro e a w' ⟨rfl,h2,ht,rfl⟩
 refine⟨rfl,h2,?_⟩
 rw [ht,s1]
 clear h2 ht
 intro τ2
 generalize hY2:({ Y1.alloc (.cells (d.cellsA r) 31) with tape:=τ2 }:World)=Y2
 have h2:Y2.heap=(Y1.alloc (.cells (d.cellsA r) 31)).heap:=by rw [← hY2]
 clear hY2
 have k1:Y2.heap[w0.heap.size]?=some (.cells (d.cellsA r) 31 (0,0)):=by rw [h2];exact (heap_alloc_old _ _ (by omega)).trans g1'
 have k2:Y2.heap[w0.heap.size+1]?=some (.cells #[num x1,num x2] 28 (0,0)):=by rw [h2];exact (heap_alloc_old _ _ (by omega)).trans g2'
 have k3:Y2.heap[w0.heap.size+2]?=some (.cells (d.cellsA r) 31 (0,0)):=by rw [h2,← s1];exact heap_alloc_new _ _
 have hot2:∀ b,b<w0.heap.size→Y2.heap[b]?=w0.heap[b]?:=fun b hb=>by rw [h2];exact (heap_alloc_old _ _ (by omega)).trans (hot1 b hb)
 have s2:Y2.heap.size=w0.heap.size+3:=by rw [h2];simp [s1]
 have o2:Old w0 Y2:=old_blocks (by omega) hot2
 clear h2 hot1 g1' g2' s1 o1
 refine wpIn_mono (feast_app d r x1 x2 Y2 w0.heap.size (w0.heap.size+1) (w0.heap.size+2) (d.cellsA r) _ _ _ _ (fun i v h=>by unfold World.cell?;dsimp only;rw [k1];exact h) (by omega) k2 k3 rfl (by omega) (by omega) (hd0.old o2).feasts (by omega)) ?_
 rintro e a w' ⟨rfl,h2,y0,y3,y5,g,cap,ht,hsz,hot,hos,hbo,hcap,hgY,hsl,hk⟩
 refine⟨rfl,h2,?_⟩
 rw [ht]
 clear h2 ht hos
 have o3:Old w0 w':=old_blocks (by omega) fun b hb=>(hot b (by omega) (by omega)).trans (hot2 b hb)
 have m1:w'.heap[w0.heap.size]?=some (.cells (d.cellsA r) 31 (0,0)):=(hot _ (by omega) (by omega)).trans k1
 have m2:w'.heap[w0.heap.size+1]?=some (.cells #[num x1,num x2] 28 (0,0)):=(hot _ (by omega) (by omega)).trans k2
 have s3:w0.heap.size+3≤w'.heap.size:=by omega
 have hd3:=hd0.old o3
 have hdo:DitSl w' (d.feast (x1,x2)) { r with f:=.slice (some ⟨g,0,none⟩) (d.feasts.length+1) cap }:=⟨hd3.holders,hd3.turns,hsl,hd3.swaps,hd3.loans,hd3.plots,hd3.cap0,hd3.cap13,fun v hv=>by
  have hkk:=hd3.kinds
  simp only [List.mem_cons,List.not_mem_nil,or_false,forall_eq_or_imp,forall_eq] at hkk
  obtain⟨h1,h2,h3,h4,h5,h6⟩:=hkk
  simp only [List.mem_cons,List.not_mem_nil,or_false] at hv
  rcases hv with rfl | rfl | rfl | rfl | rfl | rfl
  ·exact h1
  ·exact h2
  ·exact hk
  ·exact h4
  ·exact h5
  ·exact h6⟩
 have hbo2:(d.feast (x1,x2)).Big:=⟨hb.h,hb.t,by show (d.feasts++[(x1,x2)]).length≤_;rw [List.length_append];simp;omega,hb.s,hb.l,hb.p,hb.hn,hb.pn⟩
 have m3:w'.heap[w0.heap.size+2]?=some (.cells ((d.feast (x1,x2)).cellsA { r with f:=.slice (some ⟨g,0,none⟩) (d.feasts.length+1) cap }) 31 (0,0)):=hbo
 have hfl:(d.feast (x1,x2)).feasts.length=d.feasts.length+1:=by show (d.feasts++[(x1,x2)]).length=_;simp
 have hsm:(d.feast (x1,x2)).Small→d.Small:=fun h=>⟨h.h,h.t,by have:=h.f;omega,h.s,h.l,h.p,h.hn,h.pn⟩
 clear hfl
 have HF:=Lib.hid (fun (hc:checkS d=0) (hx:checkS (d.feast (x1,x2))=0) (a:Int) (ha:0≤a∧a≤999999999)=>feast_law hc hx ha)
 generalize d.feast (x1,x2)=o at *
 generalize ({ r with f:=.slice (some ⟨g,0,none⟩) (d.feasts.length+1) cap }:Rows6)=ro at *
 clear hbo hsl hk hcap hgY hot hot2 k1 k2 k3 hsz s2 o2 hd0 hf
 intro τ3
 generalize hw1:({ w' with tape:=τ3 }:World)=w1
 have h3:w1.heap=w'.heap:=by rw [← hw1]
 have oww:Old w' w1:=by rw [← hw1];exact .same rfl
 clear hw1
 have hOw:Old W w1:=hO0.trans (o3.trans oww)
 have HD1:=Lib.hid (hd3.old oww)
 have HDO:=Lib.hid (hdo.old oww)
 have cells:∀ (b:Nat) (cs:Array Value) (T:TypeId),w'.heap[b]?=some (.cells cs T (0,0))→∀ w2,Old w1 w2→∀ i v,cs[i]?=some v→w2.cell? ⟨b,i,none⟩=some v:=fun b cs T hb w2 o i v hv=>by
  have hl:=(Array.getElem?_eq_some_iff.1 hb).1
  rw [o.cell ⟨b,i,none⟩ (by rw [h3];exact hl)]
  unfold World.cell?
  dsimp only
  rw [h3,hb]
  exact hv
 have CO:=Lib.hid (cells _ _ _ m1)
 have CQ:=Lib.hid (cells _ _ _ m3)
 have CX:=Lib.hid (cells _ _ _ m2)
 have hBl:w0.heap.size+3≤w1.heap.size:=by rw [h3];exact s3
 obtain⟨ah,caph,eh⟩:=hd.holders.cases
 rw [List.length_map] at eh
 have CH:=Lib.hid (show ∀ w2,Old w1 w2→w2.cell? ⟨w0.heap.size,0,none⟩=some (.slice ah d.holders.length caph) from fun w2 o=>(CO.out w2 o 0 r.h rfl).trans (by rw [eh]))
 have HG:=Lib.hid (hg.old hOw)
 clear cells m1 m2 m3 s3 h3 oww hd3 hdo o3 hd hg hO0 eh
 simp only [q3,qp8,qp7,qp6,qp5,qp4,qp3,qp2,qp1,lawB14,seqL,seqR,Tryd.f14]
 have k19:=toFG 14 (m:=0) (great_big o ro 0 0 (.slice none 0 0) [] w1 HDO.out hbo2 ⟨0,.inl ⟨rfl,rfl⟩⟩ (Nat.zero_le _))
 obtain⟨p0,p1,p2,p3,p4,p5,p6,p7,p8,p9,p10,p11,p12,p13⟩:=cells14 (CQ.out w1 (Old.refl _))
 cases hgr:greatS o 0 with
 | true =>
  rw [show ([]:List (List Value)).length=0 from rfl,hgr] at k19
  gi_wp2_with (first
   | (gi_at_call 19;refine CallsIn.mono k19 ?_;rintro e w2 ⟨rfl,x2⟩)
   | gi_in)
  exact⟨hOw.trans (.nx x2),rfl,.inl rfl⟩
 | false =>
 rw [show ([]:List (List Value)).length=0 from rfl,hgr] at k19
 have hso:=small_of_great hgr
 have hs:=hsm hso
 have k25:=Lib.hid (fun w2 (o:Old w1 w2)=>toFG 14 (m:=0) (check25_any d r w2 (HD1.out.old o) hs))
 have j25:=Lib.hid (fun w2 (oo:Old w1 w2)=>toFG 14 (m:=0) (check25_any o ro w2 (HDO.out.old oo) hso))
 clear hgr hsm
 rcases (Decidable.em (checkS d=0)).symm with hc | hc
 ·have b1:(checkS d != 0)=true:=by simpa using hc
  clear HF
  gi_wp2_with (first
   | (gi_at_call 19;refine CallsIn.mono k19 ?_;rintro e w2 ⟨rfl,x2⟩;clear p0 p1 p2 p3 p4 p5 p6 p7 p8 p9 p10 p11 p12 p13;obtain⟨c0,c1,c2,c3,c4,c5,c6,c7,c8,c9,c10,c11,c12,c13⟩:=cells14 (CO.out w2 (.nx x2));have kk:=k25.out w2 (.nx x2))
   | (gi_at_call 25;refine CallsIn.mono kk ?_;rintro e w3 ⟨rfl,x3⟩)
   | gi_in)
  exact⟨hOw.trans (.trans (.nx x2) (.nx x3)),rfl,.inl rfl⟩
 have HC:=Lib.hid hc
 rcases (Decidable.em (checkS o=0)).symm with hc2 | hc2
 ·have b1:(checkS o != 0)=true:=by simpa using hc2
  have k25b:=Lib.hid (fun w2 (o:Old w1 w2)=>show CallsIn (FG 14) 0 Tryd.prog 25 #[d.val r] w2 fun e w'=>e=Ending.returned (num 0)∧Nx w2 w' by
   have:=k25.out w2 o
   rw [hc] at this
   exact this)
  clear HF hc k25
  gi_wp2_with (first
   | (gi_at_call 19;refine CallsIn.mono k19 ?_;rintro e w2 ⟨rfl,x2⟩;clear p0 p1 p2 p3 p4 p5 p6 p7 p8 p9 p10 p11 p12 p13;obtain⟨c0,c1,c2,c3,c4,c5,c6,c7,c8,c9,c10,c11,c12,c13⟩:=cells14 (CO.out w2 (.nx x2));have kk:=k25b.out w2 (.nx x2))
   | (gi_at_call 25;refine CallsIn.mono kk ?_;rintro e w3 ⟨rfl,x3⟩;clear kk;clear c0 c1 c2 c3 c4 c5 c6 c7 c8 c9 c10 c11 c12 c13;obtain⟨p0,p1,p2,p3,p4,p5,p6,p7,p8,p9,p10,p11,p12,p13⟩:=cells14 (CQ.out w3 ((Old.nx x2).trans (.nx x3)));have kl:=j25.out w3 ((Old.nx x2).trans (.nx x3)))
   | (gi_at_call 25;refine CallsIn.mono kl ?_;rintro e w4 ⟨rfl,x4⟩)
   | gi_in)
  exact⟨hOw.trans (.trans (.nx x2) (.trans (.nx x3) (.nx x4))),rfl,.inl rfl⟩
 have HCO:=Lib.hid hc2
 have k25b:=Lib.hid (fun w2 (o:Old w1 w2)=>show CallsIn (FG 14) 0 Tryd.prog 25 #[d.val r] w2 fun e w'=>e=Ending.returned (num 0)∧Nx w2 w' by
  have:=k25.out w2 o
  rw [hc] at this
  exact this)
 have j25b:=Lib.hid (fun w2 (oo:Old w1 w2)=>show CallsIn (FG 14) 0 Tryd.prog 25 #[o.val ro] w2 fun e w'=>e=Ending.returned (num 0)∧Nx w2 w' by
  have:=j25.out w2 oo
  rw [hc2] at this
  exact this)
 clear hc hc2 k25 j25
 gi_wp2_with (first
  | (gi_at_call 19;refine CallsIn.mono k19 ?_;rintro e w2 ⟨rfl,x2⟩;clear p0 p1 p2 p3 p4 p5 p6 p7 p8 p9 p10 p11 p12 p13;obtain⟨c0,c1,c2,c3,c4,c5,c6,c7,c8,c9,c10,c11,c12,c13⟩:=cells14 (CO.out w2 (.nx x2));have kk:=k25b.out w2 (.nx x2))
  | (gi_at_call 25;refine CallsIn.mono kk ?_;rintro e w3 ⟨rfl,x3⟩;clear kk;clear c0 c1 c2 c3 c4 c5 c6 c7 c8 c9 c10 c11 c12 c13;obtain⟨p0,p1,p2,p3,p4,p5,p6,p7,p8,p9,p10,p11,p12,p13⟩:=cells14 (CQ.out w3 ((Old.nx x2).trans (.nx x3)));have kl:=j25b.out w3 ((Old.nx x2).trans (.nx x3)))
  | (gi_at_call 25;refine CallsIn.mono kl ?_;rintro e w4 ⟨rfl,x4⟩;clear p0 p1 p2 p3 p4 p5 p6 p7 p8 p9 p10 p11 p12 p13)
  | gi_in)
 have oB3:Old w1 w4:=.trans (.nx x2) (.trans (.nx x3) (.nx x4))
 refine⟨hOw.trans oB3,rfl,.inr ⟨rfl,?_⟩⟩
 clear k19 k25b j25b kl
 intro τ5
 generalize hq5:({ w4 with tape:=τ5 }:World)=u5
 have oA5:Old w1 u5:=oB3.trans (by rw [← hq5];exact .same rfl)
 clear hq5
 simp only [q5,qp8,qp7,qp6,qp5,qp4,qp3,qp2,qp1,lawB14,seqL,seqR,Tryd.f14]
 gi_wp2
 have hx1:0≤x % 1000000000∧x % 1000000000≤999999999:=by omega
 generalize x % 1000000000=at0 at *
 obtain⟨f,gg,n,m,e1,e2,e3,hmn,hmn2,hnb,hxb⟩:=HF.out HC.out HCO.out at0 hx1
 have hlh:=(ok_of_check HC.out).h6
 have KD:=Lib.hid (fun (i:Nat) (hil:i<d.holders.length) u (oo:Old w1 u)=>show CallsIn (FG 14) 0 Tryd.prog 21 #[d.val r,num i,num 0,num at0] u fun e w'=>e=Ending.returned (.tuple #[num (f i),num 0])∧Nx u w' by
  have:=toFG 14 (m:=0) (hoursP_any d r i 0 at0 u (HD1.out.old oo) hs (HG.out.old oo))
  rw [(e1 i hil).1] at this;exact this)
 have KO:=Lib.hid (fun (i:Nat) (hil:i<d.holders.length) u (oo:Old w1 u)=>show CallsIn (FG 14) 0 Tryd.prog 21 #[o.val ro,num i,num 0,num at0] u fun e w'=>e=Ending.returned (.tuple #[num (gg i),num 0])∧Nx u w' by
  have:=toFG 14 (m:=0) (hoursP_any o ro i 0 at0 u (HDO.out.old oo) hso (HG.out.old oo))
  rw [(e1 i hil).2.1] at this;exact this)
 have KI:=Lib.hid (fun (i:Nat) (hil:i<d.holders.length)=>(e1 i hil).2.2)
 have KR:=Lib.hid (fun u (oo:Old w1 u)=>show CallsIn (FG 14) 0 Tryd.prog 42 #[d.val r,num 0,num at0] u fun e w'=>e=Ending.returned (.tuple #[num n,num 0])∧Nx u w' by
  have:=toFG 14 (m:=0) (running_any d r 0 at0 u (HD1.out.old oo) hs (HG.out.old oo))
  rw [e2] at this;exact this)
 have KS:=Lib.hid (fun u (oo:Old w1 u)=>show CallsIn (FG 14) 0 Tryd.prog 42 #[o.val ro,num 0,num at0] u fun e w'=>e=Ending.returned (.tuple #[num m,num 0])∧Nx u w' by
  have:=toFG 14 (m:=0) (running_any o ro 0 at0 u (HDO.out.old oo) hso (HG.out.old oo))
  rw [e3] at this;exact this)
 clear e1 e2 e3 HF
 intro τ6
 generalize hq6:({ u5 with tape:=τ6 }:World)=u6
 have oA6:Old w1 u6:=oA5.trans (by rw [← hq6];exact .same rfl)
 clear hq6
 simp only [q6,qp8,qp7,qp6,qp5,qp4,qp3,qp2,qp1,lawB14,seqL,seqR,Tryd.f14]
 have c0:=CH.out u6 oA6
 gi_wp2
 clear c0
 gi_loopw [9] (fun i wr=>∃ k:Nat,k≤d.holders.length∧i=num k∧Nx u6 wr) (fun i _=>d.holders.length-(intOf i).toNat)
 case atStart=>exact⟨0,Nat.zero_le _,rfl,Below.refl _ _⟩
 case round =>
  obtain⟨i,hik,rfl,n2⟩:=hrel
  have oR:Old w1 wr:=oA6.trans (.nx n2)
  by_cases hlt:i<d.holders.length
  ·have kf:=KD.out i hlt wr oR
   have q1:=KI.out i hlt
   have b3:decide (gg i > f i)=false:=by simp;omega
   have c0:=CH.out wr oR
   gi_upto_region 9 with fail
   clear c0
   obtain⟨c0,c1,c2,c3,c4,c5,c6,c7,c8,c9,c10,c11,c12,c13⟩:=cells14 (CO.out wr oR)
   gi_wp2_with (first
    | (gi_at_call 21;refine CallsIn.mono kf ?_;rintro e w5 ⟨rfl,x5⟩;clear kf;clear c0 c1 c2 c3 c4 c5 c6 c7 c8 c9 c10 c11 c12 c13;obtain⟨p0,p1,p2,p3,p4,p5,p6,p7,p8,p9,p10,p11,p12,p13⟩:=cells14 (CQ.out w5 (oR.trans (.nx x5)));have kg:=KO.out i hlt w5 (oR.trans (.nx x5)))
    | (gi_at_call 21;refine CallsIn.mono kg ?_;rintro e w6 ⟨rfl,x6⟩;clear kg;clear p0 p1 p2 p3 p4 p5 p6 p7 p8 p9 p10 p11 p12 p13)
    | gi_in)
   exact⟨⟨i+1,hlt,by simp,Nx.trans n2 (Nx.trans x5 x6)⟩,by simp [intOf];omega⟩
  ·obtain rfl:i=d.holders.length:=by omega
   have c0:=CH.out wr oR
   gi_wp2
   clear c0
   intro τ13
   generalize hq13:({ wr with tape:=τ13 }:World)=u13
   have oA13:Old w1 u13:=oR.trans (by rw [← hq13];exact .same rfl)
   clear hq13
   simp only [q13,qp8,qp7,qp6,qp5,qp4,qp3,qp2,qp1,lawB14,seqL,seqR,Tryd.f14]
   have kk:=KR.out u13 oA13
   obtain⟨c0,c1,c2,c3,c4,c5,c6,c7,c8,c9,c10,c11,c12,c13⟩:=cells14 (CO.out u13 oA13)
   gi_wp2_with (first
    | (gi_at_call 42;refine CallsIn.mono kk ?_;rintro e v13 ⟨rfl,x13⟩)
    | gi_in)
   clear kk
   clear c0 c1 c2 c3 c4 c5 c6 c7 c8 c9 c10 c11 c12 c13
   have oB13:Old w1 v13:=oA13.trans (.nx x13)
   intro τ14
   generalize hq14:({ v13 with tape:=τ14 }:World)=u14
   have oA14:Old w1 u14:=oB13.trans (by rw [← hq14];exact .same rfl)
   clear hq14
   simp only [q14,qp8,qp7,qp6,qp5,qp4,qp3,qp2,qp1,lawB14,seqL,seqR,Tryd.f14]
   have kk:=KS.out u14 oA14
   obtain⟨p0,p1,p2,p3,p4,p5,p6,p7,p8,p9,p10,p11,p12,p13⟩:=cells14 (CQ.out u14 oA14)
   gi_wp2_with (first
    | (gi_at_call 42;refine CallsIn.mono kk ?_;rintro e v14 ⟨rfl,x14⟩)
    | gi_in)
   clear kk
   clear p0 p1 p2 p3 p4 p5 p6 p7 p8 p9 p10 p11 p12 p13
   have oB14:Old w1 v14:=oA14.trans (.nx x14)
   exact (show FeastR _ _ W _ _ from ⟨hOw.trans oB14,n,m,w0.heap.size+1,hmn,hmn2,hnb,hxb,rfl,rfl,rfl,rfl,rfl,rfl,CX.out v14 oB14 1 _ rfl,CX.out v14 oB14 0 _ rfl⟩)
end Go.Proofs.YtolholkjeehamaaDoor

namespace Go.Proofs.YtolholkjeehamaaDoor
open Go.RowKit Go.Con Go.Conc
local instance:Lone:=mainL
theorem results14 (v:Value) (t:Array Value) (h:t[6]?=some v) (σ:Rn):ResultsC Tryd.prog Tryd.f14 (t.map (ren σ)) (ren σ v):=by
 have:=resultsC_tmp (P:=Tryd.prog) (fn:=Tryd.f14) (t:=6) rfl (t.map (ren σ))
 simp only [Array.getD_eq_getD_getElem?,Array.getElem?_map,h,Option.map_some,Option.getD_some] at this
 exact this
theorem feast_go (E Fz Arg:Nat→Prop) (W0:World) (hArg:∀ x,Arg x↔x<W0.heap.size) (Post:Value→World→Prop) (φ:Ph) (d:Dit) (r:Rows6) (x1 x2 x:Int) (W:World) (hd:DitSl W d r) (hb:d.Big) (hf:d.feasts.length * 16≤140737488351232) (hg:Glob W) (hx:0≤x∧x≤4294967295)
  (hPost:∀ Fz1 ρ D own A fr W1 W',Here Tryd.prog true E Fz1 Arg W0 ρ D own A fr [] W1 W'→Post (ren ρ (.bool true)) W') :
  GoM Tryd.prog true E Fz Arg W0 (AtEnd Tryd.prog Post) φ [] (Fr 14 #[d.val r,.agg #[num x1,num x2],.int .u32 x,undef,undef,undef,undef,undef,undef,undef,undef,undef,undef,undef,undef,undef,undef,undef,undef,undef,undef,undef,undef,undef,undef,undef,undef,undef,undef,undef,undef,undef,undef,undef,undef,undef,undef,undef,undef,undef,undef,undef,undef,undef,undef,undef,undef,undef,undef,undef,undef,undef,undef,undef,undef,undef,undef,undef,undef,undef,undef,undef,undef,undef,undef,undef,undef,undef,undef,undef,undef,undef,undef,undef,undef,undef,undef,undef,undef,undef,undef,undef,undef,undef,undef,undef,undef,undef,undef,undef,undef,undef,undef,undef,undef,undef,undef,undef,undef,undef,undef,undef,undef,undef,undef,undef,undef,undef,undef,undef,undef,undef,undef,undef] [.code lawB14]) [] W:=by
 have hgood:goodFn Tryd.prog (.func 14)=false:=by kernel_rfl
 have hL:=feast_lone d r x1 x2 x W hd hb hf hg hx
 rw [lawB14_eq]
 refine Gm.seq ?_
 refine Gm.lone (F:=FG 14) _ rfl rfl rfl (List.mem_cons_self ..) (FG_ok 14 hgood) (by kernel_rfl) (by kernel_rfl) hL ?_
 clear hL
 intro t0 V0 hL
 refine Gm.seq ?_
 refine Gm.lone (F:=FG 14) _ rfl rfl rfl (List.mem_cons_self ..) (FG_ok 14 hgood) (by kernel_rfl) (by kernel_rfl) hL ?_
 clear hL
 intro t1 V1 hL
 refine Gm.seq ?_
 refine Gm.lone (F:=FG 14) _ rfl rfl rfl (List.mem_cons_self ..) (FG_ok 14 hgood) (by kernel_rfl) (by kernel_rfl) hL ?_
 clear hL
 intro t2 V2 hL
 refine Gm.seq (Gm.seq ?_)
 refine Gm.lone (F:=FG 14) _ rfl rfl rfl (List.mem_cons_self ..) (FG_ok 14 hgood) (by kernel_rfl) (by kernel_rfl) hL ?_
 clear hL
 rintro t W1 ⟨hO1,hs,h39 | ⟨h39,hL⟩⟩
 ·refine Gm.cond (b:=true) (eval_tmp h39) rfl ?_
  refine Gm.seq ?_
  rw [q4_eq]
  refine Gm.region ?_
  rw [show List.range opq4.size=[0,1] by kernel_rfl]
  refine Gm.enter (o:=⟨some 40,.call { callee:=.value (.func 20),args:=#[],argTypes:=#[] },_,_,_,none⟩) (c:={ callee:=.value (.func 20),args:=#[],argTypes:=#[] }) rfl rfl rfl rfl (by kernel_rfl) Tryd.func20 body20_of (by kernel_rfl) ?_
  rw [fr20]
  refine flows_go E _ Arg W0 hArg _ _ _ _ _ (hg.old hO1) ?_
  intro WL FzL φL hOL
  rw [Fr_finish (o:=⟨some 40,.call { callee:=.value (.func 20),args:=#[],argTypes:=#[] },_,_,_,none⟩) rfl]
  refine Gm.op (o:=⟨some 6,.assign (.tmp 40),_,_,_,none⟩) (.bool true) WL rfl rfl (by kernel_rfl) rfl (asg_run _ (eval_tmp (by simp only [putD_get,putD_same,putD_size,hs,ne_eq,Nat.reduceEqDiff,not_false_eq_true,Nat.reduceLT]))) id ?_
  refine Gm.regionEnd ?_
  refine Gm.done Tryd.func14 (by kernel_rfl) (results14 (.bool true) _ (by simp only [putD_get,putD_same,putD_size,hs,ne_eq,Nat.reduceEqDiff,not_false_eq_true,Nat.reduceLT])) ?_
  exact fun ρ D own A fr W' h=>hPost _ ρ D own A fr _ W' h
 ·refine Gm.cond (b:=false) (eval_tmp h39) rfl ?_
  refine Gm.skip ?_
  refine Gm.seq ?_
  refine Gm.lone (F:=FG 14) _ rfl rfl rfl (List.mem_cons_self ..) (FG_ok 14 hgood) (by kernel_rfl) (by kernel_rfl) hL ?_
  clear hL
  intro t5 V5 hL
  refine Gm.seq ?_
  refine Gm.lone (F:=FG 14) _ rfl rfl rfl (List.mem_cons_self ..) (FG_ok 14 hgood) (by kernel_rfl) (by kernel_rfl) hL ?_
  clear hL
  intro t6 V6 hL
  refine Gm.seq ?_
  refine Gm.lone (F:=FG 14) _ rfl rfl rfl (List.mem_cons_self ..) (FG_ok 14 hgood) (by kernel_rfl) (by kernel_rfl) hL ?_
  clear hL
  intro t13 V13 hL
  refine Gm.seq ?_
  refine Gm.lone (F:=FG 14) _ rfl rfl rfl (List.mem_cons_self ..) (FG_ok 14 hgood) (by kernel_rfl) (by kernel_rfl) hL ?_
  clear hL
  clear hO1 hs h39
  rintro t W2 ⟨hO2,n,m,b,e1,e2,e3,e4,hs,k15,k17,k16,k14,k4,g1,g2⟩
  refine Gm.seq ?_
  rw [q15_eq]
  refine Gm.region ?_
  rw [show List.range opq15.size=[0,1,2,3,4,5,6,7,8,9,10,11,12,13,14,15,16,17,18,19,20,21,22,23,24,25,26] by kernel_rfl]
  refine Gm.op (o:=⟨some 88,.move (.tmp 15),_,_,_,none⟩) (num 0) W2 rfl rfl (by kernel_rfl) rfl (mvg_run _ (eval_tmp (by simp only [putD_get,putD_same,putD_size,hs,k15,k17,k16,k14,k4,ne_eq,Nat.reduceEqDiff,not_false_eq_true,Nat.reduceLT]))) id ?_
  refine Gm.op (o:=⟨some 89,.binOp .eql 37 (.tmp 88) (.const (.int .i64 0)) 37,_,_,_,none⟩) (.bool true) W2 rfl rfl (by kernel_rfl) rfl (eqcR37_run (n:=0) _ (eval_tmp (by simp only [putD_get,putD_same,putD_size,hs,k15,k17,k16,k14,k4,ne_eq,Nat.reduceEqDiff,not_false_eq_true,Nat.reduceLT])) rfl) id ?_
  refine Gm.op (o:=⟨some 90,.move (.tmp 89),_,_,_,none⟩) (.bool true) W2 rfl rfl (by kernel_rfl) rfl (mvg_run _ (eval_tmp (by simp only [putD_get,putD_same,putD_size,hs,k15,k17,k16,k14,k4,ne_eq,Nat.reduceEqDiff,not_false_eq_true,Nat.reduceLT]))) id ?_
  refine Gm.op (o:=⟨some 91,.move (.tmp 17),_,_,_,some (2,true)⟩) (num 0) W2 rfl (wanted_guard (i:=2) (b:=true) (d:=90) rfl rfl (by simp only [putD_get,putD_same,putD_size,hs,k15,k17,k16,k14,k4,ne_eq,Nat.reduceEqDiff,not_false_eq_true,Nat.reduceLT])) (by kernel_rfl) rfl (mvg_run _ (eval_tmp (by simp only [putD_get,putD_same,putD_size,hs,k15,k17,k16,k14,k4,ne_eq,Nat.reduceEqDiff,not_false_eq_true,Nat.reduceLT]))) id ?_
  refine Gm.op (o:=⟨some 92,.binOp .eql 37 (.tmp 91) (.const (.int .i64 0)) 37,_,_,_,some (2,true)⟩) (.bool true) W2 rfl (wanted_guard (i:=2) (b:=true) (d:=90) rfl rfl (by simp only [putD_get,putD_same,putD_size,hs,k15,k17,k16,k14,k4,ne_eq,Nat.reduceEqDiff,not_false_eq_true,Nat.reduceLT])) (by kernel_rfl) rfl (eqcR37_run (n:=0) _ (eval_tmp (by simp only [putD_get,putD_same,putD_size,hs,k15,k17,k16,k14,k4,ne_eq,Nat.reduceEqDiff,not_false_eq_true,Nat.reduceLT])) rfl) id ?_
  refine Gm.op (o:=⟨some 93,.pick (.tmp 90) (.tmp 92) (.const (.bool false)),_,_,_,none⟩) (.bool true) W2 rfl rfl (by kernel_rfl) rfl (pick_run _ (eval_tmp (by simp only [putD_get,putD_same,putD_size,hs,k15,k17,k16,k14,k4,ne_eq,Nat.reduceEqDiff,not_false_eq_true,Nat.reduceLT])) (eval_tmp (by simp only [putD_get,putD_same,putD_size,hs,k15,k17,k16,k14,k4,ne_eq,Nat.reduceEqDiff,not_false_eq_true,Nat.reduceLT]))) id ?_
  refine Gm.op (o:=⟨some 94,.move (.tmp 93),_,_,_,none⟩) (.bool true) W2 rfl rfl (by kernel_rfl) rfl (mvg_run _ (eval_tmp (by simp only [putD_get,putD_same,putD_size,hs,k15,k17,k16,k14,k4,ne_eq,Nat.reduceEqDiff,not_false_eq_true,Nat.reduceLT]))) id ?_
  refine Gm.op (o:=⟨some 95,.move (.tmp 16),_,_,_,some (6,true)⟩) (num m) W2 rfl (wanted_guard (i:=6) (b:=true) (d:=94) rfl rfl (by simp only [putD_get,putD_same,putD_size,hs,k15,k17,k16,k14,k4,ne_eq,Nat.reduceEqDiff,not_false_eq_true,Nat.reduceLT])) (by kernel_rfl) rfl (mvg_run _ (eval_tmp (by simp only [putD_get,putD_same,putD_size,hs,k15,k17,k16,k14,k4,ne_eq,Nat.reduceEqDiff,not_false_eq_true,Nat.reduceLT]))) id ?_
  refine Gm.op (o:=⟨some 96,.move (.tmp 14),_,_,_,some (6,true)⟩) (num n) W2 rfl (wanted_guard (i:=6) (b:=true) (d:=94) rfl rfl (by simp only [putD_get,putD_same,putD_size,hs,k15,k17,k16,k14,k4,ne_eq,Nat.reduceEqDiff,not_false_eq_true,Nat.reduceLT])) (by kernel_rfl) rfl (mvg_run _ (eval_tmp (by simp only [putD_get,putD_same,putD_size,hs,k15,k17,k16,k14,k4,ne_eq,Nat.reduceEqDiff,not_false_eq_true,Nat.reduceLT]))) id ?_
  refine Gm.op (o:=⟨some 97,.binOp .leq 3 (.tmp 95) (.tmp 96) 3,_,_,_,some (6,true)⟩) (.bool true) W2 rfl (wanted_guard (i:=6) (b:=true) (d:=94) rfl rfl (by simp only [putD_get,putD_same,putD_size,hs,k15,k17,k16,k14,k4,ne_eq,Nat.reduceEqDiff,not_false_eq_true,Nat.reduceLT])) (by kernel_rfl) rfl (leqR_run (n:=m) (m:=n) _ (eval_tmp (by simp only [putD_get,putD_same,putD_size,hs,k15,k17,k16,k14,k4,ne_eq,Nat.reduceEqDiff,not_false_eq_true,Nat.reduceLT])) (eval_tmp (by simp only [putD_get,putD_same,putD_size,hs,k15,k17,k16,k14,k4,ne_eq,Nat.reduceEqDiff,not_false_eq_true,Nat.reduceLT])) e1) id ?_
  refine Gm.op (o:=⟨some 98,.pick (.tmp 94) (.tmp 97) (.const (.bool false)),_,_,_,none⟩) (.bool true) W2 rfl rfl (by kernel_rfl) rfl (pick_run _ (eval_tmp (by simp only [putD_get,putD_same,putD_size,hs,k15,k17,k16,k14,k4,ne_eq,Nat.reduceEqDiff,not_false_eq_true,Nat.reduceLT])) (eval_tmp (by simp only [putD_get,putD_same,putD_size,hs,k15,k17,k16,k14,k4,ne_eq,Nat.reduceEqDiff,not_false_eq_true,Nat.reduceLT]))) id ?_
  refine Gm.op (o:=⟨some 99,.move (.tmp 98),_,_,_,none⟩) (.bool true) W2 rfl rfl (by kernel_rfl) rfl (mvg_run _ (eval_tmp (by simp only [putD_get,putD_same,putD_size,hs,k15,k17,k16,k14,k4,ne_eq,Nat.reduceEqDiff,not_false_eq_true,Nat.reduceLT]))) id ?_
  refine Gm.op (o:=⟨some 100,.move (.tmp 16),_,_,_,some (11,true)⟩) (num m) W2 rfl (wanted_guard (i:=11) (b:=true) (d:=99) rfl rfl (by simp only [putD_get,putD_same,putD_size,hs,k15,k17,k16,k14,k4,ne_eq,Nat.reduceEqDiff,not_false_eq_true,Nat.reduceLT])) (by kernel_rfl) rfl (mvg_run _ (eval_tmp (by simp only [putD_get,putD_same,putD_size,hs,k15,k17,k16,k14,k4,ne_eq,Nat.reduceEqDiff,not_false_eq_true,Nat.reduceLT]))) id ?_
  refine Gm.op (o:=⟨some 101,.move (.tmp 14),_,_,_,some (11,true)⟩) (num n) W2 rfl (wanted_guard (i:=11) (b:=true) (d:=99) rfl rfl (by simp only [putD_get,putD_same,putD_size,hs,k15,k17,k16,k14,k4,ne_eq,Nat.reduceEqDiff,not_false_eq_true,Nat.reduceLT])) (by kernel_rfl) rfl (mvg_run _ (eval_tmp (by simp only [putD_get,putD_same,putD_size,hs,k15,k17,k16,k14,k4,ne_eq,Nat.reduceEqDiff,not_false_eq_true,Nat.reduceLT]))) id ?_
  refine Gm.op (o:=⟨some 102,.fieldAddr 28 (.tmp 4) 1,_,_,_,some (11,true)⟩) (.pointer (some ⟨b,1,none⟩)) W2 rfl (wanted_guard (i:=11) (b:=true) (d:=99) rfl rfl (by simp only [putD_get,putD_same,putD_size,hs,k15,k17,k16,k14,k4,ne_eq,Nat.reduceEqDiff,not_false_eq_true,Nat.reduceLT])) (by kernel_rfl) rfl (fa28_1g_run _ (eval_tmp (by simp only [putD_get,putD_same,putD_size,hs,k15,k17,k16,k14,k4,ne_eq,Nat.reduceEqDiff,not_false_eq_true,Nat.reduceLT]))) id ?_
  refine Gm.op (o:=⟨some 103,.load 3 (.tmp 102),_,_,_,some (11,true)⟩) (num x2) W2 rfl (wanted_guard (i:=11) (b:=true) (d:=99) rfl rfl (by simp only [putD_get,putD_same,putD_size,hs,k15,k17,k16,k14,k4,ne_eq,Nat.reduceEqDiff,not_false_eq_true,Nat.reduceLT])) (by kernel_rfl) rfl (ld3g_run _ (eval_tmp (by simp only [putD_get,putD_same,putD_size,hs,k15,k17,k16,k14,k4,ne_eq,Nat.reduceEqDiff,not_false_eq_true,Nat.reduceLT])) g1) id ?_
  refine Gm.op (o:=⟨some 104,.fieldAddr 28 (.tmp 4) 0,_,_,_,some (11,true)⟩) (.pointer (some ⟨b,0,none⟩)) W2 rfl (wanted_guard (i:=11) (b:=true) (d:=99) rfl rfl (by simp only [putD_get,putD_same,putD_size,hs,k15,k17,k16,k14,k4,ne_eq,Nat.reduceEqDiff,not_false_eq_true,Nat.reduceLT])) (by kernel_rfl) rfl (fa28_0g_run _ (eval_tmp (by simp only [putD_get,putD_same,putD_size,hs,k15,k17,k16,k14,k4,ne_eq,Nat.reduceEqDiff,not_false_eq_true,Nat.reduceLT]))) id ?_
  refine Gm.op (o:=⟨some 105,.load 3 (.tmp 104),_,_,_,some (11,true)⟩) (num x1) W2 rfl (wanted_guard (i:=11) (b:=true) (d:=99) rfl rfl (by simp only [putD_get,putD_same,putD_size,hs,k15,k17,k16,k14,k4,ne_eq,Nat.reduceEqDiff,not_false_eq_true,Nat.reduceLT])) (by kernel_rfl) rfl (ld3g_run _ (eval_tmp (by simp only [putD_get,putD_same,putD_size,hs,k15,k17,k16,k14,k4,ne_eq,Nat.reduceEqDiff,not_false_eq_true,Nat.reduceLT])) g2) id ?_
  refine Gm.op (o:=⟨some 106,.binOp .sub 3 (.tmp 103) (.tmp 105) 3,_,_,_,some (11,true)⟩) (num (x2-x1)) W2 rfl (wanted_guard (i:=11) (b:=true) (d:=99) rfl rfl (by simp only [putD_get,putD_same,putD_size,hs,k15,k17,k16,k14,k4,ne_eq,Nat.reduceEqDiff,not_false_eq_true,Nat.reduceLT])) (by kernel_rfl) rfl (subR_run (n:=x2) (m:=x1) _ (eval_tmp (by simp only [putD_get,putD_same,putD_size,hs,k15,k17,k16,k14,k4,ne_eq,Nat.reduceEqDiff,not_false_eq_true,Nat.reduceLT])) (eval_tmp (by simp only [putD_get,putD_same,putD_size,hs,k15,k17,k16,k14,k4,ne_eq,Nat.reduceEqDiff,not_false_eq_true,Nat.reduceLT])) (by omega) rfl) id ?_
  refine Gm.op (o:=⟨some 107,.binOp .add 3 (.tmp 106) (.const (.int .i64 1)) 3,_,_,_,some (11,true)⟩) (num ((x2-x1)+1)) W2 rfl (wanted_guard (i:=11) (b:=true) (d:=99) rfl rfl (by simp only [putD_get,putD_same,putD_size,hs,k15,k17,k16,k14,k4,ne_eq,Nat.reduceEqDiff,not_false_eq_true,Nat.reduceLT])) (by kernel_rfl) rfl (addcR_run (n:=(x2-x1)) (m:=1) _ (eval_tmp (by simp only [putD_get,putD_same,putD_size,hs,k15,k17,k16,k14,k4,ne_eq,Nat.reduceEqDiff,not_false_eq_true,Nat.reduceLT])) rfl (by omega) rfl) id ?_
  refine Gm.op (o:=⟨some 108,.binOp .sub 3 (.tmp 101) (.tmp 107) 3,_,_,_,some (11,true)⟩) (num (n-((x2-x1)+1))) W2 rfl (wanted_guard (i:=11) (b:=true) (d:=99) rfl rfl (by simp only [putD_get,putD_same,putD_size,hs,k15,k17,k16,k14,k4,ne_eq,Nat.reduceEqDiff,not_false_eq_true,Nat.reduceLT])) (by kernel_rfl) rfl (subR_run (n:=n) (m:=((x2-x1)+1)) _ (eval_tmp (by simp only [putD_get,putD_same,putD_size,hs,k15,k17,k16,k14,k4,ne_eq,Nat.reduceEqDiff,not_false_eq_true,Nat.reduceLT])) (eval_tmp (by simp only [putD_get,putD_same,putD_size,hs,k15,k17,k16,k14,k4,ne_eq,Nat.reduceEqDiff,not_false_eq_true,Nat.reduceLT])) (by omega) rfl) id ?_
  refine Gm.op (o:=⟨some 109,.binOp .geq 3 (.tmp 100) (.tmp 108) 3,_,_,_,some (11,true)⟩) (.bool true) W2 rfl (wanted_guard (i:=11) (b:=true) (d:=99) rfl rfl (by simp only [putD_get,putD_same,putD_size,hs,k15,k17,k16,k14,k4,ne_eq,Nat.reduceEqDiff,not_false_eq_true,Nat.reduceLT])) (by kernel_rfl) rfl (geqR_run (n:=m) (m:=(n-((x2-x1)+1))) _ (eval_tmp (by simp only [putD_get,putD_same,putD_size,hs,k15,k17,k16,k14,k4,ne_eq,Nat.reduceEqDiff,not_false_eq_true,Nat.reduceLT])) (eval_tmp (by simp only [putD_get,putD_same,putD_size,hs,k15,k17,k16,k14,k4,ne_eq,Nat.reduceEqDiff,not_false_eq_true,Nat.reduceLT])) (by omega)) id ?_
  refine Gm.op (o:=⟨some 110,.pick (.tmp 99) (.tmp 109) (.const (.bool false)),_,_,_,none⟩) (.bool true) W2 rfl rfl (by kernel_rfl) rfl (pick_run _ (eval_tmp (by simp only [putD_get,putD_same,putD_size,hs,k15,k17,k16,k14,k4,ne_eq,Nat.reduceEqDiff,not_false_eq_true,Nat.reduceLT])) (eval_tmp (by simp only [putD_get,putD_same,putD_size,hs,k15,k17,k16,k14,k4,ne_eq,Nat.reduceEqDiff,not_false_eq_true,Nat.reduceLT]))) id ?_
  refine Gm.op (o:=⟨some 111,.move (.tmp 110),_,_,_,none⟩) (.bool true) W2 rfl rfl (by kernel_rfl) rfl (mvg_run _ (eval_tmp (by simp only [putD_get,putD_same,putD_size,hs,k15,k17,k16,k14,k4,ne_eq,Nat.reduceEqDiff,not_false_eq_true,Nat.reduceLT]))) id ?_
  refine Gm.enter (o:=⟨some 112,.call { callee:=.value (.func 20),args:=#[],argTypes:=#[] },_,_,_,some (23,true)⟩) (c:={ callee:=.value (.func 20),args:=#[],argTypes:=#[] }) rfl (wanted_guard (i:=23) (b:=true) (d:=111) rfl rfl (by simp only [putD_get,putD_same,putD_size,hs,k15,k17,k16,k14,k4,ne_eq,Nat.reduceEqDiff,not_false_eq_true,Nat.reduceLT])) rfl rfl (by kernel_rfl) Tryd.func20 body20_of (by kernel_rfl) ?_
  rw [fr20]
  refine flows_go E _ Arg W0 hArg _ _ _ _ _ (hg.old hO2) ?_
  intro WL FzL φL hOL
  rw [Fr_finish (o:=⟨some 112,.call { callee:=.value (.func 20),args:=#[],argTypes:=#[] },_,_,_,some (23,true)⟩) rfl]
  refine Gm.op (o:=⟨some 113,.pick (.tmp 111) (.tmp 112) (.const (.bool false)),_,_,_,none⟩) (.bool true) WL rfl rfl (by kernel_rfl) rfl (pick_run _ (eval_tmp (by simp only [putD_get,putD_same,putD_size,hs,k15,k17,k16,k14,k4,ne_eq,Nat.reduceEqDiff,not_false_eq_true,Nat.reduceLT])) (eval_tmp (by simp only [putD_get,putD_same,putD_size,hs,k15,k17,k16,k14,k4,ne_eq,Nat.reduceEqDiff,not_false_eq_true,Nat.reduceLT]))) id ?_
  refine Gm.op (o:=⟨some 6,.assign (.tmp 113),_,_,_,none⟩) (.bool true) WL rfl rfl (by kernel_rfl) rfl (asg_run _ (eval_tmp (by simp only [putD_get,putD_same,putD_size,hs,k15,k17,k16,k14,k4,ne_eq,Nat.reduceEqDiff,not_false_eq_true,Nat.reduceLT]))) id ?_
  refine Gm.regionEnd ?_
  refine Gm.done Tryd.func14 (by kernel_rfl) (results14 (.bool true) _ (by simp only [putD_get,putD_same,putD_size,hs,k15,k17,k16,k14,k4,ne_eq,Nat.reduceEqDiff,not_false_eq_true,Nat.reduceLT])) ?_
  exact fun ρ D own A fr W' h=>hPost _ ρ D own A fr _ W' h
end Go.Proofs.YtolholkjeehamaaDoor

namespace Go.Proofs.YtolholkjeehamaaDoor
open Go.RowKit Go.Con Go.Conc Go.ChangeShapes Go.WideShapes Go.ChangeAt
local instance:Lone:=mainL
theorem fr14 (a0 a1 a2:Value):#[a0,a1,a2]++Array.replicate (Tryd.f14.ntmps-(#[a0,a1,a2]:Array Value).size) undef=#[a0,a1,a2,undef,undef,undef,undef,undef,undef,undef,undef,undef,undef,undef,undef,undef,undef,undef,undef,undef,undef,undef,undef,undef,undef,undef,undef,undef,undef,undef,undef,undef,undef,undef,undef,undef,undef,undef,undef,undef,undef,undef,undef,undef,undef,undef,undef,undef,undef,undef,undef,undef,undef,undef,undef,undef,undef,undef,undef,undef,undef,undef,undef,undef,undef,undef,undef,undef,undef,undef,undef,undef,undef,undef,undef,undef,undef,undef,undef,undef,undef,undef,undef,undef,undef,undef,undef,undef,undef,undef,undef,undef,undef,undef,undef,undef,undef,undef,undef,undef,undef,undef,undef,undef,undef,undef,undef,undef,undef,undef,undef,undef,undef,undef]:=by
 simp only [Tryd.ntmps14,List.size_toArray,List.length_cons,List.length_nil,Nat.reduceAdd,Nat.reduceSub,Array.replicate_succ,Array.replicate_zero,List.push_toArray,List.append_toArray,List.nil_append,List.cons_append]
theorem feast_fin (d:Dit) (r:Rows6) (s1 s2:Int) (x2:Int) (W:World) (hd:DitSl W d r) (hb:d.Big) (hg:Glob W) (hfe:d.feasts.length * 16≤140737488351232) (hx2:(0≤x2∧x2≤4294967295)) :
  Con.Fin Tryd.prog (fun u W'=>u=.bool true∧Con.Left W W') (solo (G (Frame.enter Tryd.prog 14 #[d.val r,.agg #[num s1,num s2],.int .u32 x2] .normal) []) W) #[]:=by
 refine law_fin Tryd.func14 lawB14_of hg (fun v hv=>?_) fun c Post hPost=>?_
 ·simp only [List.mem_cons,List.not_mem_nil,or_false] at hv
  rcases hv with rfl | rfl | rfl
  ·exact hd.same
  ·exact Same.agg fun v hv=>by (simp only [List.mem_cons,List.not_mem_nil,or_false] at hv;rcases hv with rfl | rfl<;>exact Same.num _)
  ·exact⟨fun c=>by simp [ren],by simp [ren]⟩
 ·rw [fr14]
  exact feast_go _ _ _ _ (fun _=>Iff.rfl) Post _ d r s1 s2 x2 _ hd.entry hb hfe hg.entry hx2 hPost
theorem feast_lifted (os:Os) (started:os.Started) (H:Type) (enc:TypeId×Value→H) :
  ReturnsInLeavingWide {} Tryd.checked os 14 .any (fun w args=>(Rows.turnFeastSpec.pre enc Tryd.prog Tryd.f14 [] false w args∧laidMetH Tryd.prog laid2 w)∧sizedMet enc Tryd.prog Tryd.f14 (OpenSpec.ofChange Rows.turnFeastSpec) false w args)
   (Rows.turnFeastSpec.post enc Tryd.prog Tryd.f14 false true false false):=by
 refine returnsInLeavingWide_and (C:=Tryd.checked) (X:=fun w _=>laidMetH Tryd.prog laid2 w) (fun _ _ _ hh h=>h.of_heap hh) own_knob started Tryd.func14
  (ChangeSpec.witness_shaped (enc:=enc) (C:=Tryd.checked) (os:=os) (X:=fun w _=>laidMetH Tryd.prog laid2 w) false (World.doorLaid Tryd.prog 600 os)
   #[.agg #[.slice none 0 0,.slice none 0 0,.int .i64 0,.int .i64 0,.int .i64 0,.int .i64 0,.slice none 0 0,.slice none 0 0,.slice none 0 0,.int .i64 0,.int .i64 0,.int .i64 0,.int .i64 0,.slice none 0 0],.agg #[.int .i64 0,.int .i64 0],.int .u32 0] 8 rfl (World.shaped_of_RefB (by kernel_rfl) (by kernel_rfl)) (by kernel_rfl) (by kernel_rfl) (by kernel_rfl) (door_met os _)) ?_
 intro W base args ds gs before hval0 hW _ hsz hL
 have hval:∀ (j:Nat) t v,Tryd.f14.params[j]?=some t→args[j]?=some v→Value.okWide Tryd.prog W .any base t v:=hval0
 have hW':=hW
 obtain⟨p,q,hA0,hV,rfl,hfz,hnd⟩:=hW
 have hA:DataW.TrodAll enc Tryd.prog W 0 (fun _=>true) true Tryd.f14.params.toList args.toList ds p:=hA0
 rw [Tryd.params14] at hA hval
 obtain⟨v0,v1,v2,d0,d1,d2,p0,p1,p2,rfl,rfl,rfl,h0,h1,h2⟩:=trodAll_three hA
 obtain⟨rfl,rfl⟩:=trodVars_none hV
 obtain⟨s1,s2,rfl⟩:=open_two Tryd.underlying28 rfl rfl rfl rfl (by kernel_rfl) (hval 1 28 v1 rfl rfl) h1
 obtain⟨x2,rfl,rfl,rfl,w2⟩:=open_int Tryd.underlying43 (hval 2 43 v2 rfl rfl) h2
 have hx2:0≤x2∧x2≤4294967295:=by
  have h:=w2
  simp only [Lit.wf,Bool.and_eq_true,decide_eq_true_eq] at h
  exact h
 have hfit:Fits 31 d0:=fun n hn=>by
  have:=List.all_eq_true.1 hsz n (DataW.weights_mem_each (P:=Tryd.prog) (j:=0) (t:=31) (d:=d0) (by rw [show Tryd.checked.prog=Tryd.prog from rfl,Tryd.params14];rfl) rfl n hn)
  simpa using this
 obtain⟨d,r,rfl,hd,hb⟩:=dit_open (hval 0 31 v0 rfl rfl) h0 hfit
 have hfe:=(dit_fit hd h0 hfit).1
 clear hA0 hval0
 try simp only [List.append_nil] at hW'
 have hlt:=fun x hx=>hW'.lt x hx
 try simp only [Array.size_empty,Nat.add_zero] at hlt
 refine fin_post (feast_fin d r s1 s2 x2 W hd hb (of_laid hL) hfe hx2) fun W' hl=>?_
 have ha:=trodAll_mk3 (left_trod (by kernel_rfl) (of_decide_eq_true (by kernel_rfl)) h0 hl fun x hx=>hlt x (by simp [hx])) (left_trod (by kernel_rfl) (of_decide_eq_true (by kernel_rfl)) h1 hl fun x hx=>hlt x (by simp [hx])) (shut_int Tryd.underlying43 w2)
 try simp only [List.append_nil] at ha
 exact⟨[d0,d1,.lit (.int .u32 x2)],[],_,[],_,[],hW',trodAll_mk1 (shut_bool Tryd.underlying4 _),ha,rfl,left_kept hl _,fun h=>by cases h⟩
theorem feast_holds:Rows.TurnFeastSaid :=
 OpenClaim.holds_of_wide_leaving 14 Tryd.f14 rfl rfl rfl rfl rfl rfl rfl ⟨rfl,rfl,rfl,rfl,rfl⟩ rfl rfl rfl rfl rfl (by kernel_rfl) Tryd.func14 (by kernel_rfl)
  (of_decide_eq_true (by kernel_rfl)) (by unfold Func.isWrapper;first | (rw [if_pos (by decide +kernel)];kernel_rfl) | (rw [if_neg (by decide +kernel)];exact⟨rfl,rfl⟩))
  (fun os started H enc _=>feast_lifted os started H enc)
theorem feast_card:Rows.TurnFeastCardSaid :=
 tied_plain_goes .later [] [.funcs,.data] true (true,"13bbfa5877394a3cde13138796d6bb679173f8167c87f9ccc98cd9f3e99a425f") false true
  feast_holds (fun _ h=>by cases h) (by kernel_rfl) (fun _ h=>by cases h) turnFeast_row_tie rfl ⟨rfl,rfl⟩ (by kernel_rfl) rfl
  (fun f fn hf hfn=>by
   obtain rfl:f=14:=Option.some.inj ((show Tryd.prog.funcNamed "crocus/crocuslaw02.TurnFeast" = some 14 by kernel_rfl).symm.trans hf) |>.symm
   obtain rfl:fn=Tryd.f14:=(Option.some.inj (Tryd.func14.symm.trans hfn)).symm
   exact⟨by kernel_rfl,fun j t ht=>by
    rw [Tryd.params14] at ht
    have hm:t∈[31,28,43]:=by simpa using Array.mem_of_getElem? ht
    have hall:([31,28,43].all fun u=>!Tryd.prog.wantsStandIn u)=true:=by kernel_rfl
    exact (show Tryd.prog.wantsStandIn t=false by simpa using List.all_eq_true.1 hall t hm)⟩)
  (by kernel_rfl)
#print axioms feast_card
end Go.Proofs.YtolholkjeehamaaDoor

