import Derived.Test.YtbbanmifdbeneaaDoorF08
import Derived.Stop.RegionWithIn
import Derived.Sort.QuietThIn
import Derived.Sort.BigQuietIn
import Derived.StillTail
set_option linter.all false
set_option maxRecDepth 100000
set_option maxHeartbeats 4000000
open Go.CallsIn renaming mono → jqa
open Go.RowKit.Below renaming refl → jqb
open Nat renaming le_refl → jqc
open List renaming length_cons → jqd
open Go.Region renaming ready → jqe
namespace Go.Proofs.YtbbanmifdbeneaaDoor
open Go.RowKit
theorem zls {l:List (Int×Int)} {k:Nat} {x:Int×Int} (h:l[k]?=some x):sumTo l (k+1)=sumTo l k+x.2:=by
 simp [sumTo,h]
theorem Dit.Ok.cyc {d:Dit} (h:d.Ok):Cyc d d.ends d.cyc:=by
 have hb:=zd1 (fun x hx=>(h.th x hx).2);have h12:=h.t12;refine⟨h12,fun i hi=>?_,?_,?_⟩
 ·unfold Dit.ends zcf
  split
  ·rename_i hlt
   have:=hb (i+1) (by omega);omega
  ·omega
 ·have:=hb d.turns.length (jqc _)
  unfold Dit.cyc;omega
 ·unfold Dit.ends zcf Dit.cyc
  rw [if_pos (by omega)];congr 1;omega
theorem zfA {l:List (Int×Int×Int)}:∀ {ks:List Int},ks.Nodup→(keysOf ks l).Nodup:=by
 induction l with
 | nil=>intro ks h;exact h
 | cons s l ih =>
  intro ks h;have:keysOf ks (s :: l)=keysOf (keyC ks s.1) l:=rfl;rw [this];refine ih ?_;unfold keyC;split
  ·exact h
  ·rename_i hn;exact List.nodup_cons.2 ⟨hn,h⟩
theorem zeQ {l:List (Int×Int×Int)}:∀ {ks:List Int},(keysOf ks l).length≤ks.length+l.length:=by
 induction l with
 | nil=>intro ks;exact jqc _
 | cons s l ih =>
  intro ks;have:keysOf ks (s :: l)=keysOf (keyC ks s.1) l:=rfl;rw [this];have h1:=ih (ks:=keyC ks s.1);have h2:(keyC ks s.1).length≤ks.length+1:=by unfold keyC;split<;>simp
  simp only [jqd];omega
theorem Dit.Ok.chg {d:Dit} (h:d.Ok):Chg d d.keys d.oth:=by
 refine⟨zfA (zfA List.nodup_nil),?_,fun c hc=>?_,fun c _=>?_⟩
 ·have h1:=zeQ (l:=d.loans) (ks:=keysOf [] d.swaps)
  have h2:=zeQ (l:=d.swaps) (ks:=[]);have:=h.s8;have:=h.l8;unfold Dit.keys;simp only [List.length_nil] at h2;omega
 ·rcases mem_keysOf.1 hc with hc | ⟨s,hs,rfl⟩
  ·rcases mem_keysOf.1 hc with hc | ⟨s,hs,rfl⟩
   ·cases hc
   ·exact (h.sw s hs).1
  ·exact (h.lo s hs).1
 ·unfold Dit.oth
  rw [zfP,zd6];unfold Dit.us;simp
theorem Dit.Ok.roomy {d:Dit} (h:d.Ok):0<d.week→d.long≤d.week:=by
 have:=h.room;omega
theorem zkn {ends:Nat→Int} {long r:Int} {n:Nat} (hl:ends (n-1)=long) (hr:r<long):∀ f t,t<n→zei ends r f t<n
 | 0,t,ht=>ht
 | f+1,t,ht=>by
  unfold zei;split
  ·rename_i hge
   have:t≠n-1:=by intro e;rw [e,hl] at hge;omega
   exact zkn hl hr f (t+1) (by omega)
  ·exact ht
theorem Dit.Ok.turn_lt {d:Dit} (h:d.Ok) (x:Int):zei d.ends (x.tmod d.cyc) 12 0<d.turns.length:=by
 have hc:=h.cyc;have:=hc.size;exact zkn hc.last (zeq x (by omega)).2 12 0 (by have:=hc.few;omega)
def Dit.owner (d:Dit) (h:Int):Int×Int×Int:=(whoS d.us d.keys d.oth (d.at d.ends d.cyc h).1 (d.at d.ends d.cyc h).2,(d.at d.ends d.cyc h).1,(d.at d.ends d.cyc h).2)
theorem zie (d:Dit) (r:zaR) (w:World) (hd:DitSl w d r) (hs:d.Small) (hg:Glob w) (hno:zaF d≠0) :
  CallsIn FL 0 Tryd.prog 43 #[d.val r] w fun e w'=>e=.returned (.tuple #[.pointer none,num (zaF d)])∧Nx w w':=by
 generalize hW:w.alloc (.cells (d.cellsA r) 31)=W;have n0:Nx w W:=by rw [← hW];exact (jqb _ _).alloc (jqc _) _
 have hcW:∀ i v,(d.cellsA r)[i]?=some v→W.cell? ⟨w.heap.size,i,none⟩=some v:=fun i v h=>by rw [← hW];exact zaw _ _ _ _ _ h
 have k41:=(zi2 d r W (hd.nx n0) hs (hg.nx n0)).mono fun e w' ⟨x,y⟩=>(⟨x,Nx.trans n0 y⟩:_∧Nx w w');obtain⟨c0,c1,c2,c3,c4,c5,c6,c7,c8,c9,c10,c11,c12,c13⟩:=zaS hcW;have hb:(zaF d != 0)=true:=by simpa using hno
 clear hcW;gi_enter Tryd.func43,Tryd.ntmps43
 gi_wp2_with (first | (gi_at_call 60;refine jqa k41 ?_;rintro e w1 ⟨rfl,n1⟩) | gi_in)
 go_ret2;exact⟨rfl,n1⟩
theorem boxed (w:World) (d:Dit) (r:zaR):∃ W,w.alloc (.cells (d.cellsA r) 31)=W∧Nx w W∧W.heap.size=w.heap.size+1∧(∀ w1,Nx W w1→∀ i v,(d.cellsA r)[i]?=some v→w1.cell? ⟨w.heap.size,i,none⟩=some v):=by
 refine⟨_,rfl,(jqb _ _).alloc (jqc _) _,by simp,fun w1 n1 i v h=>?_⟩;exact (n1.cell (p:=⟨w.heap.size,i,none⟩) (by simp)).trans (zaw _ _ _ _ _ h)
def askS (d:Dit) (holder a b:Int):Int:=if zaF d≠0 then zaF d else if ¬ (0≤holder∧holder≤(d.holders.length:Int)-1) then 6 else zbq a b
def zf6 (w:World) (d:Dit) (f:Int) (e:Ending) (w' : World):Prop:=∃ B M,e=.returned (.tuple #[.pointer (some ⟨B,0,none⟩),num f])∧Nx w w'∧w.heap.size≤B∧Wtr w' B M d d.ends d.cyc d.keys d.oth
theorem zjG (d:Dit) (r:zaR) (holder a b:Int) (w:World) (hd:DitSl w d r) (hs:d.Small) (hg:Glob w) :
  CallsIn FL 0 Tryd.prog 30 #[d.val r,num holder,num a,num b] w fun e w'=>∃ v,e=.returned (.tuple #[.pointer v,num (askS d holder a b)])∧Nx w w'∧(askS d holder a b=0→d.Ok∧zf6 w d 0 e w'):=by
 obtain⟨W,hW,n0,hWs,cW⟩:=boxed w d r;have nWW:Nx W W:=jqb _ _;obtain⟨c0,c1,c2,c3,c4,c5,c6,c7,c8,c9,c10,c11,c12,c13⟩:=zaS (cW _ nWW);by_cases hc:zaF d=0
 ·have hO:=zco hc
  have k66:=zic d r W (hd.nx n0) hs (hg.nx n0) hc;have k77:=fun w1=>zjT a b w1;by_cases hh:0≤holder∧holder≤(d.holders.length:Int)-1
  ·have HA:Hid (askS d holder a b=zbq a b):=by show _=_;unfold askS;rw [if_neg (by simp [hc]),if_neg (by simpa using hh)]
   have H0:Hid (d.Ok):=hO;clear hc cW hO;gi_enter Tryd.func30,Tryd.ntmps30
   gi_wp2_with (first
    | (gi_at_call 43;refine jqa k66 ?_;rintro e w1 ⟨B,M,rfl,n1,hB,hw⟩;have HW:=Lib.hid hw;have k89:=zbK (zb6 B d holder w1 hw.wat.dit hs.h) hh;clear hw)
    | (gi_at_call 51;refine jqa k89 ?_;rintro e w2 ⟨rfl,rfl⟩)
    | (gi_at_call 52;refine jqa (k77 _) ?_;rintro e w2 ⟨rfl,rfl⟩)
    | gi_in)
   go_ret2;refine⟨_,by rw [HA.out];rfl,Nx.trans n0 n1,fun h=>⟨H0,B,M,?_,Nx.trans n0 n1,by omega,HW.out⟩⟩;rw [HA.out] at h;rw [h];rfl
  ·have HA:Hid (askS d holder a b=6):=by show _=_;unfold askS;rw [if_neg (by simp [hc]),if_pos hh]
   clear hc cW hO;gi_enter Tryd.func30,Tryd.ntmps30
   gi_wp2_with (first
    | (gi_at_call 43;refine jqa k66 ?_;rintro e w1 ⟨B,M,rfl,n1,hB,hw⟩;have k89:=zbF (zb6 B d holder w1 hw.wat.dit hs.h) hh;clear hw)
    | (gi_at_call 51;refine jqa k89 ?_;rintro e w2 ⟨rfl,rfl⟩)
    | gi_in)
   go_ret2;exact⟨_,by rw [HA.out];rfl,Nx.trans n0 n1,fun h=>by rw [HA.out] at h;cases h⟩
 ·have k66:=zie d r W (hd.nx n0) hs (hg.nx n0) hc
  have HA:Hid (askS d holder a b=zaF d):=by show _=_;unfold askS;rw [if_pos hc]
  have hb:(zaF d != 0)=true:=by simpa using hc
  have HC:=Lib.hid hc;clear cW hc;gi_enter Tryd.func30,Tryd.ntmps30
  gi_wp2_with (first
   | (gi_at_call 43;refine jqa k66 ?_;rintro e w1 ⟨rfl,n1⟩)
   | gi_in)
  go_ret2;exact⟨_,by rw [HA.out];rfl,Nx.trans n0 n1,fun h=>absurd (HA.out.symm.trans h) HC.out⟩
theorem at_W {w:World} {B M:Nat} {d:Dit} (hw:Wtr w B M d d.ends d.cyc d.keys d.oth) (hO:d.Ok) (hg:Glob1 w) {h:Int} (hh : -1000000000≤h∧h≤100000000000) :
  CallsIn FL 0 Tryd.prog 44 #[.pointer (some ⟨B,0,none⟩),num h] w fun e w'=>e=.returned (.agg #[num (d.owner h).2.1,num (d.owner h).2.2])∧Nx w w' :=
 zpS B d d.ends d.cyc h w hw.wat hO.times hO.cyc hg.n0 hg.n1 (by have:=hg.size;omega) hh
theorem zkx {d:Dit} (hO:d.Ok) : -1∉d.keys:=fun h=>by have:=(hO.chg.bd _ h).1;omega
theorem zke {d:Dit} (hO:d.Ok) (h:Int):((d.owner h).2.1=-1∧(d.owner h).2.2=-1)∨(0≤(d.owner h).2.2∧(d.owner h).2.2<d.us.length∧0≤h∧d.ran h≠d.ran (h+1)∧(d.owner h).2.1=(d.ran h).tdiv d.cyc):=by
 have ht:=hO.turn_lt (d.ran h);unfold Dit.owner Dit.at;split
 ·exact .inl ⟨rfl,rfl⟩
 ·rename_i hn
  refine .inr ⟨by simp,?_,by omega,by omega,rfl⟩;unfold Dit.us;simp only [List.length_map];omega
theorem zp0 {w:World} {B M:Nat} {d:Dit} (hw:Wtr w B M d d.ends d.cyc d.keys d.oth) (hO:d.Ok) (hg:Glob1 w) {h:Int} (hh : -1000000000≤h∧h≤100000000000) :
  CallsIn FL 0 Tryd.prog 45 #[.pointer (some ⟨B,0,none⟩),.agg #[num (d.owner h).2.1,num (d.owner h).2.2]] w fun e w'=>e=.returned (num (d.owner h).1)∧Nx w w':=by
 obtain⟨v,h27,hv⟩:=hw.usual;have hb:=zf2 hO.times hO.roomy (h:=h) (by omega);have hq:=zcg (d.ran h) d.cyc;refine zo2 B M v d.us d.keys d.oth (d.owner h).2.1 (d.owner h).2.2 w hw.wat.dit.lt hg.n0 hg.n1 (by have:=hg.size;omega) h27 hv hw.others hw.map (fun c hc=>by rw [hO.chg.len c hc];unfold Dit.us;simp) ?_ ?_ (zkx hO)
 ·rcases zke hO h with ⟨h1,h2⟩ | ⟨h1,h2,h3,h4,h5⟩
  ·rw [h1];omega
  ·rw [h5];omega
 ·rcases zke hO h with ⟨h1,h2⟩ | ⟨h1,h2,_⟩
  ·exact .inl ⟨h1,h2⟩
  ·exact .inr ⟨h1,h2⟩
def zcC (d:Dit) (h:Int):(Int×Int×Int)×Int:=if zaF d≠0 then ((0,0,0),zaF d) else if ¬ (0≤h∧h≤999999999) then ((0,0,0),1) else (d.owner h,0)
theorem zmq (d:Dit) (r:zaR) (h:Int) (w:World) (hd:DitSl w d r) (hs:d.Small) (hg:Glob w) :
  CallsIn FL 0 Tryd.prog 23 #[d.val r,num h] w fun e w'=>e=.returned (.tuple #[num (zcC d h).1.1,num (zcC d h).1.2.1,num (zcC d h).1.2.2,num (zcC d h).2])∧Nx w w':=by
 obtain⟨W,hW,n0,hWs,cW⟩:=boxed w d r;have nWW:Nx W W:=jqb _ _;obtain⟨c0,c1,c2,c3,c4,c5,c6,c7,c8,c9,c10,c11,c12,c13⟩:=zaS (cW _ nWW);have fin:∀ {x y z u:Int},zcC d h=((x,y,z),u)→Ending.returned (.tuple #[num x,num y,num z,num u])=.returned (.tuple #[num (zcC d h).1.1,num (zcC d h).1.2.1,num (zcC d h).1.2.2,num (zcC d h).2]):=fun e=>by rw [e]
 by_cases hc:zaF d=0
 ·have hO:=zco hc
  have k66:=zic d r W (hd.nx n0) hs (hg.nx n0) hc;by_cases hh:0≤h∧h≤999999999
  ·have HA:Hid (zcC d h=(d.owner h,0)):=by show _=_;unfold zcC;rw [if_neg (by simp [hc]),if_neg (by simpa using hh)]
   have hh2 : -1000000000≤h∧h≤100000000000:=by omega
   have H0:Hid (d.Ok):=hO;have k67:=fun w1=>zaQ hh w1;clear hc cW;gi_enter Tryd.func23,Tryd.ntmps23;gi_upto_region 7 with (first
    | (gi_at_call 43;refine jqa k66 ?_;rintro e w1 ⟨B,M,rfl,n1,hB,hw⟩;have HW:=Lib.hid hw;have k68:=at_W hw hO (hg.nx (Nx.trans n0 n1)).one hh2;clear hw)
    | (gi_at_call 40;refine jqa (k67 _) ?_;rintro e w1 ⟨rfl,rfl⟩)
    | (gi_at_call 44;refine jqa k68 ?_;rintro e w2 ⟨rfl,n2⟩)
    | gi_in)
   generalize hW3:w2.alloc (.cells #[num (d.owner h).2.1,num (d.owner h).2.2] 102)=W3;have n3:Nx w1 W3:=by rw [← hW3];exact n2.alloc (by exact n2.size) _
   have nW3:Nx W3 W3.drew:=Below.drew (jqb _ _);have hs3:w2.heap.size<W3.heap.size:=by rw [← hW3];simp
   have ct:∀ wx,Nx W3 wx→wx.cell? ⟨w2.heap.size,0,none⟩=some (num (d.owner h).2.1)∧wx.cell? ⟨w2.heap.size,1,none⟩=some (num (d.owner h).2.2):=by
    intro wx nx;exact⟨(nx.cell (p:=⟨w2.heap.size,0,none⟩) (by exact hs3)).trans (by rw [← hW3];exact zaw _ _ _ _ _ rfl),(nx.cell (p:=⟨w2.heap.size,1,none⟩) (by exact hs3)).trans (by rw [← hW3];exact zaw _ _ _ _ _ rfl)⟩
   obtain⟨ct0,ct1⟩:=ct _ (jqb _ _);have k69:=(zp0 (HW.out.nx (Nx.trans n3 nW3)) hO ((hg.nx (Nx.trans n0 n1)).nx (Nx.trans n3 nW3)).one hh2);have kk:CallsIn FL 0 Tryd.prog 45 _ W3.drew fun e w'=>e=.returned (num (d.owner h).1)∧Nx W3 w':=k69.mono fun e w' ⟨x,y⟩=>⟨x,Nx.trans nW3 y⟩;clear k69 hW3 k66 k67
   gi_region_with (first | (gi_at_call 45;refine jqa kk ?_;rintro e w4 ⟨rfl,n4⟩;obtain⟨cx0,cx1⟩:=ct _ n4))
   all_goals (
    gi_wp2;refine bodyPost_ret (v:=.tuple #[num (d.owner h).1,num (d.owner h).2.1,num (d.owner h).2.2,num 0]) (by simp [results,Tryd.results23,go_sem]) rfl ?_;exact⟨fin HA.out,Nx.trans n0 (Nx.trans n1 (Nx.trans n3 n4))⟩)
  ·have HA:Hid (zcC d h=((0,0,0),1)):=by show _=_;unfold zcC;rw [if_neg (by simp [hc]),if_pos hh]
   have k67:=fun w1=>zbS hh w1;clear hc cW hO;gi_enter Tryd.func23,Tryd.ntmps23
   gi_wp2_with (first
    | (gi_at_call 43;refine jqa k66 ?_;rintro e w1 ⟨B,M,rfl,n1,hB,hw⟩;clear hw)
    | (gi_at_call 40;refine jqa (k67 _) ?_;rintro e w1 ⟨rfl,rfl⟩)
    | gi_in)
   refine bodyPost_ret (v:=.tuple #[num 0,num 0,num 0,num 1]) (by simp [results,Tryd.results23,go_sem]) rfl ?_;exact⟨fin HA.out,Nx.trans n0 n1⟩
 ·have k66:=zie d r W (hd.nx n0) hs (hg.nx n0) hc
  have HA:Hid (zcC d h=((0,0,0),zaF d)):=by show _=_;unfold zcC;rw [if_pos hc]
  have hb:(zaF d != 0)=true:=by simpa using hc
  have hb2:(zaF d == 0)=false:=by simpa using hc
  clear cW hc;gi_enter Tryd.func23,Tryd.ntmps23
  gi_wp2_with (first
   | (gi_at_call 43;refine jqa k66 ?_;rintro e w1 ⟨rfl,n1⟩)
   | gi_in)
  refine bodyPost_ret (v:=.tuple #[num 0,num 0,num 0,num (zaF d)]) (by simp [results,Tryd.results23,go_sem]) rfl ?_;exact⟨fin HA.out,Nx.trans n0 n1⟩
def Dit.hoursW (d:Dit) (holder a b:Int):Int:=d.hours d.ends d.cyc d.keys d.oth holder a b
def zca (d:Dit) (holder a b:Int):Int×Int:=if askS d holder a b≠0 then (0,askS d holder a b) else (d.hoursW holder a b,0)
def zb9 (d:Dit) (holder h:Int):Int:=zbz (fun n=>decide (d.hoursW holder h (n+1) > 0)) (1000000000-h).toNat h 1000000000
def zcB (d:Dit) (holder h:Int):Int×Bool×Int:=if askS d holder h 999999999≠0 then (0,false,askS d holder h 999999999) else if zb9 d holder h > 999999999 then (0,false,0) else (zb9 d holder h,true,0)
theorem zkR {a b:Int} (h:zbq a b=0):(0≤a∧a≤999999999)∧(0≤b∧b≤999999999)∧a≤b:=by
 unfold zbq at h
 split at h
 ·cases h
 ·split at h
  ·cases h
  ·omega
theorem ziU {d:Dit} {holder a b:Int} (h:askS d holder a b=0):zaF d=0∧(0≤holder∧holder≤(d.holders.length:Int)-1)∧(0≤a∧a≤999999999)∧(0≤b∧b≤999999999)∧a≤b:=by
 unfold askS at h
 split at h
 ·rename_i h0;exact absurd h h0
 ·rename_i h0
  split at h
  ·cases h
  ·rename_i h1
   exact⟨Decidable.not_not.1 h0,Decidable.not_not.1 h1,zkR h⟩
theorem zmV {w:World} {B M:Nat} {d:Dit} (hw:Wtr w B M d d.ends d.cyc d.keys d.oth) (hO:d.Ok) {holder a b:Int} (ha : -1000000000000≤a∧a≤1000000000000) (hb : -1000000000000≤b∧b≤1000000000000) :
  CallsIn FL 0 Tryd.prog 31 #[.pointer (some ⟨B,0,none⟩),num holder,num a,num b] w fun e w'=>e=.returned (num (d.hoursW holder a b))∧Nx w w' :=
 ziF B M d d.ends d.cyc d.keys d.oth holder a b w hw hO.times hO.roomy hO.cyc hO.chg ha hb
theorem zg5 (d:Dit) (r:zaR) (holder a b:Int) (w:World) (hd:DitSl w d r) (hs:d.Small) (hg:Glob w) :
  CallsIn FL 0 Tryd.prog 11 #[d.val r,num holder,num a,num b] w fun e w'=>e=.returned (.tuple #[num (zca d holder a b).1,num (zca d holder a b).2])∧Nx w w':=by
 obtain⟨W,hW,n0,hWs,cW⟩:=boxed w d r;have nWW:Nx W W:=jqb _ _;obtain⟨c0,c1,c2,c3,c4,c5,c6,c7,c8,c9,c10,c11,c12,c13⟩:=zaS (cW _ nWW);have fin:∀ {x y:Int},zca d holder a b=(x,y)→Ending.returned (.tuple #[num x,num y])=.returned (.tuple #[num (zca d holder a b).1,num (zca d holder a b).2]):=fun e=>by rw [e]
 have k56:=zjG d r holder a b W (hd.nx n0) hs (hg.nx n0);by_cases hc:askS d holder a b=0
 ·have HA:Hid (zca d holder a b=(d.hoursW holder a b,0)):=by show _=_;unfold zca;rw [if_neg (by simp [hc])]
  obtain⟨_,_,ha,hb,hab⟩:=ziU hc;have k56' : CallsIn FL 0 Tryd.prog 30 _ W fun e w'=>d.Ok∧zf6 W d 0 e w':=k56.mono fun e w' ⟨v,_,_,h⟩=>h hc;clear k56 cW hc;gi_enter Tryd.func11,Tryd.ntmps11
  gi_wp2_with (first
   | (gi_at_call 30;refine jqa k56' ?_;rintro e w1 ⟨hO,B,M,rfl,n1,hB,hw⟩;have k57:=zmV (holder:=holder) hw hO (a:=a) (b:=b) (by omega) (by omega);clear hw hO)
   | (gi_at_call 31;refine jqa k57 ?_;rintro e w2 ⟨rfl,n2⟩)
   | gi_in)
  go_ret2;exact⟨fin HA.out,Nx.trans n0 (Nx.trans n1 n2)⟩
 ·have HA:Hid (zca d holder a b=(0,askS d holder a b)):=by show _=_;unfold zca;rw [if_pos hc]
  have hb:(askS d holder a b != 0)=true:=by simpa using hc
  have k56' : CallsIn FL 0 Tryd.prog 30 _ W fun e w'=>∃ v,e=.returned (.tuple #[.pointer v,num (askS d holder a b)])∧Nx W w':=k56.mono fun e w' ⟨v,h1,h2,h⟩=>⟨v,h1,h2⟩;clear k56 cW hc;gi_enter Tryd.func11,Tryd.ntmps11
  gi_wp2_with (first
   | (gi_at_call 30;refine jqa k56' ?_;rintro e w1 ⟨v,rfl,n1⟩)
   | gi_in)
  go_ret2;exact⟨fin HA.out,Nx.trans n0 n1⟩
theorem ze4 {g:Int→Bool}:∀ (f:Nat) (a b:Int),a≤b→a≤zbz g f a b∧zbz g f a b≤b
 | 0,a,b,h=>by unfold zbz;omega
 | f+1,a,b,h=>by
  unfold zbz;split
  ·rename_i hlt
   have hd:0≤(b-a).tdiv 2∧(b-a).tdiv 2<b-a:=by
    rw [Int.tdiv_eq_ediv_of_nonneg (by omega)];omega
   have h1:=ze4 (g:=g) f a (a+(b-a).tdiv 2) (by omega);have h2:=ze4 (g:=g) f (a+(b-a).tdiv 2+1) b (by omega)
   split<;>omega
  ·omega
theorem zkv (d:Dit) (r:zaR) (holder h:Int) (w:World) (hd:DitSl w d r) (hs:d.Small) (hg:Glob w) :
  CallsIn FL 0 Tryd.prog 24 #[d.val r,num holder,num h] w fun e w'=>e=.returned (.tuple #[num (zcB d holder h).1,.bool (zcB d holder h).2.1,num (zcB d holder h).2.2])∧Nx w w':=by
 obtain⟨W,hW,n0,hWs,cW⟩:=boxed w d r;generalize hY:W.alloc (.cells #[num holder] 3)=Y;have sY:Y.heap.size=w.heap.size+1+1:=by rw [← hY];simp [hWs]
 generalize hZ:Y.alloc (.cells #[num h] 3)=Z;have sZ:Z.heap.size=w.heap.size+1+1+1:=by rw [← hZ];simp [sY]
 have nY:Nx W Y:=by rw [← hY];exact (jqb _ _).alloc (jqc _) _
 have nZ:Nx W Z:=by rw [← hZ];exact nY.alloc (by omega) _
 have nwZ:Nx w Z:=Nx.trans n0 nZ;have cq:∀ w1,Nx Z w1→w1.cell? ⟨w.heap.size+1,0,none⟩=some (num holder)∧w1.cell? ⟨w.heap.size+1+1,0,none⟩=some (num h):=by
  intro w1 n1;refine⟨(n1.cell (p:=⟨w.heap.size+1,0,none⟩) (by show _<_;simp only;omega)).trans ?_,(n1.cell (p:=⟨w.heap.size+1+1,0,none⟩) (by show _<_;simp only;omega)).trans ?_⟩
  ·rw [← hZ,zaH (by omega),← hY,← hWs];exact zaw _ _ _ _ _ rfl
  ·rw [← hZ,← sY];exact zaw _ _ _ _ _ rfl
 obtain⟨c0,c1,c2,c3,c4,c5,c6,c7,c8,c9,c10,c11,c12,c13⟩:=zaS (cW _ nZ);obtain⟨cq0,cr0⟩:=cq _ (jqb _ _);have fin:∀ {x z:Int} {y:Bool},zcB d holder h=(x,y,z)→Ending.returned (.tuple #[num x,.bool y,num z])=.returned (.tuple #[num (zcB d holder h).1,.bool (zcB d holder h).2.1,num (zcB d holder h).2.2]):=fun e=>by rw [e]
 have k56:=zjG d r holder h 999999999 Z (hd.nx nwZ) hs (hg.nx nwZ);by_cases hc:askS d holder h 999999999=0
 ·obtain⟨_,_,ha,hb,hab⟩:=ziU hc
  have hlb:=ze4 (g:=fun n=>decide (d.hoursW holder h (n+1) > 0)) (1000000000-h).toNat h 1000000000 (by omega);have HN:Hid (zcB d holder h=if zb9 d holder h > 999999999 then (0,false,0) else (zb9 d holder h,true,0)):=by show _=_;unfold zcB;rw [if_neg (by simp [hc])]
  have k56' : CallsIn FL 0 Tryd.prog 30 _ Z fun e w'=>d.Ok∧zf6 Z d 0 e w':=k56.mono fun e w' ⟨v,_,_,h⟩=>h hc;have kL:∀ (w1:World) (B M:Nat),d.Ok→Nx Z w1→Wtr w1 B M d d.ends d.cyc d.keys d.oth→CallsIn FL 0 Tryd.prog 46 #[num h,num 1000000000,.func (.func 47) #[] #[.pointer (some ⟨w1.heap.size,0,none⟩),.pointer (some ⟨w.heap.size+1,0,none⟩),.pointer (some ⟨w.heap.size+1+1,0,none⟩)]] (w1.alloc (.cells #[.pointer (some ⟨B,0,none⟩)] 77))
    fun e w'=>e=.returned (num (zb9 d holder h))∧Nx Z w':=by
   intro w1 B M hO n1 hw;have n1a:Nx w1 (w1.alloc (.cells #[.pointer (some ⟨B,0,none⟩)] 77)):=(jqb _ _).alloc (jqc _) _;refine (zm8 #[.pointer (some ⟨w1.heap.size,0,none⟩),.pointer (some ⟨w.heap.size+1,0,none⟩),.pointer (some ⟨w.heap.size+1+1,0,none⟩)] (fun n=>decide (d.hoursW holder h (n+1) > 0)) h 1000000000 _ (by omega) ?_).mono fun e w' ⟨x,y⟩=>⟨x,Nx.trans (Nx.trans n1 n1a) y⟩;intro n w2 n2 hn1 hn2;have n12:=Nx.trans n1a n2;obtain⟨hq,hr⟩:=cq _ (Nx.trans n1 n12);exact (zlE B M w1.heap.size (w.heap.size+1) (w.heap.size+1+1) d d.ends d.cyc d.keys d.oth holder h n w2 (hw.nx n12) hO.times hO.roomy hO.cyc hO.chg ((n2.cell (p:=⟨w1.heap.size,0,none⟩) (by simp)).trans (zaw _ _ _ _ _ rfl)) hq hr (by omega) (by omega)).mono fun e w' ⟨x,y⟩=>⟨x,Nx.trans n2 y⟩
  unfold zb9 at kL HN;generalize zbz (fun n=>decide (d.hoursW holder h (n+1) > 0)) (1000000000-h).toNat h 1000000000=n at kL HN hlb;clear k56 cW hc;gi_enter Tryd.func24,Tryd.ntmps24
  gi_wp2_with (first
   | (gi_at_call 30;refine jqa k56' ?_;rintro e w1 ⟨hO,B,M,rfl,n1,hB,hw⟩;have kl:=kL w1 B M hO n1 hw;obtain⟨cq1,cr1⟩:=cq _ n1;have hlt:Z.heap.size≤w1.heap.size:=n1.size;have cr2:(w1.alloc (.cells #[.pointer (some ⟨B,0,none⟩)] 77)).cell? ⟨w.heap.size+1+1,0,none⟩=some (num h):=(zaH (by omega)).trans cr1;clear hw hO kL)
   | (gi_at_call 46;refine jqa kl ?_;rintro e w2 ⟨rfl,n2⟩)
   | gi_in)
  ·refine bodyPost_ret (v:=.tuple #[num 0,.bool false,num 0]) (by simp [results,Tryd.results24,go_sem]) rfl ?_
   exact⟨fin (by rw [HN.out,if_pos (by assumption)]),Nx.trans nwZ n2⟩
  ·refine bodyPost_ret (v:=.tuple #[num n,.bool true,num 0]) (by simp [results,Tryd.results24,go_sem]) rfl ?_
   exact⟨fin (by rw [HN.out,if_neg (by omega)]),Nx.trans nwZ n2⟩
 ·have HA:Hid (zcB d holder h=(0,false,askS d holder h 999999999)):=by show _=_;unfold zcB;rw [if_pos hc]
  have hb:(askS d holder h 999999999 != 0)=true:=by simpa using hc
  have k56' : CallsIn FL 0 Tryd.prog 30 _ Z fun e w'=>∃ v,e=.returned (.tuple #[.pointer v,num (askS d holder h 999999999)])∧Nx Z w':=k56.mono fun e w' ⟨v,h1,h2,h⟩=>⟨v,h1,h2⟩;clear k56 cW hc;gi_enter Tryd.func24,Tryd.ntmps24
  gi_wp2_with (first
   | (gi_at_call 30;refine jqa k56' ?_;rintro e w1 ⟨v,rfl,n1⟩)
   | gi_in)
  refine bodyPost_ret (v:=.tuple #[num 0,.bool false,num (askS d holder h 999999999)]) (by simp [results,Tryd.results24,go_sem]) rfl ?_;exact⟨fin HA.out,Nx.trans nwZ (n1.alloc (by exact n1.size) _)⟩
end Go.Proofs.YtbbanmifdbeneaaDoor
namespace Go
section
variable {F:Fence} {nF:Nat} {P:Program} {ops:Array Oper} {md:Region.Mode} {C:World→Prop}
def zeJ (F:Fence) (nF:Nat) (P:Program) (md:Region.Mode) (ops:Array Oper) (C:World→Prop) (n:Nat) (L:Array Bool→Act→Prop):Nat→Array Bool→Act→Prop
 | 0,listed,a=>L listed a
 | f+1,listed,a =>
  jqe md ops listed≠[]∧∀ i∈jqe md ops listed,i<n∧qOpIn F nF P ops C i (zeJ F nF P md ops C n L f (listed.setIfInBounds i true)) a
theorem zdU {n g:Nat} {L:Array Bool→Act→Prop} {Q' : Exit→Act→World→Prop} (hro:F.round=none) (hL:∀ listed a w,C w→L listed a→wpAnyIn F nF P md ops Q' g listed a w) :
  ∀ (f:Nat) (listed:Array Bool) (a:Act) (w:World),C w→zeJ F nF P md ops C n L f listed a→wpAnyIn F nF P md ops Q' (f+g) listed a w
 | 0,listed,a,w,hw,h=>by rw [Nat.zero_add];exact hL _ _ _ hw h
 | f+1,listed,a,w,hw,h=>by
  rw [show f+1+g=(f+g)+1 by omega];exact⟨fun h0=>absurd h0 h.1,fun i hi=>wpOpIn_of_qOpIn hro hw (fun a' w' hw' h'=>zdU hro hL f _ a' w' hw' h') (h.2 i hi).2⟩
theorem zgV {n i:Nat} {oi:Oper} {v:Value} {L:Array Bool→Act→Prop} (hi:ops[i]?=some oi) (hsel:∀ (j:Nat) (o:Oper) cs b,ops[j]?=some o→o.op≠.select cs b)
  (hs:Region.sinkB md ops n=true) (hc:Region.chainB md ops n=true) (hn:n<ops.size) (hin:i<n)
  (hdone:∀ listed a,L listed a→∀ j∈jqe md ops listed,n≤j) :
  ∀ (f:Nat) (listed:Array Bool) (a:Act),HeadInv md ops n listed →
   (∀ j oj,ops[j]?=some oj→j≠i→listed.getD j true=false→(∀ e∈oj.after,Region.binds md e=true→e.on≠i)→oi.apart ops oj=true) →
   i∈jqe md ops listed→YieldsQuiet F nF P ops C oi v a →
   zeJ F nF P md ops C n L f (listed.setIfInBounds i true) (a.put oi.dst v)→zeJ F nF P md ops C n L (f+1) listed a:=by
 intro f
 induction f with
 | zero =>
  intro listed a inv _ hr hy H;have hun:=(mem_ready.1 hr).1;refine⟨fun h=>(by rw [h] at hr;cases hr),fun j hj=>?_⟩;have hjn:j<n:=by
   rcases Nat.lt_or_ge j n with h | h
   ·exact h
   ·exact absurd hj (tail_waits hs hc hn inv _ i rfl hin hun j h)
  refine⟨hjn,?_⟩;by_cases hji:j=i
  ·subst hji;exact hy.qOpIn hi H
  ·have:=hdone _ _ H j (ready_mono hj hji)
   omega
 | succ f ih =>
  intro listed a inv hfree hr hy H;have hun:=(mem_ready.1 hr).1;refine⟨fun h=>(by rw [h] at hr;cases hr),fun j hj=>?_⟩;have hjn:j<n:=by
   rcases Nat.lt_or_ge j n with h | h
   ·exact h
   ·exact absurd hj (tail_waits hs hc hn inv _ i rfl hin hun j h)
  refine⟨hjn,?_⟩;by_cases hji:j=i
  ·subst hji;exact hy.qOpIn hi H
  ·have h1:=(H.2 j (ready_mono hj hji)).2
   obtain⟨hjun,oj,hoj,hall⟩:=mem_ready.1 hj;have hnot:∀ e∈oj.after,Region.binds md e=true→e.on≠i:=fun e he hb heq=>by
    have h1:=hall e he hb;rw [heq,getD_both hun] at h1;cases h1
   have h2:=qOpIn_put hoj (hfree j oj hoj hji hjun hnot) (fun cs b=>hsel i oi cs b hi) (fun cs b=>hsel j oj cs b hoj) hy h1;have hfree' : ∀ k ok,ops[k]?=some ok→k≠i→(listed.setIfInBounds j true).getD k true=false →
     (∀ e∈ok.after,Region.binds md e=true→e.on≠i)→oi.apart ops ok=true:=fun k ok hk hki hun hno=>by
    refine hfree k ok hk hki ?_ hno;by_cases hjk:j=k
    ·subst hjk;exact hjun
    ·rw [getD_set_ne true hjk] at hun;exact hun
   refine qOpIn_mono (fun a' h3=>ih (listed.setIfInBounds j true) a' (inv.set hj hjn) hfree' (ready_mono hr (Ne.symm hji)) h3.1 ?_) h2;rw [Array.setIfInBounds_comm _ _ hji];exact h3.2
theorem zek {Q' : Exit→Act→World→Prop}:∀ (l:List Oper) (k:Nat) (listed:Array Bool) (a:Act) (w:World),(∀ j,l[j]?=ops[k+j]?) →
  Region.seqB md ops l.length k listed=true→wpListIn F nF P ops Q' l a w→wpAnyIn F nF P md ops Q' l.length listed a w
 | [],_,_,_,_,_,hB,h=>⟨by simpa [Region.seqB] using hB,h⟩
 | o :: l,k,listed,a,w,hl,hB,h=>by
  have h0:ops[k]?=some o:=by simpa using (hl 0).symm
  simp only [jqd,Region.seqB,Bool.and_eq_true,decide_eq_true_eq] at hB;refine⟨fun h1=>(by rw [hB.1] at h1;cases h1),fun i hi=>?_⟩;rw [hB.1] at hi;have hik:i=k:=by simpa using hi
  subst hik;have hw:wpOpIn F nF P ops Q' i (wpListIn F nF P ops Q' l) a w:=by unfold wpOpIn;simp only [h0];exact h
  exact wpOpIn_mono (fun a' w' h'=>zek l (i+1) _ a' w' (fun j=>by have:=hl (j+1);simpa [Nat.add_assoc,Nat.add_comm 1 j] using this) hB.2 h') hw
theorem zfw {n g:Nat} {Lq:Act→Prop} (hsel:Region.noSelect ops=true) (hs:Region.sinkB md ops n=true) (hc:Region.chainB md ops n=true) (hn:n<ops.size) :
  ∀ (l:List Oper) (k:Nat) (listed:Array Bool) (a:Act),(∀ j,j<l.length→l[j]?=ops[k+j]?)→k+l.length=n→HeadInv md ops n listed →
  Region.lexHead md ops g l.length k listed=true→wpQuietIn F nF P ops C Lq l a →
  zeJ F nF P md ops C n (fun listed' a'=>Region.seqB md ops g n listed'=true∧Lq a') l.length listed a
 | [],k,listed,a,_,hk,_,hB,h=>by
  have:k=n:=by simpa using hk
  subst this;exact⟨by simpa [Region.lexHead] using hB,h⟩
 | o :: l,k,listed,a,hl,hk,inv,hB,h=>by
  have h0:ops[k]?=some o:=by simpa using (hl 0 (by simp)).symm
  simp only [jqd,Region.lexHead,Bool.and_eq_true] at hB;obtain⟨⟨hr,hf⟩,hB'⟩:=hB;have hkn:k<n:=by simp only [jqd] at hk;omega
  have hr' : k∈jqe md ops listed:=by simpa using hr
  have hst:qOpIn F nF P ops C k (wpQuietIn F nF P ops C Lq l) a:=by unfold qOpIn;simp only [h0];exact h
  obtain⟨v,hy,hK⟩:=yieldsQuiet_of_qOpIn h0 hst;exact zgV h0 (Region.noSelect_spec hsel) hs hc hn hkn (fun listed' a' hL=>seqB_ready hL.1) l.length listed a inv (Region.free_spec h0 hf) hr' hy
   (zfw hsel hs hc hn l (k+1) _ _ (fun j hj=>by have:=hl (j+1) (by simp;omega);simpa [Nat.add_assoc,Nat.add_comm 1 j] using this) (by simp only [jqd] at hk;omega) (inv.set hr' hkn) hB' hK)
theorem zfI {id:Nat} {Q:Exit→Act→World→Prop} {a:Act} {w:World} {l:List Oper} (n:Nat) (hro:F.round=none) (hm:P.follows .mixedOrders=true) (hB:Region.lexTailB .any l.toArray n=true)
  (h:wpQuietIn F nF P l.toArray (fun w'=>∃ n,w'=w.drewN n) (fun a'=>∀ w',(∃ n,w'=w.drewN n)→wpListIn F nF P l.toArray Q (l.drop n) a' w') (l.take n) a):(Code.region id l.toArray true).wpIn F nF P Q a w:=by
 simp only [Region.lexTailB,Bool.and_eq_true,decide_eq_true_eq] at hB;obtain⟨⟨⟨⟨hsel,hn⟩,hs⟩,hc⟩,hlex⟩:=hB;have hn' : n<l.length:=by simpa using hn
 have htl:(l.take n).length=n:=by simp;omega
 have hdl:(l.drop n).length=l.toArray.size-n:=by simp
 have inv0:HeadInv .any l.toArray n (Array.replicate l.toArray.size false) :=
  ⟨by simp,fun j oj _ hl=>(by rw [getD_replicate_false] at hl;cases hl),fun t _ ht=>getD_in (by simpa using ht) (getD_replicate_false _ _)⟩
 have H:=zfw (F:=F) (nF:=nF) (md:=.any) (g:=l.toArray.size-n) hsel hs hc hn (l.take n) 0 _ a (fun j hj=>by
  have hj' : j<n:=by rw [htl] at hj;exact hj
  simp [hj']) (by simpa using htl) inv0 (by rw [htl];exact hlex) h
 refine wpIn_region_any hm ?_;have:=zdU (Q':=Q) (g:=l.toArray.size-n) hro (fun listed a' w' hw' hL=>by
  have:=zek (F:=F) (nF:=nF) (md:=.any) (Q':=Q) (l.drop n) n listed a' w' (fun j=>by simp [List.getElem?_drop]) (by rw [hdl];exact hL.1) (hL.2 w' hw')
  rwa [hdl] at this) _ _ _ { w with drawn:=w.drawn+1 } ⟨1,rfl⟩ H
 rw [htl,show n+(l.toArray.size-n)=l.toArray.size by omega] at this;exact this
end
end Go
