/- For every ditch and any five whole numbers the law TurnPlots returns true, does not panic, and leaves its arguments as they were. Conditions: the package's variables hold what the program lays in them at its start (laid), and the arguments are values as the card tells. -/
import Derived.Test.YtolholkjeehamaaDoorF61
import Derived.Test.YtolholkjeehamaaDoorF40
import Derived.Test.YtolholkjeehamaaDoorF39
import Derived.Test.YtolholkjeehamaaDoorF34
import Derived.Test.YtolholkjeehamaaDoorF09
import Derived.WalkKit
import Derived.Test.YtolholkjeehamaaDoorProg
import Derived.OwnWalkIn
import Derived.TacticsInMore
import Derived.RegionIn
import Derived.LoopNIn
import Derived.LoopIn
import Derived.RecoverIn
import Derived.Sort.BigQuietIn
import Derived.Sort.CutIn
import Derived.Handy
import Derived.Maps.OwnIn
import Derived.Maps.OwnSet
import Derived.Maps.RangeWalk
import Derived.Sort.MapsRangeIn
import Derived.Laws.IdiomStrings
import Derived.Lib.Hide
import Derived.Maps.AppendAt
import Derived.Lib.SliceRun
import Derived.RangeFuncNested
import Derived.RangeFuncBound
import Derived.RangeFuncCalls
import Derived.RangeFuncLeaves
import Derived.Shelf.Abstract
import Derived.Shelf.RegionOpen
import Derived.Stop.RegionWithIn
import Derived.Sort.QuietThIn
import Derived.StillTail
import Derived.Conc.SmallLaws
import Derived.Laws.MakeOwn
import Derived.Laws.EntriesVeiled
import Derived.Test.YtolholkjeehamaaDoorChecked
import Derived.ProofKit
import Derived.LaidMore
import Derived.OpenShut
import Derived.Stop.Joined
import Derived.Test.YtolholkjeehamaaDoorTie
import Derived.Test.YtolholkjeehamaaDoorCards
import Derived.Conc.LeavingOf
import Derived.SevenTiedAt
import Derived.Deep.Upon
import Derived.Test.YtolholkjeehamaaDoorP18
set_option linter.all false
set_option maxRecDepth 100000
set_option maxHeartbeats 4000000
open Go renaming undef → zu
open Go.Lib renaming hid → jqr
open Go.Act renaming put → jqs
open List renaming setIfInBounds_toArray → jqt, set_cons_succ → jqu, set_cons_zero → jqv, mem_cons_self → jxa, length_map → jxd, getElem?_eq_getElem → jxe
open Go.CallsIn renaming mono → jqw
open Nat renaming reduceEqDiff → jqx, reduceLT → jqy
open Go.Con.Gm renaming seq → jqz, lone → jxc
open Go.RowKit.Below renaming refl → jxb
namespace Go.Proofs.YtolholkjeehamaaDoor
theorem ybd {P:Int→Prop} {l:List Int} (h:∀ x∈l,P x) {v:Int} (hv:P v) (i:Nat):∀ x∈l.set i v,P x:=fun x hx=>by
 rcases List.mem_or_eq_of_mem_set hx with h1 | h1
 ·exact h x h1
 ·rw [h1];exact hv
theorem ybr {P:Int→Prop} {l:List Int} (h:∀ x∈l,P x) (h0:P 0) (i:Nat):P ((l[i]?).getD 0):=by
 rcases hi:l[i]? with _ | x
 ·exact h0
 ·exact h x (List.mem_of_getElem? hi)
theorem ybs {P:Int→Prop} (h0:P 0) (x:Int):∀ (sw:List (Int×Int×Int)) (us:List Int),(∀ v∈us,P v)→∀ v∈oth2 us sw x,P v
 | [],_,h=>h
 | s :: sw,us,h=>by
  show ∀ v∈oth2 (if s.1=x then zhD us s.2.1.toNat s.2.2.toNat else us) sw x,P v;refine ybs h0 x sw _ ?_;split
  ·exact ybd (ybd h (ybr h h0 _) _) (ybr h h0 _) _
  ·exact h
theorem ybt {P:Int→Prop} (x:Int):∀ (lo:List (Int×Int×Int)) (us:List Int),(∀ s∈lo,P s.2.2)→(∀ v∈us,P v)→∀ v∈oth3 us lo x,P v
 | [],_,_,h=>h
 | s :: lo,us,hl,h=>by
  show ∀ v∈oth3 (if s.1=x then us.set s.2.1.toNat s.2.2 else us) lo x,P v;refine ybt x lo _ (fun s hs=>hl s (List.mem_cons_of_mem _ hs)) ?_;split
  ·exact ybd h (hl s (jxa ..)) _
  ·exact h
theorem Dit.Ok.oth_all {d:Dit} (hO:d.Ok) (x:Int):∀ v∈d.oth x,0≤v∧v≤(d.holders.length:Int)-1:=by
 have hu:∀ v∈d.us,0≤v∧v≤(d.holders.length:Int)-1:=fun v hv=>by
  obtain⟨y,hy,rfl⟩:=List.mem_map.1 hv;exact (hO.th y hy).1
 have h0:0≤(0:Int)∧(0:Int)≤(d.holders.length:Int)-1:=by
  rcases ht:d.turns with _ | ⟨y,l⟩
  ·have:=hO.t12;rw [ht] at this;simp at this
  ·have:=(hO.th y (by rw [ht];exact jxa ..)).1;omega
 exact ybt (P:=fun v=>0≤v∧v≤(d.holders.length:Int)-1) x _ _ (fun s hs=>(hO.lo s hs).2.2) (ybs h0 x _ _ hu)
theorem Dit.Ok.hour {d:Dit} (hO:d.Ok) {h:Int} (hh:0≤h):(d.owner h=(-1,-1,-1)∧d.ran (h+1)=d.ran h) ∨
  (∃ k c t,d.owner h=(k,c,t)∧(0≤k∧k≤(d.holders.length:Int)-1)∧0≤c∧(0≤t∧t<(d.turns.length:Int))∧d.begin_≤h∧d.ran (h+1)=d.ran h+1):=by
 have hs:=hO.ran_step hh;by_cases hr:d.runs h=true
 ·have hr0:=hO.ran_nonneg h
  have hT:=hO.cyc_pos;rw [if_pos hr] at hs;have hq:0≤(d.ran h).tdiv d.cyc:=Int.tdiv_nonneg hr0 (by omega);have htl:=hO.turn_lt (d.ran h);have hl:=hO.oth_len ((d.ran h).tdiv d.cyc);have ha:=hO.oth_all ((d.ran h).tdiv d.cyc);have hw:(if (d.ran h).tdiv d.cyc∈d.keys then d.oth ((d.ran h).tdiv d.cyc) else d.us)=d.oth ((d.ran h).tdiv d.cyc):=by
   split
   ·rfl
   ·rename_i hn;rw [zoI hn]
  have hat:d.at d.ends d.cyc h=((d.ran h).tdiv d.cyc,(zei d.ends ((d.ran h).tmod d.cyc) 12 0:Int)):=by unfold Dit.at;rw [if_neg (by omega)]
  have hb:d.begin_≤h:=by
   rcases Int.lt_or_le h d.begin_ with hlt | hle
   ·have:=zjJ (d:=d) (h:=h) (by omega)
    have:=zjJ (d:=d) (h:=h+1) (by omega);omega
   ·exact hle
  refine .inr ⟨_,_,_,rfl,?_,?_,?_,hb,hs⟩
  ·rw [hat]
   unfold whoS;simp only [];rw [if_neg (by omega),hw,Int.toNat_natCast];generalize zei d.ends ((d.ran h).tmod d.cyc) 12 0=t at htl;generalize d.oth ((d.ran h).tdiv d.cyc)=l at hl ha;rw [jxe (show t<l.length by omega)];exact ha _ (List.getElem_mem _)
  ·rw [hat];exact hq
  ·rw [hat];exact⟨by simp,by simpa using htl⟩
 ·rw [if_neg hr] at hs
  have hat:d.at d.ends d.cyc h=(-1,-1):=by unfold Dit.at;rw [if_pos (by omega)]
  refine .inl ⟨?_,by omega⟩;unfold Dit.owner whoS;rw [hat];simp
end Go.Proofs.YtolholkjeehamaaDoor

namespace Go.Proofs.YtolholkjeehamaaDoor
open Go.RowKit
theorem zhN (d:Dit) (r:zaR) (h:Int) (w:World) (hd:DitSl w d r) (ht:d.Times) (hh : -1000000000000≤h∧h≤1000000000000) :
  CallsIn FL 0 Tryd.prog 80 #[d.val r,num h] w fun e w'=>e=.returned (num (d.ran h))∧Nx w w':=by
 obtain⟨W,hW,n0,hWs,cW⟩:=boxed w d r;obtain⟨af,cap,ef⟩:=hd.feasts.cases;rw [jxd] at ef;have hv:=hd.feasts.nx n0;rw [ef] at hv;have nWW:Nx W W:=jxb _ _;have c2:∀ x,Nx W x→x.cell? ⟨w.heap.size,2,none⟩=some (num d.begin_):=fun x hx=>cW x hx 2 _ rfl;have c6:∀ x,Nx W x→x.cell? ⟨w.heap.size,6,none⟩=some (.slice af d.feasts.length cap):=fun x hx=>(cW x hx 6 r.f rfl).trans (by rw [ef]);have hb0:=ht.begin_;have hb1 : -1000000000000≤d.begin_∧d.begin_≤1000000000000:=by omega
 have k104:∀ (y:Int) (x:World),-1000000000000≤y∧y≤1000000000000→Nx W x→CallsIn FL 0 Tryd.prog 104 #[d.val r,num y] x fun e w'=>e=.returned (num (zb0 d.week d.from_ d.long y))∧Nx W w' :=
  fun y x hy hx=>(zlX d r y x ht hy).mono fun e w' ⟨p,q⟩=>⟨p,Nx.trans hx q⟩
 have rbd:=fun (y:Int) hy=>zgq (hour:=y) ht.week ht.from_ ht.long hy;have f2:=c2 _ nWW;gi_enter Tryd.func80,Tryd.ntmps80;by_cases hle:h≤d.begin_
 ·have HZ:=jqr (zjJ hle)
  clear cW hv c2 c6 k104 rbd;gi_wp2;go_ret;exact⟨by rw [HZ.out];rfl,n0⟩
 ·gi_upto_region 3 with fail
  have nd:Nx W W.drew:=Below.drew nWW;have kA:=fun x hx=>k104 h x hh hx;have kB:=fun x hx=>k104 d.begin_ x hb1 hx;have rA:=rbd h hh;have rB:=rbd d.begin_ hb1;have H0:=jqr (show d.ranTo h 0=h-d.begin_-(zb0 d.week d.from_ d.long h-zb0 d.week d.from_ d.long d.begin_) by rw [d.ranTo_zero];unfold Dit.work zcZ;rw [if_neg (by omega)];omega);generalize zb0 d.week d.from_ d.long h=Rh at kA rA H0;generalize zb0 d.week d.from_ d.long d.begin_=Rb at kB rB H0;refine zbg (fun x=>Nx W x) (by kernel_rfl) ?_;change wpAnyC _ _ _ _ _ _ _ 14 #[false,false,false,false,false,false,false,false,false,false,false,false,false,false] _ _;refine jtk (i:=0) (oi:=⟨some 13,.move (.tmp 1),_,_,_,none⟩) (v:=num h) rfl (zaN rfl) ?_;simp only [jqs,jqt,jqu,jqv];refine jtk (i:=1) (oi:=⟨some 14,.fieldAddr 31 (.tmp 2) 2,_,_,_,none⟩) (v:=.pointer (some ⟨w.heap.size,2,none⟩)) rfl (zks rfl) ?_;simp only [jqs,jqt,jqu,jqv];refine jtk (i:=2) (oi:=⟨some 15,.load 3 (.tmp 14),_,_,_,none⟩) (v:=num d.begin_) rfl (zdq rfl (fun x hx=>c2 x hx)) ?_;simp only [jqs,jqt,jqu,jqv];refine jtk (i:=3) (oi:=⟨some 16,.binOp .sub 3 (.tmp 13) (.tmp 15) 3,_,_,_,none⟩) (v:=num (h-d.begin_)) rfl (zeE rfl rfl (by omega)) ?_;simp only [jqs,jqt,jqu,jqv];refine jtk (i:=4) (oi:=⟨some 17,.load 31 (.tmp 2),_,_,_,none⟩) (v:=d.val r) rfl (zc8 rfl (fun x hx=>cW x hx)) ?_;simp only [jqs,jqt,jqu,jqv];refine jtk (i:=5) (oi:=⟨some 18,.move (.tmp 1),_,_,_,none⟩) (v:=num h) rfl (zaN rfl) ?_
  simp only [jqs,jqt,jqu,jqv];refine jtk (i:=7) (oi:=⟨some 20,.load 31 (.tmp 2),_,_,_,none⟩) (v:=d.val r) rfl (zc8 rfl (fun x hx=>cW x hx)) ?_;simp only [jqs,jqt,jqu,jqv];refine jtk (i:=8) (oi:=⟨some 21,.fieldAddr 31 (.tmp 2) 2,_,_,_,none⟩) (v:=.pointer (some ⟨w.heap.size,2,none⟩)) rfl (zks rfl) ?_;simp only [jqs,jqt,jqu,jqv];refine jtk (i:=9) (oi:=⟨some 22,.load 3 (.tmp 21),_,_,_,none⟩) (v:=num d.begin_) rfl (zdq rfl (fun x hx=>c2 x hx)) ?_;simp only [jqs,jqt,jqu,jqv];refine zau (i:=6) (o:=⟨some 19,.call { callee:=.value (.func 104),args:=#[.tmp 17,.tmp 18],argTypes:=#[31,3] },_,_,_,none⟩) (by kernel_rfl) rfl rfl (nd) ?_;intro K hK;go_simp;refine jqw (kA _ (nd)) ?_;rintro e v6 ⟨rfl,n6⟩;refine hK _ _ ?_;refine zau (i:=10) (o:=⟨some 23,.call { callee:=.value (.func 104),args:=#[.tmp 20,.tmp 22],argTypes:=#[31,3] },_,_,_,none⟩) (by kernel_rfl) rfl rfl (n6) ?_;intro K hK;go_simp;refine jqw (kB _ (n6)) ?_;rintro e v10 ⟨rfl,n10⟩;refine hK _ _ ?_;refine jtk (i:=11) (oi:=⟨some 24,.binOp .sub 3 (.tmp 19) (.tmp 23) 3,_,_,_,none⟩) (v:=num (Rh-Rb)) rfl (zeE rfl rfl (by omega)) ?_;simp only [jqs,jqt,jqu,jqv];refine jtk (i:=12) (oi:=⟨some 25,.binOp .sub 3 (.tmp 16) (.tmp 24) 3,_,_,_,none⟩) (v:=num ((h-d.begin_)-(Rh-Rb))) rfl (zeE rfl rfl (by omega)) ?_;simp only [jqs,jqt,jqu,jqv];refine jtk (i:=13) (oi:=⟨some 5,.assign (.tmp 25),_,_,_,none⟩) (v:=num ((h-d.begin_)-(Rh-Rb))) rfl (zdN rfl) ?_;simp only [jqs,jqt,jqu,jqv]
  refine zbk (by kernel_rfl) (n10) ?_;clear kA kB f2;gi_wp2
  gi_loopw [5,6] (fun n i wr=>∃ k:Nat,k≤d.feasts.length∧i=num k∧n=num (d.ranTo h k)∧Nx W wr) (fun _ i _=>d.feasts.length-(intOf i).toNat)
  case atStart=>exact⟨0,Nat.zero_le _,rfl,by rw [H0.out],n10⟩
  case round =>
   obtain⟨k,hk,rfl,rfl,n2⟩:=hrel;have f2:=c2 _ n2;have f6:=c6 _ n2;by_cases hlt:k<d.feasts.length
   ·obtain⟨b,off,ha,hbl,hcl⟩:=hv.get (by simp;omega)
    subst ha;have hx:d.feasts[k]?=some d.feasts[k]:=jxe hlt;have hxb:=ht.feasts d.feasts[k] (List.getElem_mem _);generalize d.feasts[k]=x at hx hxb;obtain⟨x1,x2⟩:=x;dsimp only at hxb;obtain⟨g1,g2⟩:=Sl.at2 hcl n2 hbl hx;have hs:=d.ranTo_succ h hx;have hbd:=ht.ranTo_bd hh (k+1) hlt;have hbd0:=ht.ranTo_bd hh k hk;have hmany:=ht.many;dsimp only at hs;have HS:=jqr hs;have HB:=jqr hbd;have HB0:=jqr hbd0;have HC:=jqr hcl;have HV:=jqr hv;have HR:=jqr rbd;have HK:=jqr k104;have HW:=jqr cW;have H2:=jqr c2;clear hs hbd hbd0 hcl hv rbd k104 cW c2 c6 rA rB hx;gi_upto_region 7 with fail
    gi_big_quiet_th (fail);simp only [zoF,zio];have n3:Nx W (wr.drewN nq):=Nx.drewN n2 nq;generalize wr.drewN nq=W3 at n3 ⊢;have bA : -1000000000000≤max d.begin_ x1∧max d.begin_ x1≤1000000000000:=by omega
    have bE : -1000000000000≤min h (x2+1)∧min h (x2+1)≤1000000000000:=by omega
    clear f2 f6 g1 g2;generalize max d.begin_ x1=A at HS bA ⊢;generalize min h (x2+1)=E at HS bE ⊢;by_cases hlt2:A<E
    ·gi_upto_region 9 with fail
     have nd9:Nx W W3.drew:=Below.drew n3;have c2:=H2.out;have cW:=HW.out;have kA:=fun x hx=>HK.out A x bA hx;have kE:=fun x hx=>HK.out E x bE hx;have rA:=HR.out A bA;have rE:=HR.out E bE;have hs:d.ranTo h (k+1)=d.ranTo h k-(E-A-(zb0 d.week d.from_ d.long E-zb0 d.week d.from_ d.long A)):=by
      rw [HS.out];unfold Dit.work zcZ;rw [if_neg (by omega)];omega
     generalize zb0 d.week d.from_ d.long A=Ra at kA rA hs;generalize zb0 d.week d.from_ d.long E=Re at kE rE hs;have hz:=HB0.out;generalize d.ranTo h k=z at hs hz ⊢;refine zbg (fun x=>Nx W x) (by kernel_rfl) ?_;change wpAnyC _ _ _ _ _ _ _ 14 #[false,false,false,false,false,false,false,false,false,false,false,false,false,false] _ _;refine jtk (i:=0) (oi:=⟨some 54,.move (.tmp 5),_,_,_,none⟩) (v:=num z) rfl (zaN rfl) ?_;simp only [jqs,jqt,jqu,jqv];refine jtk (i:=1) (oi:=⟨some 55,.move (.tmp 8),_,_,_,none⟩) (v:=num E) rfl (zaN rfl) ?_;simp only [jqs,jqt,jqu,jqv];refine jtk (i:=2) (oi:=⟨some 56,.move (.tmp 7),_,_,_,none⟩) (v:=num A) rfl (zaN rfl) ?_;simp only [jqs,jqt,jqu,jqv];refine jtk (i:=3) (oi:=⟨some 57,.binOp .sub 3 (.tmp 55) (.tmp 56) 3,_,_,_,none⟩) (v:=num (E-A)) rfl (zeE rfl rfl (by omega)) ?_;simp only [jqs,jqt,jqu,jqv];refine jtk (i:=4) (oi:=⟨some 58,.load 31 (.tmp 2),_,_,_,none⟩) (v:=d.val r) rfl (zc8 rfl (fun x hx=>cW x hx)) ?_;simp only [jqs,jqt,jqu,jqv];refine jtk (i:=5) (oi:=⟨some 59,.move (.tmp 8),_,_,_,none⟩) (v:=num E) rfl (zaN rfl) ?_;simp only [jqs,jqt,jqu,jqv];refine jtk (i:=7) (oi:=⟨some 61,.load 31 (.tmp 2),_,_,_,none⟩) (v:=d.val r) rfl (zc8 rfl (fun x hx=>cW x hx)) ?_;simp only [jqs,jqt,jqu,jqv];refine jtk (i:=8) (oi:=⟨some 62,.move (.tmp 7),_,_,_,none⟩) (v:=num A) rfl (zaN rfl) ?_;simp only [jqs,jqt,jqu,jqv];refine zau (i:=6) (o:=⟨some 60,.call { callee:=.value (.func 104),args:=#[.tmp 58,.tmp 59],argTypes:=#[31,3] },_,_,_,none⟩) (by kernel_rfl) rfl rfl (nd9) ?_
     intro K hK;go_simp;refine jqw (kE _ (nd9)) ?_;rintro e v6 ⟨rfl,m6⟩;refine hK _ _ ?_;refine zau (i:=9) (o:=⟨some 63,.call { callee:=.value (.func 104),args:=#[.tmp 61,.tmp 62],argTypes:=#[31,3] },_,_,_,none⟩) (by kernel_rfl) rfl rfl (m6) ?_;intro K hK;go_simp;refine jqw (kA _ (m6)) ?_;rintro e v9 ⟨rfl,m9⟩;refine hK _ _ ?_;refine jtk (i:=10) (oi:=⟨some 64,.binOp .sub 3 (.tmp 60) (.tmp 63) 3,_,_,_,none⟩) (v:=num (Re-Ra)) rfl (zeE rfl rfl (by omega)) ?_;simp only [jqs,jqt,jqu,jqv];refine jtk (i:=11) (oi:=⟨some 65,.binOp .sub 3 (.tmp 57) (.tmp 64) 3,_,_,_,none⟩) (v:=num ((E-A)-(Re-Ra))) rfl (zeE rfl rfl (by omega)) ?_;simp only [jqs,jqt,jqu,jqv];refine jtk (i:=12) (oi:=⟨some 66,.binOp .sub 3 (.tmp 54) (.tmp 65) 3,_,_,_,none⟩) (v:=num (z-((E-A)-(Re-Ra)))) rfl (zeE rfl rfl (by omega)) ?_;simp only [jqs,jqt,jqu,jqv];refine jtk (i:=13) (oi:=⟨some 5,.assign (.tmp 66),_,_,_,none⟩) (v:=num (z-((E-A)-(Re-Ra)))) rfl (zdN rfl) ?_;simp only [jqs,jqt,jqu,jqv];refine zbk (by kernel_rfl) (m9) ?_;clear kA kE c2 cW;gi_wp2;exact⟨⟨k+1,hlt,by simp,by rw [hs],m9⟩,by simp [intOf];omega⟩
    ·have hs:d.ranTo h (k+1)=d.ranTo h k:=by rw [HS.out];unfold Dit.work zcZ;rw [if_pos (by omega)];omega
     gi_wp2;exact⟨⟨k+1,hlt,by simp,by rw [hs],n3⟩,by simp [intOf];omega⟩
   ·obtain rfl:k=d.feasts.length:=by omega
    clear hv rbd k104 cW c2 c6;gi_wp2;go_ret;exact⟨by rw [d.ranTo_all];rfl,Nx.trans n0 n2⟩
end Go.Proofs.YtolholkjeehamaaDoor

namespace Go.Proofs.YtolholkjeehamaaDoor
open Go.RowKit
theorem zgN (d:Dit) (r:zaR) (holder a b:Int) (w:World) (hd:DitSl w d r) (hO:d.Ok) (ha : -1000000000000≤a∧a≤1000000000000) (hb : -1000000000000≤b∧b≤1000000000000) :
  CallsIn FL 0 Tryd.prog 59 #[d.val r,num holder,num a,num b] w fun e w'=>e=.returned (num (d.hoursW holder a b))∧Nx w w':=by
 obtain⟨W,hW,n0,hWs,cW⟩:=boxed w d r;have nWW:Nx W W:=jxb _ _;have hdW:=hd.nx n0;have ra:=zf2 hO.times hO.roomy ha;have rb:=zf2 hO.times hO.roomy hb;have r0a:=hO.ran_nonneg a;have r0b:=hO.ran_nonneg b;have fa:=zkj (holder:=holder) hO.cyc hO.chg ra;have fb:=zkj (holder:=holder) hO.cyc hO.chg rb;have k80:=fun (y:Int) (x:World) (hy : -1000000000000≤y∧y≤1000000000000) (hx:Nx W x)=>(zhN d r y x (hdW.nx hx) hO.times hy).mono fun e w' ⟨p,q⟩=>(⟨p,Nx.trans hx q⟩:_∧Nx W w');have k91:=fun (y:Int) (x:World) (hy:0≤y∧y≤100000000000000) (hx:Nx W x)=>(zjt d r holder y x (hdW.nx hx) hO hy).mono fun e w' ⟨p,q⟩=>(⟨p,Nx.trans hx q⟩:_∧Nx W w');have kRb:=fun x hx=>k80 b x hb hx;have kRa:=fun x hx=>k80 a x ha hx;have kFb:=fun x hx=>k91 (d.ran b) x (by omega) hx;have kFa:=fun x hx=>k91 (d.ran a) x (by omega) hx;have fa' : -2000000000000000000≤d.had holder (d.ran a)∧d.had holder (d.ran a)≤2000000000000000000:=fa;have fb' : -2000000000000000000≤d.had holder (d.ran b)∧d.had holder (d.ran b)≤2000000000000000000:=fb;have HH:=jqr (zd3 d holder a b);generalize d.ran a=Ra at *;generalize d.ran b=Rb at *;generalize d.had holder Ra=Fa at *;generalize d.had holder Rb=Fb at *;have nd:Nx W W.drew:=Below.drew nWW;clear hd hO hdW k80 k91 fa fb;gi_enter Tryd.func59,Tryd.ntmps59;gi_upto_region 1 with fail
 refine zbg (fun x=>Nx W x) (by kernel_rfl) ?_;change wpAnyC _ _ _ _ _ _ _ 14 #[false,false,false,false,false,false,false,false,false,false,false,false,false,false] _ _;refine jtk (i:=0) (oi:=⟨some 9,.load 31 (.tmp 4),_,_,_,none⟩) (v:=d.val r) rfl (zc8 rfl (fun x hx=>cW x hx)) ?_;simp only [jqs,jqt,jqu,jqv];refine jtk (i:=1) (oi:=⟨some 10,.move (.tmp 1),_,_,_,none⟩) (v:=num holder) rfl (zaN rfl) ?_;simp only [jqs,jqt,jqu,jqv];refine jtk (i:=2) (oi:=⟨some 11,.load 31 (.tmp 4),_,_,_,none⟩) (v:=d.val r) rfl (zc8 rfl (fun x hx=>cW x hx)) ?_;simp only [jqs,jqt,jqu,jqv];refine jtk (i:=3) (oi:=⟨some 12,.move (.tmp 3),_,_,_,none⟩) (v:=num b) rfl (zaN rfl) ?_;simp only [jqs,jqt,jqu,jqv];refine jtk (i:=6) (oi:=⟨some 15,.load 31 (.tmp 4),_,_,_,none⟩) (v:=d.val r) rfl (zc8 rfl (fun x hx=>cW x hx)) ?_;simp only [jqs,jqt,jqu,jqv];refine jtk (i:=7) (oi:=⟨some 16,.move (.tmp 1),_,_,_,none⟩) (v:=num holder) rfl (zaN rfl) ?_;simp only [jqs,jqt,jqu,jqv];refine jtk (i:=8) (oi:=⟨some 17,.load 31 (.tmp 4),_,_,_,none⟩) (v:=d.val r) rfl (zc8 rfl (fun x hx=>cW x hx)) ?_;simp only [jqs,jqt,jqu,jqv];refine jtk (i:=9) (oi:=⟨some 18,.move (.tmp 2),_,_,_,none⟩) (v:=num a) rfl (zaN rfl) ?_;simp only [jqs,jqt,jqu,jqv];refine zau (i:=4) (o:=⟨some 13,.call { callee:=.value (.func 80),args:=#[.tmp 11,.tmp 12],argTypes:=#[31,3] },_,_,_,none⟩) (by kernel_rfl) rfl rfl (nd) ?_;intro K hK;go_simp;refine jqw (kRb _ (nd)) ?_
 rintro e v4 ⟨rfl,m4⟩;refine hK _ _ ?_;refine zau (i:=5) (o:=⟨some 14,.call { callee:=.value (.func 91),args:=#[.tmp 9,.tmp 10,.tmp 13],argTypes:=#[31,3,3] },_,_,_,none⟩) (by kernel_rfl) rfl rfl (m4) ?_;intro K hK;go_simp;refine jqw (kFb _ (m4)) ?_;rintro e v5 ⟨rfl,m5⟩;refine hK _ _ ?_;refine zau (i:=10) (o:=⟨some 19,.call { callee:=.value (.func 80),args:=#[.tmp 17,.tmp 18],argTypes:=#[31,3] },_,_,_,none⟩) (by kernel_rfl) rfl rfl (m5) ?_;intro K hK;go_simp;refine jqw (kRa _ (m5)) ?_;rintro e v10 ⟨rfl,m10⟩;refine hK _ _ ?_;refine zau (i:=11) (o:=⟨some 20,.call { callee:=.value (.func 91),args:=#[.tmp 15,.tmp 16,.tmp 19],argTypes:=#[31,3,3] },_,_,_,none⟩) (by kernel_rfl) rfl rfl (m10) ?_;intro K hK;go_simp;refine jqw (kFa _ (m10)) ?_;rintro e v11 ⟨rfl,m11⟩;refine hK _ _ ?_;refine jtk (i:=12) (oi:=⟨some 21,.binOp .sub 3 (.tmp 14) (.tmp 20) 3,_,_,_,none⟩) (v:=num (Fb-Fa)) rfl (zeE rfl rfl (by omega)) ?_;simp only [jqs,jqt,jqu,jqv];refine jtk (i:=13) (oi:=⟨some 8,.assign (.tmp 21),_,_,_,none⟩) (v:=num (Fb-Fa)) rfl (zdN rfl) ?_;simp only [jqs,jqt,jqu,jqv];refine zbk (by kernel_rfl) (m11) ?_;gi_wp2;go_ret;exact⟨by rw [HH.out];rfl,Nx.trans n0 m11⟩
end Go.Proofs.YtolholkjeehamaaDoor

namespace Go.Proofs.YtolholkjeehamaaDoor
open Go.RowKit
theorem ybh (d:Dit) (r:zaR) (holder a b price:Int) (w:World) (hd:DitSl w d r) (hs:d.Small) (hm:askS d holder a b=0→0≤d.hoursW holder a b∧d.hoursW holder a b≤1000000000) :
  CallsIn FL 0 Tryd.prog 54 #[d.val r,num holder,num a,num b,num price] w fun e w'=>e=.returned (.tuple #[num (yac d holder a b price).1,num (yac d holder a b price).2])∧Nx w w':=by
 obtain⟨W,hW,n0,hWs,cW⟩:=boxed w d r;have nW:Nx W W:=jxb _ _;have CW:=jqr cW;have HD:=jqr hd;have HN0:=jqr n0;obtain⟨c0,c1,c2,c3,c4,c5,c6,c7,c8,c9,c10,c11,c12,c13⟩:=zaS (cW _ nW);have k58:=ziW d r holder a b W (hd.nx n0) hs;have h71:=fun w1=>zby price 0 10000 w1;by_cases hc:askS d holder a b=0
 ·obtain⟨hck,hhold,ha,hb,hab⟩:=ziU hc
  have hO:d.Ok:=zco hck;rw [hc] at k58;by_cases hp:0≤price∧price≤10000
  ·have HA:Hid (yac d holder a b price=(yct d holder price d.plots (price * d.hoursW holder a b),0)):=by show _=_;unfold yac;rw [if_neg (by simp [hc]),if_pos hp]
   have b71:decide (0≤price∧price≤10000)=true:=decide_eq_true hp;rw [b71] at h71;obtain⟨hm0,hm1⟩:=hm hc;obtain⟨ap,capp,ep⟩:=hd.plots.cases;rw [jxd] at ep;have hpl:=hd.plots;rw [ep] at hpl;have h13:=jqr (fun w1 (nx:Nx W w1)=>show w1.cell? ⟨w.heap.size,13,none⟩=some (.slice ap d.plots.length capp) from (cW w1 nx 13 r.p rfl).trans (by rw [ep]));have HPL:=jqr hpl;have hmul1:0≤price * d.hoursW holder a b:=Int.mul_nonneg hp.1 hm0;have hmul2:price * d.hoursW holder a b≤10000 * 1000000000:=Int.mul_le_mul hp.2 hm1 hm0 (by omega);have k59:=jqr (fun w1 (nx:Nx W w1)=>zgN d r holder a b w1 (HD.out.nx (Nx.trans HN0.out nx)) hO (by omega) (by omega));have hp8:=hO.p8;have HBD:=jqr (fun k h=>ybg hO (holder:=holder) hp.1 k h);clear hc ep cW hpl hm hck hd b71;generalize hH:d.hoursW holder a b=H at *;gi_enter Tryd.func54,Tryd.ntmps54;gi_upto_region 7 with (first
    | (gi_at_call 58;refine jqw k58 ?_;rintro e w1 ⟨rfl,n1⟩;clear c0 c1 c2 c3 c4 c5 c6 c7 c8 c9 c10 c11 c12 c13;obtain⟨c0,c1,c2,c3,c4,c5,c6,c7,c8,c9,c10,c11,c12,c13⟩:=zaS (CW.out w1 n1);have kh:=k59.out w1 n1)
    | (gi_at_call 71;refine jqw (h71 _) ?_;rintro e wq ⟨rfl,rfl⟩)
    | (gi_at_call 59;refine jqw kh ?_;rintro e w2 ⟨rfl,n2⟩)
    | gi_in)
   clear c0 c1 c2 c3 c4 c5 c6 c7 c8 c9 c10 c11 c12 c13 k58 h71 kh k59;have n12:Nx W w2:=Nx.trans n1 n2;have c13:=h13.out w2 n12;gi_wp2;clear c13
   gi_loopw [13,14] (fun n i wr=>∃ k:Nat,k≤d.plots.length∧i=num k∧n=num (price * H+yam d holder price (d.plots.take k))∧Nx W wr) (fun _ i _=>d.plots.length-(intOf i).toNat)
   case atStart=>exact⟨0,Nat.zero_le _,rfl,by simp [yam],n12⟩
   case round =>
    obtain⟨k,hk,rfl,rfl,n3⟩:=hrel;have c13:=h13.out wr n3;by_cases hlt:k<d.plots.length
    ·obtain⟨b0,off,ha0,hbl,hcl⟩:=HPL.out.get (by simp;omega)
     subst ha0;have hx:d.plots[k]?=some d.plots[k]:=jxe hlt;generalize hxk:d.plots[k]=x at hx;clear hxk;have HG:=jqr (fun w1 (nx:Nx W w1)=>Sl.at6 hcl (Nx.trans HN0.out nx) hbl hx);have hpx:=hO.pl k x hx;have hbk:=HBD.out k (by omega);have h1:=ybf hO (holder:=holder) hp.1 hx;have htk:=yat holder price hx;have hnb:=zos hO (p:=x) (by omega);have kn:=yar d r k x wr (HD.out.nx (Nx.trans HN0.out n3)) hO hx;have hb1:yb5 d holder price x=if (d.needs x).2 && decide (x.holder=holder) then max 0 (x.worth-price * (d.needs x).1) else 0:=rfl
     have HB1:=jqr hb1;have HTK:=jqr htk;have hmn:price * (d.needs x).1≤10000 * 2000000000:=Int.mul_le_mul hp.2 (by omega) (by omega) (by omega);have hmn0:0≤price * (d.needs x).1:=Int.mul_nonneg hp.1 (by omega);have hwx:=hpx.2.2.2.2.2;clear hb1 htk hpx hcl hbl hx;generalize (d.needs x).1=h at *;generalize (d.needs x).2=ok at *;generalize yb5 d holder price x=z1 at *;generalize yam d holder price (d.plots.take k)=z2 at *;gi_upto_region 10 with fail
     clear c13;obtain⟨c0,c1,c2,c3,c4,c5,c6,c7,c8,c9,c10,c11,c12,c13⟩:=zaS (CW.out wr n3);gi_upto_region 11 with (first
      | (gi_at_call 86;refine jqw kn ?_;rintro e w3 ⟨rfl,n4⟩)
      | gi_in)
     clear c0 c1 c2 c3 c4 c5 c6 c7 c8 c9 c10 c11 c12 c13 kn;have n34:Nx W w3:=Nx.trans n3 n4;have c13:=h13.out w3 n34;obtain⟨g0,g1,g2,g3,g4,g5⟩:=HG.out w3 n34;have mx:=yan (x.worth-price * h) w3
     cases ok with
     | false =>
      gi_wp2;have e:=HB1.out;simp only [Bool.false_and,Bool.false_eq_true,if_false] at e;exact⟨⟨k+1,hlt,by simp,by rw [HTK.out,e];simp,n34⟩,by simp [intOf];omega⟩
     | true =>
      by_cases hh:x.holder=holder
      ·subst hh
       have bh:(x.holder == x.holder)=true:=by simp
       gi_wp2;have e:=HB1.out;simp only [Bool.true_and,decide_true,if_true] at e;exact⟨⟨k+1,hlt,by simp,by rw [HTK.out,e];congr 1;omega,n34⟩,by simp [intOf];omega⟩
      ·have bh:(x.holder == holder)=false:=by simpa using hh
       gi_wp2;have e:=HB1.out;simp only [Bool.true_and,hh,decide_false,Bool.false_eq_true,if_false] at e;exact⟨⟨k+1,hlt,by simp,by rw [HTK.out,e];simp,n34⟩,by simp [intOf];omega⟩
    ·obtain rfl:k=d.plots.length:=by omega
     have he:yct d holder price d.plots (price * H)=price * H+yam d holder price (d.plots.take d.plots.length):=by rw [ybe,List.take_length]
     have HE:=jqr he;clear he;generalize yam d holder price (d.plots.take d.plots.length)=z at *;gi_wp2;refine bodyPost_ret (v:=.tuple #[num (price * H+z),num 0]) (by simp [results,Tryd.results54,go_sem]) rfl ?_;exact⟨by rw [HA.out,HE.out],Nx.trans HN0.out n3⟩
  ·have HA:Hid (yac d holder a b price=(0,1)):=by show _=_;unfold yac;rw [if_neg (by simp [hc]),if_neg hp]
   have b71:decide (0≤price∧price≤10000)=false:=decide_eq_false hp;rw [b71] at h71;clear hc hm cW hd hp b71;gi_enter Tryd.func54,Tryd.ntmps54
   gi_wp2_with (first
    | (gi_at_call 58;refine jqw k58 ?_;rintro e w1 ⟨rfl,n1⟩)
    | (gi_at_call 71;refine jqw (h71 _) ?_;rintro e wq ⟨rfl,rfl⟩)
    | gi_in)
   refine bodyPost_ret (v:=.tuple #[num 0,num 1]) (by simp [results,Tryd.results54,go_sem]) rfl ?_;exact⟨by rw [HA.out],Nx.trans HN0.out n1⟩
 ·have HA:Hid (yac d holder a b price=(0,askS d holder a b)):=by show _=_;unfold yac;rw [if_pos hc]
  have hb:(askS d holder a b != 0)=true:=by simpa using hc
  generalize askS d holder a b=g at *;clear hc hm cW hd;gi_enter Tryd.func54,Tryd.ntmps54
  gi_wp2_with (first
   | (gi_at_call 58;refine jqw k58 ?_;rintro e w1 ⟨rfl,n1⟩)
   | gi_in)
  refine bodyPost_ret (v:=.tuple #[num 0,num g]) (by simp [results,Tryd.results54,go_sem]) rfl ?_;exact⟨by rw [HA.out],Nx.trans HN0.out n1⟩
end Go.Proofs.YtolholkjeehamaaDoor

namespace Go.Proofs.YtolholkjeehamaaDoor
open Go.RowKit
noncomputable def ydc:Code:=match Tryd.f53.body with | some c=>c | none=>.skip
noncomputable def wa8:Code:=seqR (seqR (seqR (seqR (seqR (seqR ydc)))))
noncomputable def wa11:Code:=match seqR (seqL wa8) with
 | .block _ (.loop x)=>(match seqL (seqR x) with | .block _ z=>seqL z | c=>c)
 | c=>c
noncomputable def ydd:Array Oper:=match wa11 with | .region _ ops _=>ops | _=>#[]
theorem yc0:wa11=.region 11 ydd true:=by kernel_rfl
theorem ybl {v0 v2 v3 v5 v6 v7 v8 v9 v10 v11 v13 v14 v15 v18 v19 v20 v21 v22 v23 v24 v25 v26 v27 v28 v29 v30 v31 v32 v33 v34 v35 v36 v37 v38 v39 v40 v41 v42 v43 v44 v45 v46 v47 v48 v49 v50 v51 v52 v53 v54 v55 v56 v57 v58 v59 v60 v61 v62 v63 v64 v65 v66 v67 v68 v69 v70 v71 v72 v73 v74 v75 v76 v77 v78 v79:Value} (d:Dit) (r:zaR) (holder most:Int) (b off n cr k:Nat) (al:Option Addr) (m cl B:Nat) (h wo:Int) (ok:Bool) (Y wr:World) (hlt:k<n) (oR:Nx Y wr)
  (CO:Hid (∀ x,Nx Y x→∀ i v,(d.cellsA r)[i]?=some v→x.cell? ⟨B,i,none⟩=some v)) (CE:Hid (∀ x,Nx Y x→x.cell? ⟨b,off+k,none⟩=some (.slice al m cl)))
  (KC:Hid (∀ u,Nx Y u→CallsIn FL 0 Tryd.prog 51 #[d.val r,num holder,num most,.slice al m cl] u fun e w'=>e=Ending.returned (.tuple #[num h,num wo,.bool ok])∧Nx u w')) :
  wa11.wpIn FL 0 Tryd.prog (fun e a w'=>e=.normal∧a.defers=[]∧a.tmps=#[v0,num holder,v2,v3,.pointer (some ⟨B,0,none⟩),v5,v6,v7,v8,v9,v10,v11,num most,v13,v14,v15,.slice (some ⟨b,off,none⟩) n cr,num k,num h,num wo,.bool ok,v21,v22,v23,v24,v25,v26,v27,v28,v29,v30,v31,v32,v33,v34,v35,v36,v37,v38,v39,v40,v41,v42,v43,.tuple #[num h,num wo,.bool ok],d.val r,num holder,num most,.slice (some ⟨b,off,none⟩) n cr,num k,.pointer (some ⟨b,off+k,none⟩),.slice al m cl,.tuple #[num h,num wo,.bool ok],num h,num wo,.bool ok,v56,v57,v58,v59,v60,v61,v62,v63,v64,v65,v66,v67,v68,v69,v70,v71,v72,v73,v74,v75,v76,v77,v78,v79]∧Nx Y w') ⟨#[v0,num holder,v2,v3,.pointer (some ⟨B,0,none⟩),v5,v6,v7,v8,v9,v10,v11,num most,v13,v14,v15,.slice (some ⟨b,off,none⟩) n cr,num k,v18,v19,v20,v21,v22,v23,v24,v25,v26,v27,v28,v29,v30,v31,v32,v33,v34,v35,v36,v37,v38,v39,v40,v41,v42,v43,v44,v45,v46,v47,v48,v49,v50,v51,v52,v53,v54,v55,v56,v57,v58,v59,v60,v61,v62,v63,v64,v65,v66,v67,v68,v69,v70,v71,v72,v73,v74,v75,v76,v77,v78,v79],[]⟩ wr:=by
 rw [yc0];have oD:Nx Y wr.drew:=Below.drew oR;refine zbg (fun x=>Nx Y x) (by kernel_rfl) ?_;change wpAnyC _ _ _ _ _ _ _ 15 #[false,false,false,false,false,false,false,false,false,false,false,false,false,false,false] _ _;refine jtk (i:=0) (oi:=⟨some 45,.load 31 (.tmp 4),_,_,_,none⟩) (v:=d.val r) rfl (zc8 rfl (fun x hx=>CO.out x hx)) ?_;simp only [jqs,jqt,jqu,jqv];refine jtk (i:=1) (oi:=⟨some 46,.move (.tmp 1),_,_,_,none⟩) (v:=num holder) rfl (zaN rfl) ?_;simp only [jqs,jqt,jqu,jqv];refine jtk (i:=2) (oi:=⟨some 47,.move (.tmp 12),_,_,_,none⟩) (v:=num most) rfl (zaN rfl) ?_;simp only [jqs,jqt,jqu,jqv];refine jtk (i:=3) (oi:=⟨some 48,.move (.tmp 16),_,_,_,none⟩) (v:=.slice (some ⟨b,off,none⟩) n cr) rfl (zaN rfl) ?_;simp only [jqs,jqt,jqu,jqv];refine jtk (i:=4) (oi:=⟨some 49,.move (.tmp 17),_,_,_,none⟩) (v:=num k) rfl (zaN rfl) ?_;simp only [jqs,jqt,jqu,jqv];refine jtk (i:=5) (oi:=⟨some 50,.indexAddr 143 (.tmp 48) (.tmp 49),_,_,_,none⟩) (v:=.pointer (some ⟨b,off+k,none⟩)) rfl (yC rfl (fun _=>rfl) fun x hx=>by clear CO CE KC oD oR;simp [execOp,go_sem,hlt]) ?_;simp only [jqs,jqt,jqu,jqv];refine jtk (i:=6) (oi:=⟨some 51,.load 64 (.tmp 50),_,_,_,none⟩) (v:=.slice al m cl) rfl (yC rfl (fun _=>rfl) fun x hx=>by have e:=CE.out x hx;clear CO CE KC oD oR;simp [execOp,go_sem,e]) ?_;simp only [jqs,jqt,jqu,jqv];refine zau (i:=7) (o:=⟨some 52,.call { callee:=.value (.func 51),args:=#[.tmp 45,.tmp 46,.tmp 47,.tmp 51],argTypes:=#[31,3,3,64] },_,_,_,none⟩) (by kernel_rfl) rfl rfl (oD) ?_
 intro K hK;go_simp;refine jqw (((KC.out _ (oD)).mono fun e w' ⟨p,q⟩=>(⟨p,Nx.trans (oD) q⟩:e=Ending.returned (.tuple #[num h,num wo,.bool ok])∧Nx Y w'))) ?_;rintro e v7w ⟨rfl,y7⟩;refine hK _ _ ?_;refine jtk (i:=8) (oi:=⟨some 44,.move (.tmp 52),_,_,_,none⟩) (v:=.tuple #[num h,num wo,.bool ok]) rfl (zaN rfl) ?_;simp only [jqs,jqt,jqu,jqv];refine jtk (i:=9) (oi:=⟨some 53,.extract (.tmp 44) 0,_,_,_,none⟩) (v:=num h) rfl (yC rfl (fun _=>rfl) fun x hx=>by clear CO CE KC oD oR;simp [execOp,go_sem]) ?_;simp only [jqs,jqt,jqu,jqv];refine jtk (i:=10) (oi:=⟨some 54,.extract (.tmp 44) 1,_,_,_,none⟩) (v:=num wo) rfl (yC rfl (fun _=>rfl) fun x hx=>by clear CO CE KC oD oR;simp [execOp,go_sem]) ?_;simp only [jqs,jqt,jqu,jqv];refine jtk (i:=11) (oi:=⟨some 55,.extract (.tmp 44) 2,_,_,_,none⟩) (v:=.bool ok) rfl (yC rfl (fun _=>rfl) fun x hx=>by clear CO CE KC oD oR;simp [execOp,go_sem]) ?_;simp only [jqs,jqt,jqu,jqv];refine jtk (i:=12) (oi:=⟨some 18,.assign (.tmp 53),_,_,_,none⟩) (v:=num h) rfl (zdN rfl) ?_;simp only [jqs,jqt,jqu,jqv];refine jtk (i:=13) (oi:=⟨some 19,.assign (.tmp 54),_,_,_,none⟩) (v:=num wo) rfl (zdN rfl) ?_;simp only [jqs,jqt,jqu,jqv];refine jtk (i:=14) (oi:=⟨some 20,.assign (.tmp 55),_,_,_,none⟩) (v:=.bool ok) rfl (zdN rfl) ?_;simp only [jqs,jqt,jqu,jqv];refine zbk (by kernel_rfl) (y7) ?_;exact⟨rfl,rfl,rfl,y7⟩
theorem ycf {d:Dit} {holder most:Int} {L:List (List Int)} {k:Nat} {l:List Int} (h:L[k]?=some l) (b:Choice):yah d holder most (L.take (k+1)) b=yaw d holder most l (yah d holder most (L.take k) b):=by
 rw [List.take_add_one,h,yai];rfl
theorem ybm (d:Dit) (r:zaR) (holder a b:Int) (w:World) (hd:DitSl w d r) (hs:d.Small) (hm:askS d holder a b=0→0≤d.hoursW holder a b) :
  CallsIn FL 0 Tryd.prog 53 #[d.val r,num holder,num a,num b] w fun e w'=>∃ v,e=.returned (.tuple #[v,num (zfr d holder a b).2.1,num (zfr d holder a b).2.2])∧Nx w w'∧Sl w' v 1 ((zfr d holder a b).1.map fun x=>[num x]):=by
 obtain⟨W,hW,n0,hWs,cW⟩:=boxed w d r;have nW:Nx W W:=jxb _ _;have CW:=jqr cW;have HD:=jqr hd;have HN0:=jqr n0;obtain⟨c0,c1,c2,c3,c4,c5,c6,c7,c8,c9,c10,c11,c12,c13⟩:=zaS (cW _ nW);have k58:=ziW d r holder a b W (hd.nx n0) hs;by_cases hc:askS d holder a b=0
 ·obtain⟨hck,hhold,ha,hb,hab⟩:=ziU hc
  have hO:d.Ok:=zco hck;rw [hc] at k58;have HA:Hid (zfr d holder a b=((d.best holder a b).plots,(d.best holder a b).worth,0)):=by show _=_;unfold zfr;rw [if_neg (by simp [hc])]
  have HB:Hid (d.best holder a b=yah d holder (d.hoursW holder a b) ([] :: yab d.plots.length d.plots.length) ⟨[],0,0⟩):=by show _=_;rw [ycw hO _ _ (hm hc)];rfl
  obtain⟨ap,capp,ep⟩:=hd.plots.cases;rw [jxd] at ep;have h13:=jqr (fun w1 (nx:Nx W w1)=>show w1.cell? ⟨w.heap.size,13,none⟩=some (.slice ap d.plots.length capp) from (cW w1 nx 13 r.p rfl).trans (by rw [ep]));have k59:=jqr (fun w1 (nx:Nx W w1)=>zgN d r holder a b w1 (HD.out.nx (Nx.trans HN0.out nx)) hO (by omega) (by omega));have hp8:=hO.p8;have k88:=jqr (fun w1=>ybz d.plots.length d.plots.length 0 w1 (by simp) (by omega) hp8);have HLL:=jqr (yau (n:=(d.plots.length:Int)) hp8);have HLM:=jqr (fun (l:List Int) (h:l∈[] :: yab d.plots.length d.plots.length)=>ycc hp8 h);clear hc ep cW hm hck hd;generalize hH:d.hoursW holder a b=H at *;gi_enter Tryd.func53,Tryd.ntmps53;gi_upto_region 5 with (first
   | (gi_at_call 58;refine jqw k58 ?_;rintro e w1 ⟨rfl,n1⟩;clear c0 c1 c2 c3 c4 c5 c6 c7 c8 c9 c10 c11 c12 c13;obtain⟨c0,c1,c2,c3,c4,c5,c6,c7,c8,c9,c10,c11,c12,c13⟩:=zaS (CW.out w1 n1);have kh:=k59.out w1 n1)
   | (gi_at_call 59;refine jqw kh ?_;rintro e w2 ⟨rfl,n2⟩)
   | gi_in)
  clear c0 c1 c2 c3 c4 c5 c6 c7 c8 c9 c10 c11 c12 c13 k58 kh k59;have n12:Nx W w2:=Nx.trans n1 n2;have c13:=h13.out w2 n12;have ks:=k88.out w2
  gi_wp2_with (first
   | (gi_at_call 88;refine jqw ks ?_;rintro e w3 ⟨ur,vr,rfl,hP⟩;have HP:=jqr hP;obtain⟨ar,cr,her⟩:=hP.sl.cases;rw [jxd] at her;have HLR:=jqr hP.rows.1;subst her;clear hP ks c13)
   | gi_in)
  have n13:Nx W w3:=Nx.trans n12 HP.out.nx;have hvr:vr.length≤256:=by rw [HLR.out,List.length_cons];have:=HLL.out;omega
  generalize hLL:([]:List Int) :: yab d.plots.length d.plots.length=L at *;clear hLL k88
  gi_loopw [13,14,15,17] (fun vb vh vw vi wr=>∃ (k:Nat) (c:Choice),k≤vr.length∧vi=num k∧c=yah d holder H (L.take k) ⟨[],0,0⟩∧vh=num c.hours∧vw=num c.worth∧Sl w3 vb 1 (c.plots.map fun x=>[num x])∧Nx w3 wr) (fun _ _ _ vi _=>vr.length-(intOf vi).toNat)
  case atStart=>exact⟨0,⟨[],0,0⟩,Nat.zero_le _,rfl,rfl,rfl,rfl,⟨0,.inl ⟨rfl,rfl⟩⟩,jxb _ _⟩
  case round =>
   obtain⟨k,c,hk,rfl,hcs,rfl,rfl,hsb,n4⟩:=hrel;have HSB:=jqr hsb;have HCS:=jqr hcs;clear hsb hcs;by_cases hlt:k<vr.length
   ·obtain⟨b0,off,ha0,hbl,hcl⟩:=HP.out.sl.get (by simp;omega)
    subst ha0;have hx:vr[k]?=some vr[k]:=jxe hlt;have hml:k<L.length:=by rw [← HLR.out];exact hlt
    have hy:L[k]?=some L[k]:=jxe hml;generalize vr[k]=v at hx;generalize L[k]=l at hy;have hvl:=(HP.out.rows.2 k v l hx hy).1;have hl8:=HLM.out l (List.mem_of_getElem? hy);obtain⟨av,cv,hve⟩:=hvl.cases;rw [jxd] at hve;subst hve;have CE:=jqr (fun x (nx:Nx w3 x)=>show x.cell? ⟨b0,off+k,none⟩=some (.slice av l.length cv) from (nx.cell (p:=⟨b0,off+k,none⟩) hbl).trans (by
     have:=hcl k 0 [.slice av l.length cv] (.slice av l.length cv) (by simp [hx]) rfl
     simpa using this))
    have HVL:=jqr (fun x (nx:Nx w3 x)=>hvl.nx nx);have HSK:=jqr (ycf (d:=d) (holder:=holder) (most:=H) hy ⟨[],0,0⟩);have KC:=jqr (fun u (nx:Nx w3 u)=>yba d r holder H l (.slice av l.length cv) u (HD.out.nx (Nx.trans HN0.out (Nx.trans n13 nx))) hO (HVL.out u nx) (by omega));have HPK:=jqr (show yaw d holder H l c=if (yaa d holder H l).2.2 && (decide ((yaa d holder H l).2.1 > c.worth) || decide ((yaa d holder H l).2.1=c.worth) && decide ((yaa d holder H l).1<c.hours)) then ⟨l,(yaa d holder H l).1,(yaa d holder H l).2.1⟩ else c from rfl);clear hcl hvl hx hy;generalize (yaa d holder H l).1=h at *;generalize (yaa d holder H l).2.1=wo at *;generalize (yaa d holder H l).2.2=ok at *;have HNX:=jqr (show yah d holder H (L.take (k+1)) ⟨[],0,0⟩=yaw d holder H l c from by rw [HCS.out];exact HSK.out);gi_upto_region 11 with fail
    refine yal (c':=wa11) (by kernel_rfl) ?_;refine wpIn_mono (ybl d r holder H b0 off vr.length cr k av l.length cv w.heap.size h wo ok w3 wr hlt n4 (jqr fun x nx=>CW.out x (Nx.trans n13 nx)) CE KC) ?_;rintro e a w5 ⟨rfl,hdf,hta,n5⟩;obtain⟨ta,df⟩:=a;dsimp only at hdf hta;subst hta hdf;have e5:=CE.out w5 n5;have TK:=jqr (show Sl w3 (.slice av l.length cv) 1 (l.map fun x=>[num x]) from HVL.out w3 (jxb _ _));have FIN0:=jqr (fun (hq:(ok && (decide (wo > c.worth) || decide (wo=c.worth) && decide (h<c.hours)))=false)=>show c=yah d holder H (L.take (k+1)) ⟨[],0,0⟩ from by rw [HNX.out,HPK.out,hq];rfl);have FIN1:=jqr (fun (hq:(ok && (decide (wo > c.worth) || decide (wo=c.worth) && decide (h<c.hours)))=true)=>show (⟨l,h,wo⟩:Choice)=yah d holder H (L.take (k+1)) ⟨[],0,0⟩ from by rw [HNX.out,HPK.out,hq];rfl);clear HNX HPK HSK HCS
    cases ok with
    | false =>
     gi_wp2;exact⟨⟨k+1,c,hlt,by simp,FIN0.out rfl,rfl,rfl,HSB.out,n5⟩,by simp [intOf];omega⟩
    | true =>
     by_cases g1:wo > c.worth
     ·have d1:decide (wo > c.worth)=true:=decide_eq_true g1
      have fin:=jqr (FIN1.out (by rw [d1];rfl));gi_wp2;exact⟨⟨k+1,⟨l,h,wo⟩,hlt,by simp,fin.out,rfl,rfl,TK.out,n5⟩,by simp [intOf];omega⟩
     ·have d1:decide (wo > c.worth)=false:=decide_eq_false g1
      by_cases g2:wo=c.worth
      ·have d2:(wo == c.worth)=true:=by simpa using g2
       have d2' : decide (wo=c.worth)=true:=decide_eq_true g2;by_cases g3:h<c.hours
       ·have d3:decide (h<c.hours)=true:=decide_eq_true g3
        have fin:=jqr (FIN1.out (by rw [d1,d2',d3];rfl));clear g2 d2';gi_wp2;exact⟨⟨k+1,⟨l,h,wo⟩,hlt,by simp,fin.out,rfl,rfl,TK.out,n5⟩,by simp [intOf];omega⟩
       ·have d3:decide (h<c.hours)=false:=decide_eq_false g3
        have fin:=jqr (FIN0.out (by rw [d1,d2',d3];rfl));clear g2 d2';gi_wp2;exact⟨⟨k+1,c,hlt,by simp,fin.out,rfl,rfl,HSB.out,n5⟩,by simp [intOf];omega⟩
      ·have d2:(wo == c.worth)=false:=by simpa using g2
       have d2' : decide (wo=c.worth)=false:=decide_eq_false g2;have fin:=jqr (FIN0.out (by rw [d1,d2'];rfl));clear d2';gi_wp2;exact⟨⟨k+1,c,hlt,by simp,fin.out,rfl,rfl,HSB.out,n5⟩,by simp [intOf];omega⟩
   ·obtain rfl:k=vr.length:=by omega
    gi_wp2;refine bodyPost_ret (v:=.tuple #[u13,num c.worth,num 0]) (by simp [results,Tryd.results53,go_sem]) rfl ?_;have e:d.best holder a b=c:=by rw [HB.out,HCS.out,List.take_of_length_le (by rw [HLR.out];exact Nat.le_refl _)]
    exact⟨_,by rw [HA.out,e],Nx.trans HN0.out (Nx.trans n13 n4),by rw [HA.out,e];exact HSB.out.nx n4⟩
 ·have HA:Hid (zfr d holder a b=([],0,askS d holder a b)):=by show _=_;unfold zfr;rw [if_pos hc]
  have hb:(askS d holder a b != 0)=true:=by simpa using hc
  generalize askS d holder a b=g at *;clear hc hm cW hd;gi_enter Tryd.func53,Tryd.ntmps53
  gi_wp2_with (first
   | (gi_at_call 58;refine jqw k58 ?_;rintro e w1 ⟨rfl,n1⟩)
   | gi_in)
  refine bodyPost_ret (v:=.tuple #[.slice none 0 0,num 0,num g]) (by simp [results,Tryd.results53,go_sem]) rfl ?_;exact⟨_,by rw [HA.out],Nx.trans HN0.out n1,by rw [HA.out];exact⟨0,.inl ⟨rfl,rfl⟩⟩⟩
end Go.Proofs.YtolholkjeehamaaDoor

namespace Go.Proofs.YtolholkjeehamaaDoor
open Go.RowKit Go.Con Go.Conc
local instance pnI1:Lone:=zcG
noncomputable def yae:Code:=match Tryd.f18.body with | some c=>c | none=>.skip
noncomputable def pt0:Code:=seqL yae
noncomputable def yb3:Code:=seqR yae
noncomputable def pt1:Code:=seqL (seqL yb3)
noncomputable def pt2:Code:=match seqR (seqL yb3) with | .cond _ x _=>seqL x | c=>c
noncomputable def ycg:Code:=seqR yb3
noncomputable def pt3:Code:=seqL ycg
noncomputable def ych:Code:=seqR ycg
noncomputable def pt4:Code:=seqL ych
noncomputable def yci:Code:=seqR ych
noncomputable def pt5:Code:=seqL yci
noncomputable def ycj:Code:=seqR yci
noncomputable def pt7:Code:=seqL ycj
noncomputable def yck:Code:=seqR ycj
noncomputable def pt8:Code:=seqL yck
noncomputable def ycl:Code:=seqR yck
noncomputable def pt9:Code:=seqL ycl
noncomputable def ycm:Code:=seqR ycl
noncomputable def ydk:Code:=seqL ycm
noncomputable def ycn:Code:=seqR ycm
noncomputable def ydl:Code:=seqL ycn
noncomputable def yax:Code:=seqR ycn
noncomputable def ydm:Code:=seqL yax
theorem yco:yae=.seq pt0 (.seq (.seq pt1 (.cond (.tmp 25) (.seq pt2 .ret) .skip)) (.seq pt3 (.seq pt4 (.seq pt5 (.seq pt7 (.seq pt8 (.seq pt9 (.seq ydk (.seq ydl (.seq ydm .ret)))))))))):=by kernel_rfl
theorem ycp:Tryd.f18.body=some yae:=by kernel_rfl
noncomputable def oppt2:Array Oper:=opsOf pt2
theorem yde:pt2=.region 2 oppt2 false:=by kernel_rfl
noncomputable def oppt13:Array Oper:=opsOf ydm
theorem yc7:ydm=.region 13 oppt13 false:=by kernel_rfl
theorem ycq (d:Dit) (r:zaR) (holder a b:Int) (w:World) (hd:DitSl w d r) (hs:d.Small) (hg:Glob w) (hc:askS d holder a b≠0) :
  CallsIn FL 0 Tryd.prog 49 #[d.val r,num holder,num a,num b] w fun e w'=>∃ v,e=.returned (.tuple #[v,num (zfr d holder a b).2.1,num (zfr d holder a b).2.2])∧Nx w w'∧PlS w' v (zfr d holder a b).1:=by
 obtain⟨W,hW,n0,hWs,cW⟩:=boxed w d r;generalize hY:W.alloc (.cells #[num holder] 3)=Y;have sY:Y.heap.size=w.heap.size+1+1:=by rw [← hY];simp [hWs]
 have nY:Nx W Y:=by rw [← hY];exact (jxb _ _).alloc (Nat.le_refl _) _
 have nwY:Nx w Y:=Nx.trans n0 nY;have cq:∀ w1,Nx Y w1→w1.cell? ⟨w.heap.size+1,0,none⟩=some (num holder):=by
  intro w1 n1;refine (n1.cell (p:=⟨w.heap.size+1,0,none⟩) (by show w.heap.size+1<_;omega)).trans ?_;rw [← hY,← hWs];exact zaw _ _ _ _ _ rfl
 obtain⟨c0,c1,c2,c3,c4,c5,c6,c7,c8,c9,c10,c11,c12,c13⟩:=zaS (cW _ nY);have cq0:=cq _ (jxb _ _);have k56:=zjG d r holder a b Y (hd.nx nwY) hs (hg.nx nwY);have HA:Hid (zfr d holder a b=([],0,askS d holder a b)):=by show _=_;unfold zfr;rw [if_pos hc]
 have hb:(askS d holder a b != 0)=true:=by simpa using hc
 have k56' : CallsIn FL 0 Tryd.prog 56 _ Y fun e w'=>∃ v,e=.returned (.tuple #[.pointer v,num (askS d holder a b)])∧Nx Y w':=k56.mono fun e w' ⟨v,h1,h2,h⟩=>⟨v,h1,h2⟩;clear k56 cW hc;gi_enter Tryd.func49,Tryd.ntmps49
 gi_wp2_with (first
  | (gi_at_call 56;refine jqw k56' ?_;rintro e w1 ⟨v,rfl,n1⟩)
  | gi_in)
 refine bodyPost_ret (v:=.tuple #[.slice none 0 0,num 0,num (askS d holder a b)]) (by simp [results,Tryd.results49,go_sem]) rfl ?_;exact⟨.slice none 0 0,by rw [HA.out],Nx.trans nwY (n1.alloc (by exact n1.size) _),by rw [HA.out];exact .inl ⟨rfl,rfl⟩⟩
theorem yag {d:Dit} {holder a b:Int} (hc:askS d holder a b=0):0≤d.hoursW holder a b∧d.hoursW holder a b≤1000000000:=by
 obtain⟨hck,hhold,ha,hb,hab⟩:=ziU hc;have hO:d.Ok:=zco hck;have h1:=hO.ran_mono (a:=a) (b:=b) (by omega) (by omega);have h2:=hO.had_mono holder (hO.ran_nonneg a) h1.1;rw [zd3];omega
theorem yb0 {d:Dit} {holder a b:Int}:(zfr d holder a b).1.length≤8:=by
 unfold zfr;split
 ·simp
 ·rename_i hc
  have hO:d.Ok:=zco (ziU (Decidable.not_not.1 hc)).1;exact zjk d holder _ d.plots ⟨[],0,0⟩ 0 _ (by simpa using hO.p8) (by split<;>simp)
theorem ycr (d:Dit) (r:zaR) (holder a b:Int) (w:World) (hd:DitSl w d r) (hs:d.Small) (hg:Glob w) :
  CallsIn FL 0 Tryd.prog 49 #[d.val r,num holder,num a,num b] w fun e w'=>∃ v,e=.returned (.tuple #[v,num (zfr d holder a b).2.1,num (zfr d holder a b).2.2])∧Nx w w'∧Sl w' v 1 ((zfr d holder a b).1.map fun x=>[num x]):=by
 by_cases hc:askS d holder a b=0
 ·have:=yag hc
  exact (zlZ d r holder a b w hd hs hg (by omega)).mono fun e w' ⟨v,h1,h2,h3⟩=>⟨v,h1,h2,h3.sl⟩
 ·exact (ycq d r holder a b w hd hs hg hc).mono fun e w' ⟨v,h1,h2,h3⟩=>⟨v,h1,h2,h3.sl⟩
theorem ydf (w:World) (x y:Int):Old w (w.alloc (.cells #[.int .i64 x,.int .i64 y] 28))∧(w.alloc (.cells #[.int .i64 x,.int .i64 y] 28)).heap[w.heap.size]?=some (.cells #[num x,num y] 28 (0,0)) :=
 ⟨.nx (zaG (jxb _ _) _),heap_alloc_new w _⟩
theorem yc2 {w w' : World} {b:Nat} {x y:Int} (h:w.heap[b]?=some (.cells #[num x,num y] 28 (0,0))) (o:Old w w'):w'.cell? ⟨b,0,none⟩=some (num x)∧w'.cell? ⟨b,1,none⟩=some (num y):=by
 have hl:=(Array.getElem?_eq_some_iff.1 h).1;refine⟨(o.cell ⟨b,0,none⟩ hl).trans ?_,(o.cell ⟨b,1,none⟩ hl).trans ?_⟩<;>(unfold World.cell?;dsimp only;rw [h];rfl)
def yc3 (W:World) (t:Array Value) (W2:World):Prop:=Old W W2∧∃ n f:Int,t.size=108∧t[21]?=some (num n)∧t[22]?=some (num n)∧t[14]?=some (num f)∧t[16]?=some (num f)
theorem yb1 (d:Dit) (r:zaR) (p h a b q:Int) (W:World) (hd:DitSl W d r) (hb:d.Big) (hg:Glob W) :
  zo0 Tryd.prog (FG 18) [pt0,pt1] (fun t W1=>Old W W1∧t.size=108∧(t[25]?=some (.bool true)∨(t[25]?=some (.bool false)∧zo0 Tryd.prog (FG 18) [pt3,pt4,pt5,pt7,pt8,pt9,ydk,ydl] (yc3 W) t W1)))
   #[d.val r,num p,num h,num a,num b,num q,zu,zu,zu,zu,zu,zu,zu,zu,zu,zu,zu,zu,zu,zu,zu,zu,zu,zu,zu,zu,zu,zu,zu,zu,zu,zu,zu,zu,zu,zu,zu,zu,zu,zu,zu,zu,zu,zu,zu,zu,zu,zu,zu,zu,zu,zu,zu,zu,zu,zu,zu,zu,zu,zu,zu,zu,zu,zu,zu,zu,zu,zu,zu,zu,zu,zu,zu,zu,zu,zu,zu,zu,zu,zu,zu,zu,zu,zu,zu,zu,zu,zu,zu,zu,zu,zu,zu,zu,zu,zu,zu,zu,zu,zu,zu,zu,zu,zu,zu,zu,zu,zu] W:=by
 intro τ;generalize hw0:({ W with tape:=τ }:World)=w0;have hO0:Old W w0:=by rw [← hw0];exact .same rfl
 clear hw0;have hd0:=hd.old hO0;obtain⟨V,hV,nV,hVs,cV⟩:=boxed w0 d r;have nVV:Nx V V:=jxb _ _;simp only [pt0,yae,seqL,seqR,Tryd.f18];gi_wp2;intro τ1;generalize hw1:({ V with tape:=τ1 }:World)=w1;have hO1:Old V w1:=by rw [← hw1];exact .same rfl
 have hOw:Old W w1:=hO0.trans ((Old.nx nV).trans hO1);have cO:∀ w2,Old w1 w2→∀ i v,(d.cellsA r)[i]?=some v→w2.cell? ⟨w0.heap.size,i,none⟩=some v:=fun w2 o i v h=>((hO1.trans o).cell ⟨w0.heap.size,i,none⟩ (by show w0.heap.size<_;omega)).trans (cV _ nVV i v h);have hBl:w0.heap.size<w1.heap.size:=Nat.lt_of_lt_of_le (by omega) hO1.size;clear hw1;simp only [pt1,yax,ycn,ycm,ycl,yck,ycj,yci,ych,ycg,yb3,yae,seqL,seqR,Tryd.f18];have k19:=toFG 18 (m:=0) (zlS d r 0 0 (.slice none 0 0) [] w1 (hd.old hOw) hb ⟨0,.inl ⟨rfl,rfl⟩⟩ (Nat.zero_le _));obtain⟨ah,caph,eh⟩:=hd.holders.cases;obtain⟨at1,capt,et⟩:=hd.turns.cases;rw [jxd] at eh et;obtain⟨c0,c1,c2,c3,c4,c5,c6,c7,c8,c9,c10,c11,c12,c13⟩:=zaS (cO w1 (Old.refl _));have CH:=jqr (show ∀ w2,Old w1 w2→w2.cell? ⟨w0.heap.size,0,none⟩=some (.slice ah d.holders.length caph) from fun w2 o=>(cO w2 o 0 r.h rfl).trans (by rw [eh]));have CT:=jqr (show ∀ w2,Old w1 w2→w2.cell? ⟨w0.heap.size,1,none⟩=some (.slice at1 d.turns.length capt) from fun w2 o=>(cO w2 o 1 r.t rfl).trans (by rw [et]));have CO:=jqr cO;have HD:=jqr hd;have HG:=jqr hg;have HB:=jqr hb;clear cO cV hd hg hb hd0 hV nV eh et
 cases hgr:zbG d 0 with
 | true =>
  rw [show ([]:List (List Value)).length=0 from rfl,hgr] at k19
  gi_wp2_with (first
   | (gi_at_call 19;refine jqw k19 ?_;rintro e w2 ⟨rfl,x2⟩)
   | gi_in)
  exact⟨hOw.trans (.nx x2),rfl,.inl rfl⟩
 | false =>
 rw [show ([]:List (List Value)).length=0 from rfl,hgr] at k19;have hs:=zgU hgr;clear hgr
 gi_wp2_with (first
  | (gi_at_call 19;refine jqw k19 ?_;rintro e w3 ⟨rfl,x2⟩;clear c0 c1 c2 c3 c4 c5 c6 c7 c8 c9 c10 c11 c12 c13)
  | gi_in)
 have oB2:Old w1 w3:=.nx x2;refine⟨hOw.trans oB2,rfl,.inr ⟨rfl,?_⟩⟩;clear k19;have hwl:=yb0 (d:=d) (holder:=h) (a:=a) (b:=b);rcases hgf:yaf d p with ⟨⟨gx,gy⟩,gf⟩
 rcases hwf:zfr d h a b with ⟨ws,wn,wg⟩
 rcases hbf:yac d h a b q with ⟨n,f⟩
 rw [hwf] at hwl;dsimp only at hwl;have KO:=jqr (fun u (o:Old w1 u)=>show CallsIn (FG 18) 0 Tryd.prog 47 #[d.val r,num p] u fun e w'=>e=Ending.returned (.tuple #[.agg #[num gx,num gy],num gf])∧Nx u w' by
  have:=toFG 18 (m:=0) (yb6 d r p u (HD.out.old (hOw.trans o)) hs (HG.out.old (hOw.trans o)));rw [hgf] at this;exact this)
 have KP:=jqr (fun u (o:Old w1 u)=>show CallsIn (FG 18) 0 Tryd.prog 52 #[d.val r,num p] u fun e w'=>e=Ending.returned (.tuple #[.agg #[num gx,num gy],num gf])∧Nx u w' by
  have:=toFG 18 (m:=0) (yby d r p u (HD.out.old (hOw.trans o)) hs);rw [hgf] at this;exact this)
 have KW:=jqr (fun u (o:Old w1 u)=>show CallsIn (FG 18) 0 Tryd.prog 49 #[d.val r,num h,num a,num b] u fun e w'=>∃ v,e=Ending.returned (.tuple #[v,num wn,num wg])∧Nx u w'∧Sl w' v 1 (ws.map fun x=>[num x]) by
  have:=toFG 18 (m:=0) (ycr d r h a b u (HD.out.old (hOw.trans o)) hs (HG.out.old (hOw.trans o)));rw [hwf] at this;exact this)
 have KX:=jqr (fun u (o:Old w1 u)=>show CallsIn (FG 18) 0 Tryd.prog 53 #[d.val r,num h,num a,num b] u fun e w'=>∃ v,e=Ending.returned (.tuple #[v,num wn,num wg])∧Nx u w'∧Sl w' v 1 (ws.map fun x=>[num x]) by
  have:=toFG 18 (m:=0) (ybm d r h a b u (HD.out.old (hOw.trans o)) hs (fun hc=>(yag hc).1));rw [hwf] at this;exact this)
 have KB:=jqr (fun u (o:Old w1 u)=>show CallsIn (FG 18) 0 Tryd.prog 50 #[d.val r,num h,num a,num b,num q] u fun e w'=>e=Ending.returned (.tuple #[num n,num f])∧Nx u w' by
  have:=toFG 18 (m:=0) (yb7 d r h a b q u (HD.out.old (hOw.trans o)) hs (HG.out.old (hOw.trans o)) (fun hc=>yag hc));rw [hbf] at this;exact this)
 have KC:=jqr (fun u (o:Old w1 u)=>show CallsIn (FG 18) 0 Tryd.prog 54 #[d.val r,num h,num a,num b,num q] u fun e w'=>e=Ending.returned (.tuple #[num n,num f])∧Nx u w' by
  have:=toFG 18 (m:=0) (ybh d r h a b q u (HD.out.old (hOw.trans o)) hs (fun hc=>yag hc));rw [hbf] at this;exact this)
 clear hgf hwf hbf hs;intro τ3;generalize hq3:({ w3 with tape:=τ3 }:World)=u3;have oA3:Old w1 u3:=oB2.trans (by rw [← hq3];exact .same rfl);clear hq3;simp only [pt3,yax,ycn,ycm,ycl,yck,ycj,yci,ych,ycg,yb3,yae,seqL,seqR,Tryd.f18];have kk:=KO.out u3 oA3;obtain⟨c0,c1,c2,c3,c4,c5,c6,c7,c8,c9,c10,c11,c12,c13⟩:=zaS (CO.out u3 oA3)
 gi_wp2_with (first
  | (gi_at_call 47;refine jqw kk ?_;rintro e v3 ⟨rfl,x3⟩)
  | gi_in)
 clear kk c0 c1 c2 c3 c4 c5 c6 c7 c8 c9 c10 c11 c12 c13;have oB3:Old w1 v3:=oA3.trans (.nx x3);obtain⟨pO3,pB3⟩:=ydf v3 gx gy;generalize hP3:v3.alloc (.cells #[.int .i64 gx,.int .i64 gy] 28)=z3 at *;have oC3:Old w1 z3:=oB3.trans pO3;clear hP3;intro τ4;generalize hq4:({ z3 with tape:=τ4 }:World)=u4;have oA4:Old w1 u4:=oC3.trans (by rw [← hq4];exact .same rfl);have oA4' : Old z3 u4:=by rw [← hq4];exact .same rfl
 clear hq4;simp only [pt4,yax,ycn,ycm,ycl,yck,ycj,yci,ych,ycg,yb3,yae,seqL,seqR,Tryd.f18];have kk:=KP.out u4 oA4;obtain⟨c0,c1,c2,c3,c4,c5,c6,c7,c8,c9,c10,c11,c12,c13⟩:=zaS (CO.out u4 oA4)
 gi_wp2_with (first
  | (gi_at_call 52;refine jqw kk ?_;rintro e v4 ⟨rfl,x4⟩)
  | gi_in)
 clear kk c0 c1 c2 c3 c4 c5 c6 c7 c8 c9 c10 c11 c12 c13;have oB4:Old w1 v4:=oA4.trans (.nx x4);obtain⟨pO4,pB4⟩:=ydf v4 gx gy;generalize hP4:v4.alloc (.cells #[.int .i64 gx,.int .i64 gy] 28)=z4 at *;have oC4:Old w1 z4:=oB4.trans pO4;clear hP4;intro τ5;generalize hq5:({ z4 with tape:=τ5 }:World)=u5;have oA5:Old w1 u5:=oC4.trans (by rw [← hq5];exact .same rfl);have hq5':=hq5;clear hq5;have oz45:Old z4 u5:=by rw [← hq5'];exact .same rfl
 obtain⟨g1,g2⟩:=yc2 pB3 ((oA4'.trans (.nx x4)).trans (pO4.trans oz45));obtain⟨g3,g4⟩:=yc2 pB4 oz45;simp only [pt5,yax,ycn,ycm,ycl,yck,ycj,yci,ych,ycg,yb3,yae,seqL,seqR,Tryd.f18];gi_wp2;clear g1 g2 g3 g4;intro τ7;generalize hq7:({ u5 with tape:=τ7 }:World)=u7;have oA7:Old w1 u7:=oA5.trans (by rw [← hq7];exact .same rfl);clear hq7;simp only [pt7,yax,ycn,ycm,ycl,yck,ycj,yci,ych,ycg,yb3,yae,seqL,seqR,Tryd.f18];have kk:=KW.out u7 oA7;obtain⟨c0,c1,c2,c3,c4,c5,c6,c7,c8,c9,c10,c11,c12,c13⟩:=zaS (CO.out u7 oA7)
 gi_wp2_with (first
  | (gi_at_call 49;refine jqw kk ?_;rintro e v7 ⟨uw,rfl,x7,hu7⟩)
  | gi_in)
 clear kk c0 c1 c2 c3 c4 c5 c6 c7 c8 c9 c10 c11 c12 c13;have oB7:Old w1 v7:=oA7.trans (.nx x7);have HU7:=jqr hu7;clear hu7;intro τ8;generalize hq8:({ v7 with tape:=τ8 }:World)=u8;have oA8:Old w1 u8:=oB7.trans (by rw [← hq8];exact .same rfl);have hq8':=hq8;clear hq8;have oz78:Old v7 u8:=by rw [← hq8'];exact .same rfl
 simp only [pt8,yax,ycn,ycm,ycl,yck,ycj,yci,ych,ycg,yb3,yae,seqL,seqR,Tryd.f18];have kk:=KX.out u8 oA8;obtain⟨c0,c1,c2,c3,c4,c5,c6,c7,c8,c9,c10,c11,c12,c13⟩:=zaS (CO.out u8 oA8)
 gi_wp2_with (first
  | (gi_at_call 53;refine jqw kk ?_;rintro e v8 ⟨ux,rfl,x8,hu8⟩)
  | gi_in)
 clear kk c0 c1 c2 c3 c4 c5 c6 c7 c8 c9 c10 c11 c12 c13;have oB8:Old w1 v8:=oA8.trans (.nx x8);have oz8:Old v7 v8:=oz78.trans (.nx x8);have HU8:=jqr hu8;clear hu8;intro τ9;generalize hq9:({ v8 with tape:=τ9 }:World)=u9;have oA9:Old w1 u9:=oB8.trans (by rw [← hq9];exact .same rfl);have hq9':=hq9;clear hq9;have oz89:Old v8 u9:=by rw [← hq9'];exact .same rfl
 have kk:=toFG 18 (m:=0) (znu uw ux ws ws u9 (HU7.out.old (oz8.trans oz89)) (HU8.out.old oz89) (by omega) (by omega));rw [decide_eq_true rfl] at kk;simp only [pt9,yax,ycn,ycm,ycl,yck,ycj,yci,ych,ycg,yb3,yae,seqL,seqR,Tryd.f18]
 gi_wp2_with (first
  | (gi_at_call 32;refine jqw kk ?_;rintro e v9 ⟨rfl,x9⟩)
  | gi_in)
 clear kk;have oB9:Old w1 v9:=oA9.trans (.nx x9);intro τ11;generalize hq11:({ v9 with tape:=τ11 }:World)=u11;have oA11:Old w1 u11:=oB9.trans (by rw [← hq11];exact .same rfl);clear hq11;simp only [ydk,yax,ycn,ycm,ycl,yck,ycj,yci,ych,ycg,yb3,yae,seqL,seqR,Tryd.f18];have kk:=KB.out u11 oA11;obtain⟨c0,c1,c2,c3,c4,c5,c6,c7,c8,c9,c10,c11,c12,c13⟩:=zaS (CO.out u11 oA11)
 gi_wp2_with (first
  | (gi_at_call 50;refine jqw kk ?_;rintro e v11 ⟨rfl,x11⟩)
  | gi_in)
 clear kk c0 c1 c2 c3 c4 c5 c6 c7 c8 c9 c10 c11 c12 c13;have oB11:Old w1 v11:=oA11.trans (.nx x11);intro τ12;generalize hq12:({ v11 with tape:=τ12 }:World)=u12;have oA12:Old w1 u12:=oB11.trans (by rw [← hq12];exact .same rfl);clear hq12;simp only [ydl,yax,ycn,ycm,ycl,yck,ycj,yci,ych,ycg,yb3,yae,seqL,seqR,Tryd.f18];have kk:=KC.out u12 oA12;obtain⟨c0,c1,c2,c3,c4,c5,c6,c7,c8,c9,c10,c11,c12,c13⟩:=zaS (CO.out u12 oA12)
 gi_wp2_with (first
  | (gi_at_call 54;refine jqw kk ?_;rintro e v12 ⟨rfl,x12⟩)
  | gi_in)
 clear kk c0 c1 c2 c3 c4 c5 c6 c7 c8 c9 c10 c11 c12 c13;have oB12:Old w1 v12:=oA12.trans (.nx x12);exact (show yc3 W _ _ from ⟨hOw.trans oB12,n,f,rfl,rfl,rfl,rfl,rfl⟩)
end Go.Proofs.YtolholkjeehamaaDoor

namespace Go.Proofs.YtolholkjeehamaaDoor
open Go.RowKit Go.Con Go.Conc
local instance pnI2:Lone:=zcG
theorem ybb (v:Value) (t:Array Value) (h:t[12]?=some v) (σ:Rn):ResultsC Tryd.prog Tryd.f18 (t.map (ren σ)) (ren σ v):=by
 have:=resultsC_tmp (P:=Tryd.prog) (fn:=Tryd.f18) (t:=12) rfl (t.map (ren σ));simp only [Array.getD_eq_getD_getElem?,Array.getElem?_map,h,Option.map_some,Option.getD_some] at this;exact this
theorem yc1 (E Fz Arg:Nat→Prop) (W0:World) (hArg:∀ x,Arg x↔x<W0.heap.size) (Post:Value→World→Prop) (φ:Ph) (d:Dit) (r:zaR) (p h a b q:Int) (W:World) (hd:DitSl W d r) (hb:d.Big) (hg:Glob W)
  (hPost:∀ Fz1 ρ D own A fr W1 W',Here Tryd.prog true E Fz1 Arg W0 ρ D own A fr [] W1 W'→Post (ren ρ (.bool true)) W') :
  GoM Tryd.prog true E Fz Arg W0 (AtEnd Tryd.prog Post) φ [] (Fr 18 #[d.val r,num p,num h,num a,num b,num q,zu,zu,zu,zu,zu,zu,zu,zu,zu,zu,zu,zu,zu,zu,zu,zu,zu,zu,zu,zu,zu,zu,zu,zu,zu,zu,zu,zu,zu,zu,zu,zu,zu,zu,zu,zu,zu,zu,zu,zu,zu,zu,zu,zu,zu,zu,zu,zu,zu,zu,zu,zu,zu,zu,zu,zu,zu,zu,zu,zu,zu,zu,zu,zu,zu,zu,zu,zu,zu,zu,zu,zu,zu,zu,zu,zu,zu,zu,zu,zu,zu,zu,zu,zu,zu,zu,zu,zu,zu,zu,zu,zu,zu,zu,zu,zu,zu,zu,zu,zu,zu,zu] [.code yae]) [] W:=by
 have hgood:zaL Tryd.prog (.func 18)=false:=by kernel_rfl
 have hL:=yb1 d r p h a b q W hd hb hg;rw [yco];refine jqz ?_;refine jxc (F:=FG 18) _ rfl rfl rfl (jxa ..) (zdr 18 hgood) (by kernel_rfl) (by kernel_rfl) hL ?_;clear hL;intro t0 V0 hL;refine jqz (jqz ?_);refine jxc (F:=FG 18) _ rfl rfl rfl (jxa ..) (zdr 18 hgood) (by kernel_rfl) (by kernel_rfl) hL ?_;clear hL;rintro t W1 ⟨hO1,hs,h25 | ⟨h25,hL⟩⟩
 ·refine Gm.cond (b:=true) (zaf h25) rfl ?_
  refine jqz ?_;rw [yde];refine Gm.region ?_;rw [show List.range oppt2.size=[0,1] by kernel_rfl];refine Gm.enter (o:=⟨some 26,.call { callee:=.value (.func 20),args:=#[],argTypes:=#[] },_,_,_,none⟩) (c:={ callee:=.value (.func 20),args:=#[],argTypes:=#[] }) rfl rfl rfl rfl (by kernel_rfl) Tryd.func20 ziv (by kernel_rfl) ?_;rw [fr20];refine zka E _ Arg W0 hArg _ _ _ _ _ (hg.old hO1) ?_;intro WL FzL φL hOL;rw [zbs (o:=⟨some 26,.call { callee:=.value (.func 20),args:=#[],argTypes:=#[] },_,_,_,none⟩) rfl];refine Gm.op (o:=⟨some 12,.assign (.tmp 26),_,_,_,none⟩) (.bool true) WL rfl rfl (by kernel_rfl) rfl (zl7 _ (zaf (by simp only [zaC,zay,zax,hs,ne_eq,jqx,not_false_eq_true,jqy]))) id ?_;refine Gm.regionEnd ?_;refine Gm.done Tryd.func18 (by kernel_rfl) (ybb (.bool true) _ (by simp only [zaC,zay,zax,hs,ne_eq,jqx,not_false_eq_true,jqy])) ?_;exact fun ρ D own A fr W' h=>hPost _ ρ D own A fr _ W' h
 ·refine Gm.cond (b:=false) (zaf h25) rfl ?_
  refine Gm.skip ?_;refine jqz ?_;refine jxc (F:=FG 18) _ rfl rfl rfl (jxa ..) (zdr 18 hgood) (by kernel_rfl) (by kernel_rfl) hL ?_;clear hL;intro t3 V3 hL;refine jqz ?_;refine jxc (F:=FG 18) _ rfl rfl rfl (jxa ..) (zdr 18 hgood) (by kernel_rfl) (by kernel_rfl) hL ?_;clear hL;intro t4 V4 hL;refine jqz ?_;refine jxc (F:=FG 18) _ rfl rfl rfl (jxa ..) (zdr 18 hgood) (by kernel_rfl) (by kernel_rfl) hL ?_;clear hL;intro t5 V5 hL;refine jqz ?_;refine jxc (F:=FG 18) _ rfl rfl rfl (jxa ..) (zdr 18 hgood) (by kernel_rfl) (by kernel_rfl) hL ?_;clear hL;intro t7 V7 hL;refine jqz ?_;refine jxc (F:=FG 18) _ rfl rfl rfl (jxa ..) (zdr 18 hgood) (by kernel_rfl) (by kernel_rfl) hL ?_;clear hL;intro t8 V8 hL;refine jqz ?_;refine jxc (F:=FG 18) _ rfl rfl rfl (jxa ..) (zdr 18 hgood) (by kernel_rfl) (by kernel_rfl) hL ?_;clear hL;intro t9 V9 hL;refine jqz ?_;refine jxc (F:=FG 18) _ rfl rfl rfl (jxa ..) (zdr 18 hgood) (by kernel_rfl) (by kernel_rfl) hL ?_;clear hL;intro t11 V11 hL;refine jqz ?_;refine jxc (F:=FG 18) _ rfl rfl rfl (jxa ..) (zdr 18 hgood) (by kernel_rfl) (by kernel_rfl) hL ?_;clear hL;clear hO1 hs h25;rintro t W2 ⟨hO2,n,f,hs,k21,k22,k14,k16⟩;refine jqz ?_;rw [yc7];refine Gm.region ?_;rw [show List.range oppt13.size=[0,1,2,3,4,5,6,7,8,9,10,11] by kernel_rfl];refine Gm.op (o:=⟨some 97,.move (.tmp 21),_,_,_,none⟩) (num n) W2 rfl rfl (by kernel_rfl) rfl (zdB _ (zaf (by simp only [zaC,zay,zax,hs,k21,k22,k14,k16,ne_eq,jqx,not_false_eq_true,jqy]))) id ?_
  refine Gm.op (o:=⟨some 98,.move (.tmp 22),_,_,_,none⟩) (num n) W2 rfl rfl (by kernel_rfl) rfl (zdB _ (zaf (by simp only [zaC,zay,zax,hs,k21,k22,k14,k16,ne_eq,jqx,not_false_eq_true,jqy]))) id ?_;refine Gm.op (o:=⟨some 99,.binOp .eql 3 (.tmp 97) (.tmp 98) 3,_,_,_,none⟩) (.bool true) W2 rfl rfl (by kernel_rfl) rfl (zo4 (n:=n) _ (zaf (by simp only [zaC,zay,zax,hs,k21,k22,k14,k16,ne_eq,jqx,not_false_eq_true,jqy])) (zaf (by simp only [zaC,zay,zax,hs,k21,k22,k14,k16,ne_eq,jqx,not_false_eq_true,jqy]))) id ?_;refine Gm.op (o:=⟨some 100,.move (.tmp 99),_,_,_,none⟩) (.bool true) W2 rfl rfl (by kernel_rfl) rfl (zdB _ (zaf (by simp only [zaC,zay,zax,hs,k21,k22,k14,k16,ne_eq,jqx,not_false_eq_true,jqy]))) id ?_;refine Gm.op (o:=⟨some 101,.move (.tmp 14),_,_,_,some (3,true)⟩) (num f) W2 rfl (zbI (i:=3) (b:=true) (d:=100) rfl rfl (by simp only [zaC,zay,zax,hs,k21,k22,k14,k16,ne_eq,jqx,not_false_eq_true,jqy])) (by kernel_rfl) rfl (zdB _ (zaf (by simp only [zaC,zay,zax,hs,k21,k22,k14,k16,ne_eq,jqx,not_false_eq_true,jqy]))) id ?_;refine Gm.op (o:=⟨some 102,.move (.tmp 16),_,_,_,some (3,true)⟩) (num f) W2 rfl (zbI (i:=3) (b:=true) (d:=100) rfl rfl (by simp only [zaC,zay,zax,hs,k21,k22,k14,k16,ne_eq,jqx,not_false_eq_true,jqy])) (by kernel_rfl) rfl (zdB _ (zaf (by simp only [zaC,zay,zax,hs,k21,k22,k14,k16,ne_eq,jqx,not_false_eq_true,jqy]))) id ?_;refine Gm.op (o:=⟨some 103,.binOp .eql 37 (.tmp 101) (.tmp 102) 37,_,_,_,some (3,true)⟩) (.bool true) W2 rfl (zbI (i:=3) (b:=true) (d:=100) rfl rfl (by simp only [zaC,zay,zax,hs,k21,k22,k14,k16,ne_eq,jqx,not_false_eq_true,jqy])) (by kernel_rfl) rfl (znX (n:=f) _ (zaf (by simp only [zaC,zay,zax,hs,k21,k22,k14,k16,ne_eq,jqx,not_false_eq_true,jqy])) (zaf (by simp only [zaC,zay,zax,hs,k21,k22,k14,k16,ne_eq,jqx,not_false_eq_true,jqy]))) id ?_
  refine Gm.op (o:=⟨some 104,.pick (.tmp 100) (.tmp 103) (.const (.bool false)),_,_,_,none⟩) (.bool true) W2 rfl rfl (by kernel_rfl) rfl (zhJ _ (zaf (by simp only [zaC,zay,zax,hs,k21,k22,k14,k16,ne_eq,jqx,not_false_eq_true,jqy])) (zaf (by simp only [zaC,zay,zax,hs,k21,k22,k14,k16,ne_eq,jqx,not_false_eq_true,jqy]))) id ?_;refine Gm.op (o:=⟨some 105,.move (.tmp 104),_,_,_,none⟩) (.bool true) W2 rfl rfl (by kernel_rfl) rfl (zdB _ (zaf (by simp only [zaC,zay,zax,hs,k21,k22,k14,k16,ne_eq,jqx,not_false_eq_true,jqy]))) id ?_;refine Gm.enter (o:=⟨some 106,.call { callee:=.value (.func 20),args:=#[],argTypes:=#[] },_,_,_,some (8,true)⟩) (c:={ callee:=.value (.func 20),args:=#[],argTypes:=#[] }) rfl (zbI (i:=8) (b:=true) (d:=105) rfl rfl (by simp only [zaC,zay,zax,hs,k21,k22,k14,k16,ne_eq,jqx,not_false_eq_true,jqy])) rfl rfl (by kernel_rfl) Tryd.func20 ziv (by kernel_rfl) ?_;rw [fr20];refine zka E _ Arg W0 hArg _ _ _ _ _ (hg.old hO2) ?_;intro WL FzL φL hOL;rw [zbs (o:=⟨some 106,.call { callee:=.value (.func 20),args:=#[],argTypes:=#[] },_,_,_,some (8,true)⟩) rfl];refine Gm.op (o:=⟨some 107,.pick (.tmp 105) (.tmp 106) (.const (.bool false)),_,_,_,none⟩) (.bool true) WL rfl rfl (by kernel_rfl) rfl (zhJ _ (zaf (by simp only [zaC,zay,zax,hs,k21,k22,k14,k16,ne_eq,jqx,not_false_eq_true,jqy])) (zaf (by simp only [zaC,zay,zax,hs,k21,k22,k14,k16,ne_eq,jqx,not_false_eq_true,jqy]))) id ?_;refine Gm.op (o:=⟨some 12,.assign (.tmp 107),_,_,_,none⟩) (.bool true) WL rfl rfl (by kernel_rfl) rfl (zl7 _ (zaf (by simp only [zaC,zay,zax,hs,k21,k22,k14,k16,ne_eq,jqx,not_false_eq_true,jqy]))) id ?_
  refine Gm.regionEnd ?_;refine Gm.done Tryd.func18 (by kernel_rfl) (ybb (.bool true) _ (by simp only [zaC,zay,zax,hs,k21,k22,k14,k16,ne_eq,jqx,not_false_eq_true,jqy])) ?_;exact fun ρ D own A fr W' h=>hPost _ ρ D own A fr _ W' h
end Go.Proofs.YtolholkjeehamaaDoor

namespace Go.Proofs.YtolholkjeehamaaDoor
open Go.RowKit Go.Con Go.Conc Go.ChangeShapes Go.WideShapes Go.ChangeAt
local instance pnI3:Lone:=zcG
section
variable {H:Type} {enc:TypeId×Value→H} {P:Program} {w:World} {base:Nat} {spare:Nat→Bool} {held:Bool}
theorem ybn {t0 t1 t2 t3 t4 t5:TypeId} {args:Array Value} {ds:List (DataW H)} {ps:List MemPlace} (h:DataW.TrodAll enc P w base spare held [t0,t1,t2,t3,t4,t5] args.toList ds ps) :
  ∃ v0 v1 v2 v3 v4 v5 d0 d1 d2 d3 d4 d5 p0 p1 p2 p3 p4 p5,args=#[v0,v1,v2,v3,v4,v5]∧ds=[d0,d1,d2,d3,d4,d5]∧ps=p0++p1++p2++p3++p4++p5∧DataW.Trod enc P w base spare held t0 v0 d0 p0∧DataW.Trod enc P w base spare held t1 v1 d1 p1∧DataW.Trod enc P w base spare held t2 v2 d2 p2∧DataW.Trod enc P w base spare held t3 v3 d3 p3∧DataW.Trod enc P w base spare held t4 v4 d4 p4∧DataW.Trod enc P w base spare held t5 v5 d5 p5:=by
 obtain⟨v0,vs0,d0,ds0,p0,q0,hargs,rfl,rfl,hd0,hr0⟩:=trodAll_cons h;obtain⟨v1,vs1,d1,ds1,p1,q1,rfl,rfl,rfl,hd1,hr1⟩:=trodAll_cons hr0;obtain⟨v2,vs2,d2,ds2,p2,q2,rfl,rfl,rfl,hd2,hr2⟩:=trodAll_cons hr1;obtain⟨v3,vs3,d3,ds3,p3,q3,rfl,rfl,rfl,hd3,hr3⟩:=trodAll_cons hr2;obtain⟨v4,vs4,d4,ds4,p4,q4,rfl,rfl,rfl,hd4,hr4⟩:=trodAll_cons hr3;obtain⟨v5,vs5,d5,ds5,p5,q5,rfl,rfl,rfl,hd5,hr5⟩:=trodAll_cons hr4;obtain⟨rfl,rfl,rfl⟩:=trodAll_nil hr5;exact⟨v0,v1,v2,v3,v4,v5,d0,d1,d2,d3,d4,d5,p0,p1,p2,p3,p4,p5,by cases args;simp_all,rfl,by simp,hd0,hd1,hd2,hd3,hd4,hd5⟩
theorem ybo {t t1 t2 t3 t4:TypeId} {v v1 v2 v3 v4:Value} {d d1 d2 d3 d4:DataW H} {p p1 p2 p3 p4:List MemPlace} (h:DataW.Trod enc P w base spare held t v d p) (h1:DataW.Trod enc P w base spare held t1 v1 d1 p1)
  (h2:DataW.Trod enc P w base spare held t2 v2 d2 p2) (h3:DataW.Trod enc P w base spare held t3 v3 d3 p3) (h4:DataW.Trod enc P w base spare held t4 v4 d4 p4):DataW.TrodAll enc P w base spare held [t,t1,t2,t3,t4] [v,v1,v2,v3,v4] [d,d1,d2,d3,d4] (p++(p1++(p2++(p3++p4)))):=⟨p,p1++(p2++(p3++p4)),h,trodAll_mk4 h1 h2 h3 h4,rfl⟩
theorem ybp {t0 t1 t2 t3 t4 t5:TypeId} {v0 v1 v2 v3 v4 v5:Value} {d0 d1 d2 d3 d4 d5:DataW H} {p0 p1 p2 p3 p4 p5:List MemPlace} (h0:DataW.Trod enc P w base spare held t0 v0 d0 p0) (h1:DataW.Trod enc P w base spare held t1 v1 d1 p1) (h2:DataW.Trod enc P w base spare held t2 v2 d2 p2) (h3:DataW.Trod enc P w base spare held t3 v3 d3 p3) (h4:DataW.Trod enc P w base spare held t4 v4 d4 p4) (h5:DataW.Trod enc P w base spare held t5 v5 d5 p5):DataW.TrodAll enc P w base spare held [t0,t1,t2,t3,t4,t5] [v0,v1,v2,v3,v4,v5] [d0,d1,d2,d3,d4,d5] (p0++(p1++(p2++(p3++(p4++(p5)))))):=⟨p0,p1++(p2++(p3++(p4++(p5)))),h0,ybo h1 h2 h3 h4 h5,rfl⟩
end
theorem ydo (a0 a1 a2 a3 a4 a5:Value):#[a0,a1,a2,a3,a4,a5]++Array.replicate (Tryd.f18.ntmps-(#[a0,a1,a2,a3,a4,a5]:Array Value).size) zu=#[a0,a1,a2,a3,a4,a5,zu,zu,zu,zu,zu,zu,zu,zu,zu,zu,zu,zu,zu,zu,zu,zu,zu,zu,zu,zu,zu,zu,zu,zu,zu,zu,zu,zu,zu,zu,zu,zu,zu,zu,zu,zu,zu,zu,zu,zu,zu,zu,zu,zu,zu,zu,zu,zu,zu,zu,zu,zu,zu,zu,zu,zu,zu,zu,zu,zu,zu,zu,zu,zu,zu,zu,zu,zu,zu,zu,zu,zu,zu,zu,zu,zu,zu,zu,zu,zu,zu,zu,zu,zu,zu,zu,zu,zu,zu,zu,zu,zu,zu,zu,zu,zu,zu,zu,zu,zu,zu,zu]:=by
 simp only [Tryd.ntmps18,List.size_toArray,List.length_cons,List.length_nil,Nat.reduceAdd,Nat.reduceSub,Array.replicate_succ,Array.replicate_zero,List.push_toArray,List.append_toArray,List.nil_append,List.cons_append]
theorem ycs (d:Dit) (r:zaR) (x1:Int) (x2:Int) (x3:Int) (x4:Int) (x5:Int) (W:World) (hd:DitSl W d r) (hb:d.Big) (hg:Glob W)  :
  Con.Fin Tryd.prog (fun u W'=>u=.bool true∧Con.Left W W') (solo (G (Frame.enter Tryd.prog 18 #[d.val r,.int .i64 x1,.int .i64 x2,.int .i64 x3,.int .i64 x4,.int .i64 x5] .normal) []) W) #[]:=by
 refine zpy Tryd.func18 ycp hg (fun v hv=>?_) fun c Post hPost=>?_
 ·simp only [List.mem_cons,List.not_mem_nil,or_false] at hv
  rcases hv with rfl | rfl | rfl | rfl | rfl | rfl
  ·exact hd.same
  ·exact⟨fun c=>by simp [ren],by simp [ren]⟩
  ·exact⟨fun c=>by simp [ren],by simp [ren]⟩
  ·exact⟨fun c=>by simp [ren],by simp [ren]⟩
  ·exact⟨fun c=>by simp [ren],by simp [ren]⟩
  ·exact⟨fun c=>by simp [ren],by simp [ren]⟩
 ·rw [ydo]
  exact yc1 _ _ _ _ (fun _=>Iff.rfl) Post _ d r x1 x2 x3 x4 x5 _ hd.entry hb hg.entry hPost
theorem ybc (os:Os) (started:os.Started) (H:Type) (enc:TypeId×Value→H) :
  ReturnsInLeavingWide {} Tryd.checked os 18 .any (fun w args=>(Rows.turnPlotsSpec.pre enc Tryd.prog Tryd.f18 [] false w args∧laidMetH Tryd.prog zmo w)∧sizedMet enc Tryd.prog Tryd.f18 (OpenSpec.ofChange Rows.turnPlotsSpec) false w args)
   (Rows.turnPlotsSpec.post enc Tryd.prog Tryd.f18 false true false false):=by
 refine zdb (C:=Tryd.checked) (X:=fun w _=>laidMetH Tryd.prog zmo w) (fun _ _ _ hh h=>h.of_heap hh) zn6 started Tryd.func18
  (ChangeSpec.witness_shaped (enc:=enc) (C:=Tryd.checked) (os:=os) (X:=fun w _=>laidMetH Tryd.prog zmo w) false (World.doorLaid Tryd.prog 600 os)
   #[.agg #[.slice none 0 0,.slice none 0 0,.int .i64 0,.int .i64 0,.int .i64 0,.int .i64 0,.slice none 0 0,.slice none 0 0,.slice none 0 0,.int .i64 0,.int .i64 0,.int .i64 0,.int .i64 0,.slice none 0 0],.int .i64 0,.int .i64 0,.int .i64 0,.int .i64 0,.int .i64 0] 8 rfl (World.shaped_of_RefB (by kernel_rfl) (by kernel_rfl)) (by kernel_rfl) (by kernel_rfl) (by kernel_rfl) (znv os _)) ?_
 intro W base args ds gs before hval0 hW _ hsz hL;have hval:∀ (j:Nat) t v,Tryd.f18.params[j]?=some t→args[j]?=some v→Value.okWide Tryd.prog W .any base t v:=hval0;have hW':=hW;obtain⟨p,q,hA0,hV,rfl,hfz,hnd⟩:=hW;have hA:DataW.TrodAll enc Tryd.prog W 0 (fun _=>true) true Tryd.f18.params.toList args.toList ds p:=hA0;rw [Tryd.params18] at hA hval;obtain⟨v0,v1,v2,v3,v4,v5,d0,d1,d2,d3,d4,d5,p0,p1,p2,p3,p4,p5,rfl,rfl,rfl,h0,h1,h2,h3,h4,h5⟩:=ybn hA;obtain⟨rfl,rfl⟩:=trodVars_none hV;obtain⟨x1,rfl,rfl,rfl,w1⟩:=open_int Tryd.underlying3 (hval 1 3 v1 rfl rfl) h1;obtain⟨x2,rfl,rfl,rfl,w2⟩:=open_int Tryd.underlying3 (hval 2 3 v2 rfl rfl) h2;obtain⟨x3,rfl,rfl,rfl,w3⟩:=open_int Tryd.underlying3 (hval 3 3 v3 rfl rfl) h3;obtain⟨x4,rfl,rfl,rfl,w4⟩:=open_int Tryd.underlying3 (hval 4 3 v4 rfl rfl) h4;obtain⟨x5,rfl,rfl,rfl,w5⟩:=open_int Tryd.underlying3 (hval 5 3 v5 rfl rfl) h5;have hfit:Fits 31 d0:=fun n hn=>by
  have:=List.all_eq_true.1 hsz n (DataW.weights_mem_each (P:=Tryd.prog) (j:=0) (t:=31) (d:=d0) (by rw [show Tryd.checked.prog=Tryd.prog from rfl,Tryd.params18];rfl) rfl n hn)
  simpa using this
 obtain⟨d,r,rfl,hd,hb⟩:=znp (hval 0 31 v0 rfl rfl) h0 hfit;clear hA0 hval0
 try simp only [List.append_nil] at hW'
 have hlt:=fun x hx=>hW'.lt x hx
 try simp only [Array.size_empty,Nat.add_zero] at hlt
 refine zoq (ycs d r x1 x2 x3 x4 x5 W hd hb (zpA hL) ) fun W' hl=>?_;have ha:=ybp (zl8 (by kernel_rfl) (of_decide_eq_true (by kernel_rfl)) h0 hl fun x hx=>hlt x (by simp [hx])) (shut_int Tryd.underlying3 w1) (shut_int Tryd.underlying3 w2) (shut_int Tryd.underlying3 w3) (shut_int Tryd.underlying3 w4) (shut_int Tryd.underlying3 w5)
 try simp only [List.append_nil] at ha
 exact⟨[d0,.lit (.int .i64 x1),.lit (.int .i64 x2),.lit (.int .i64 x3),.lit (.int .i64 x4),.lit (.int .i64 x5)],[],_,[],_,[],hW',trodAll_mk1 (shut_bool Tryd.underlying4 _),ha,rfl,zl6 hl _,fun h=>by cases h⟩
theorem ybq:Rows.TurnPlotsSaid :=
 OpenClaim.holds_of_wide_leaving 18 Tryd.f18 rfl rfl rfl rfl rfl rfl rfl ⟨rfl,rfl,rfl,rfl,rfl⟩ rfl rfl rfl rfl rfl (by kernel_rfl) Tryd.func18 (by kernel_rfl)
  (of_decide_eq_true (by kernel_rfl)) (by unfold Func.isWrapper;first | (rw [if_pos (by decide +kernel)];kernel_rfl) | (rw [if_neg (by decide +kernel)];exact⟨rfl,rfl⟩))
  (fun os started H enc _=>ybc os started H enc)
theorem plots_card:Rows.TurnPlotsCardSaid :=
 zfY .later [] [.funcs,.data] true (true,"13bbfa5877394a3cde13138796d6bb679173f8167c87f9ccc98cd9f3e99a425f") false true
  ybq (fun _ h=>by cases h) (by kernel_rfl) (fun _ h=>by cases h) turnPlots_row_tie rfl ⟨rfl,rfl⟩ (by kernel_rfl) rfl
  (fun f fn hf hfn=>by
   obtain rfl:f=18:=Option.some.inj ((show Tryd.prog.funcNamed "crocus/crocuslaw02.TurnPlots" = some 18 by kernel_rfl).symm.trans hf) |>.symm
   obtain rfl:fn=Tryd.f18:=(Option.some.inj (Tryd.func18.symm.trans hfn)).symm;exact⟨by kernel_rfl,fun j t ht=>by
    rw [Tryd.params18] at ht;have hm:t∈[31,3,3,3,3,3]:=by simpa using Array.mem_of_getElem? ht
    have hall:([31,3,3,3,3,3].all fun u=>!Tryd.prog.wantsStandIn u)=true:=by kernel_rfl
    exact (show Tryd.prog.wantsStandIn t=false by simpa using List.all_eq_true.1 hall t hm)⟩)
  (by kernel_rfl)
#print axioms plots_card
end Go.Proofs.YtolholkjeehamaaDoor

