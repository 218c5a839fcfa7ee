import Derived.Test.YtolholkjeehamaaDoorF61
import Derived.Test.YtolholkjeehamaaDoorF40
import Derived.Test.YtolholkjeehamaaDoorF36
import Derived.Test.YtolholkjeehamaaDoorF38
import Derived.Test.YtolholkjeehamaaDoorF34
import Derived.Test.YtolholkjeehamaaDoorF09
import Derived.WalkKit
import Derived.Test.YtolholkjeehamaaDoorProg
import Derived.OwnWalkIn
import Derived.TacticsInMore
import Derived.RegionIn
import Derived.LoopNIn
import Derived.LoopIn
import Derived.RecoverIn
import Derived.Sort.BigQuietIn
import Derived.Sort.CutIn
import Derived.Handy
import Derived.Maps.OwnIn
import Derived.Maps.OwnSet
import Derived.Maps.RangeWalk
import Derived.Sort.MapsRangeIn
import Derived.Laws.IdiomStrings
import Derived.Lib.Hide
import Derived.Maps.AppendAt
import Derived.Lib.SliceRun
import Derived.RangeFuncNested
import Derived.RangeFuncBound
import Derived.RangeFuncCalls
import Derived.RangeFuncLeaves
import Derived.Shelf.Abstract
import Derived.Shelf.RegionOpen
import Derived.Stop.RegionWithIn
import Derived.Sort.QuietThIn
import Derived.StillTail
import Derived.Conc.SmallLaws
import Derived.Laws.MakeOwn
import Derived.Laws.EntriesVeiled
import Derived.Test.YtolholkjeehamaaDoorChecked
import Derived.ProofKit
import Derived.LaidMore
import Derived.OpenShut
import Derived.Stop.Joined
import Derived.Test.YtolholkjeehamaaDoorTie
import Derived.Test.YtolholkjeehamaaDoorCards
import Derived.Conc.LeavingOf
import Derived.SevenTiedAt
import Derived.Deep.Upon
set_option linter.all false
set_option maxRecDepth 100000
set_option maxHeartbeats 4000000
open Go renaming undef → zu
open Go.Lib renaming hid → jqr
open Go.CallsIn renaming mono → jqs
open Go.Act renaming put → jqt
open List renaming setIfInBounds_toArray → jqu, set_cons_succ → jqv, set_cons_zero → jqw, getElem?_eq_getElem → jqx, length_map → jqz, take_length → jxe, take_add_one → jxf, length_append → jxi, getElem_mem → jxj, getElem?_eq_some_iff → jxk, length_cons → jxl, cons_append → jxn, getElem?_append_left → jxp, getElem?_append_right → jxq, append_assoc → jxr
open Go.RowKit.Below renaming refl → jqy
open Nat renaming zero_le → jxa, le_refl → jxc, le_succ → jxd, le_trans → jxm
open Go.World renaming cell? → jxb, grownBy_alloc → jxs
open Int renaming eq_ofNat_of_zero_le → jxg
open Array renaming getElem?_eq_some_iff → jxh
open Option renaming bind_some → jxo
namespace Go.Proofs.YtolholkjeehamaaDoor
theorem jtk {F:Fence} {n:Nat} {P:Program} {md:Region.Mode} {ops:Array Oper} {C:World→Prop} {Q:Exit→Act→World→Prop} {i:Nat} {oi:Oper} {v:Value} {fuel:Nat} {listed:Array Bool} {a:Act} {w:World} (hi:ops[i]?=some oi) (hy:YieldsC F n P ops C oi v a) (h:wpAnyC F n P md ops C Q fuel (listed.setIfInBounds i true) (a.put oi.dst v) w) (hp:ops.all (fun o=>match o.op with |.defer _=>false |_=>true)=true:=by kernel_rfl) (hs:Region.noSelect ops=true:=by kernel_rfl) (hf:Region.free md ops listed i=true:=by kernel_rfl) (hr:(Region.ready md ops listed).contains i=true:=by kernel_rfl) (hQ:∀ c a w,Q (.panic c) (a.put oi.dst v) w→Q (.panic c) a w:=by first |exact fun _ _ _ h=>h |exact fun _ _ _ h=>by cases h.1):wpAnyC F n P md ops C Q (fuel+1) listed a w:=zah (zaj hp) hi hs hf hr hQ hy h
end Go.Proofs.YtolholkjeehamaaDoor
namespace Go.Proofs.YtolholkjeehamaaDoor
open Go.RowKit Go.Con Go.Conc
local instance plI1:Lone:=zcG
section
variable {dst:Option Nat} {ty:TypeId} {pos:String} {af:Array Edge} {x y c:Nat} {w:World} {gd:Option (Nat×Bool)} (e:Operand→Value)
end
theorem zgU {d:Dit} {n:Nat} (h:zbG d n=false):d.Small:=by
 unfold zbG at h;simp only [Bool.or_eq_false_iff,decide_eq_false_iff_not] at h;obtain⟨⟨⟨⟨⟨⟨⟨h1,h2⟩,h3⟩,h4⟩,h5⟩,h6⟩,h7⟩,h8⟩:=h;have mem:∀ (l:List Nat) (x:Nat),x∈l→x≤sumL l:=by
  intro l
  induction l with
  | nil=>intro x hx;cases hx
  | cons y l ih =>
   intro x hx;simp only [sumL];rcases List.mem_cons.1 hx with rfl | hx
   ·omega
   ·have:=ih x hx;omega
 refine⟨by omega,by omega,by omega,by omega,by omega,by omega,fun s hs=>?_,fun p hp=>?_⟩
 ·have:=mem _ _ (List.mem_map.2 ⟨s,hs,rfl⟩:s.length∈d.holders.map (·.length))
  omega
 ·have:=mem _ _ (List.mem_map.2 ⟨p,hp,rfl⟩:p.name.length∈d.plots.map (·.name.length))
  omega
end Go.Proofs.YtolholkjeehamaaDoor

namespace Go.Proofs.YtolholkjeehamaaDoor
open Go.RowKit
theorem zlX (d:Dit) (r:zaR) (h:Int) (w:World) (ht:d.Times) (hh : -1000000000000≤h∧h≤1000000000000) :
  CallsIn FL 0 Tryd.prog 104 #[d.val r,num h] w fun e w'=>e=.returned (num (zb0 d.week d.from_ d.long h))∧Nx w w':=by
 obtain⟨W,hW,n0,hWs,cW⟩:=boxed w d r;have nWW:Nx W W:=jqy _ _;have c3:W.cell? ⟨w.heap.size,3,none⟩=some (num d.week):=cW _ nWW 3 _ rfl;have c4:W.cell? ⟨w.heap.size,4,none⟩=some (num d.from_):=cW _ nWW 4 _ rfl;have c5:W.cell? ⟨w.heap.size,5,none⟩=some (num d.long):=cW _ nWW 5 _ rfl;have hw:=ht.week;have hf:=ht.from_;have hl:=ht.long;clear cW ht;gi_enter Tryd.func104,Tryd.ntmps104;by_cases hz:d.week=0
 ·have HR:Hid (zb0 d.week d.from_ d.long h=0):=by show _=_;simp [zb0,hz]
  rw [hz] at c3;clear hz;gi_wp2;go_ret;exact⟨by rw [HR.out];rfl,n0⟩
 ·gi_upto_region 3 with fail
  gi_big_quiet_th (fail);have h1:=zdK (a:=h.tdiv d.week) (b:=d.long) (m:=1000000000000) (n:=1000) (jxm (zcg _ _) (by omega)) (by omega);have h2:=zeq h (b:=d.week) (by omega);have HA:=jqr (zcO (n:=h.tdiv d.week * d.long) (by omega));have HB:=jqr (zcO (n:=h.tmod d.week-d.from_) (by omega));have HZ:=jqr hz;have H1:=jqr h1;have H2:=jqr h2;clear h1 h2;gi_wp2
  all_goals (
   go_ret;refine⟨congrArg (fun x=>Ending.returned (num x)) ?_,Nx.drewN n0 _⟩;have h1:=H1.out;have h2:=H2.out;have hA:=HA.out;have hB:=HB.out;simp only [hB] at *;unfold zb0;rw [if_neg HZ.out,hA];rw [zcO (by first | omega | (split at *<;>omega))]
   first | omega | (split at *<;>omega))
end Go.Proofs.YtolholkjeehamaaDoor

namespace Go.Proofs.YtolholkjeehamaaDoor
open Go.RowKit
theorem zhC (a b:Int) (w:World):CallsIn FL 0 Tryd.prog 79 #[num a,num b] w fun e w'=>e=.returned (num (zbq a b))∧w'=w:=by
 have key:=fun n=>zby n 0 999999999 w;by_cases ha:0≤a∧a≤999999999
 ·by_cases hb:0≤b∧b≤999999999
  ·by_cases hab:b<a
   ·gi_enter Tryd.func79,Tryd.ntmps79
    gi_wp2_with (gi_at_call 71;refine jqs (key _) ?_;rintro e w1 ⟨rfl,rfl⟩)
    go_ret;exact⟨by simp [zbq,ha,hb,hab],rfl⟩
   ·gi_enter Tryd.func79,Tryd.ntmps79
    gi_wp2_with (gi_at_call 71;refine jqs (key _) ?_;rintro e w1 ⟨rfl,rfl⟩)
    go_ret;exact⟨by simp [zbq,ha,hb,hab],rfl⟩
  ·gi_enter Tryd.func79,Tryd.ntmps79
   gi_wp2_with (gi_at_call 71;refine jqs (key _) ?_;rintro e w1 ⟨rfl,rfl⟩)
   go_ret;exact⟨by simp [zbq,ha,hb],rfl⟩
 ·gi_enter Tryd.func79,Tryd.ntmps79
  gi_wp2_with (gi_at_call 71;refine jqs (key _) ?_;rintro e w1 ⟨rfl,rfl⟩)
  go_ret;exact⟨by simp [zbq,ha],rfl⟩
end Go.Proofs.YtolholkjeehamaaDoor

namespace Go.Proofs.YtolholkjeehamaaDoor
open Go.RowKit
theorem zjH (d:Dit) (r:zaR) (w:World) (hd:DitSl w d r) (hO:d.Ok):CallsIn FL 0 Tryd.prog 44 #[d.val r] w fun e w'=>e=.returned (num d.cyc)∧Nx w w':=by
 obtain⟨W,hW,n0,hWs,cW⟩:=boxed w d r;obtain⟨at',capt,et⟩:=hd.turns.cases;rw [jqz] at et;have hv:=hd.turns.nx n0;rw [et] at hv;have c1:∀ w1,Nx W w1→w1.cell? ⟨w.heap.size,1,none⟩=some (.slice at' d.turns.length capt):=fun w1 n1=>(cW _ n1 1 r.t rfl).trans (by rw [et]);have ht:=hO.t12;have hb:=jqr (fun k hk=>zd1 (fun x hx=>(hO.th x hx).2) k hk);clear cW et hO;gi_enter Tryd.func44,Tryd.ntmps44;gi_wp2
 gi_loopw [3,4] (fun n i wr=>∃ k:Nat,k≤d.turns.length∧i=num k∧n=num (sumTo d.turns k)∧Nx W wr) (fun _ i _=>d.turns.length-(intOf i).toNat)
 case atStart=>exact⟨0,jxa _,rfl,rfl,jqy _ _⟩
 case round =>
  obtain⟨k,hk,rfl,rfl,n2⟩:=hrel;have f1:=c1 _ n2;have f1' : wr.cell? ⟨w.heap.size,1,none⟩=some (.slice at' d.turns.length capt):=f1;by_cases hlt:k<d.turns.length
  ·obtain⟨b,off,ha,hbl,hcl⟩:=(hv.nx n2).get (by simp;omega)
   subst ha;have hx:d.turns[k]?=some d.turns[k]:=jqx hlt;have g1:=hcl k 1 (two d.turns[k]) (num d.turns[k].2) (by simp [hlt]) rfl;have hs:sumTo d.turns (k+1)=sumTo d.turns k+d.turns[k].2:=by simp [sumTo,hx]
   have hb1:=hb.out k hk;have hb2:=hb.out (k+1) hlt;rw [hs] at hb2;have HS:=jqr hs;generalize d.turns[k].2=x at g1 HS hb2;generalize sumTo d.turns k=z at HS hb1 hb2 ⊢;clear hcl hs hx hv;gi_wp2;exact⟨⟨k+1,hlt,by simp,by rw [HS.out],n2⟩,by simp [intOf];omega⟩
  ·obtain rfl:k=d.turns.length:=by omega
   clear hv;gi_wp2;go_ret;exact⟨rfl,Nx.trans n0 n2⟩
end Go.Proofs.YtolholkjeehamaaDoor

namespace Go.Proofs.YtolholkjeehamaaDoor
open Go.RowKit
section
variable {F:Fence} {n:Nat} {ops:Array Oper} {C:World→Prop} {a:Act} {dst:Option Nat} {ty:TypeId} {pos:String} {af:Array Edge}
theorem zks {s B:Nat} (h:a.eval (.tmp s)=.pointer (some ⟨B,0,none⟩)):YieldsC F n Tryd.prog ops C ⟨dst,.fieldAddr 31 (.tmp s) 2,ty,pos,af,none⟩ (.pointer (some ⟨B,2,none⟩)) a :=
 yC rfl (fun _=>rfl) fun x _=>by generalize a.eval=ρ at h ⊢;simp [execOp,go_sem,h]
theorem zkL {s i B o m cap j:Nat} (h:a.eval (.tmp s)=.slice (some ⟨B,o,none⟩) m cap) (hi:a.eval (.tmp i)=num j) (hj:j<m):YieldsC F n Tryd.prog ops C ⟨dst,.indexAddr 64 (.tmp s) (.tmp i),ty,pos,af,none⟩ (.pointer (some ⟨B,o+j,none⟩)) a :=
 yC rfl (fun _=>rfl) fun x _=>by generalize a.eval=ρ at h hi ⊢;simp [execOp,go_sem,h,hi,hj]
theorem zpI {s i:Nat} {x y:Int} (h:a.eval (.tmp s)=num x) (hi:a.eval (.tmp i)=num y) (hy:0<y) (hb : -9223372036854775808≤x.tdiv y∧x.tdiv y≤9223372036854775807):YieldsC F n Tryd.prog ops C ⟨dst,.binOp .quo 3 (.tmp s) (.tmp i) 3,ty,pos,af,none⟩ (num (x.tdiv y)) a :=
 yC rfl (fun _=>rfl) fun w _=>by
  have hy0:y≠0:=by omega
  generalize a.eval=ρ at h hi ⊢;simp [execOp,go_sem,h,hi,hy0];exact IntWalk.i64_in _ hb
theorem zpP {s i:Nat} {x y:Int} (h:a.eval (.tmp s)=num x) (hi:a.eval (.tmp i)=num y) (hy:0<y) (hb : -9223372036854775808≤x.tmod y∧x.tmod y≤9223372036854775807):YieldsC F n Tryd.prog ops C ⟨dst,.binOp .rem 3 (.tmp s) (.tmp i) 3,ty,pos,af,none⟩ (num (x.tmod y)) a :=
 yC rfl (fun _=>rfl) fun w _=>by
  have hy0:y≠0:=by omega
  generalize a.eval=ρ at h hi ⊢;simp [execOp,go_sem,h,hi,hy0]
theorem zc8 {s b:Nat} {d:Dit} {r:zaR} (h:a.eval (.tmp s)=.pointer (some ⟨b,0,none⟩)) (hc:∀ x,C x→∀ i v,(d.cellsA r)[i]?=some v→x.cell? ⟨b,i,none⟩=some v):YieldsC F n Tryd.prog ops C ⟨dst,.load 31 (.tmp s),ty,pos,af,none⟩ (d.val r) a :=
 yC rfl (fun _=>rfl) fun x hx=>by
  obtain⟨c0,c1,c2,c3,c4,c5,c6,c7,c8,c9,c10,c11,c12,c13⟩:=zaS (hc x hx);clear hc;generalize a.eval=ρ at h ⊢;simp [execOp,go_sem,h,c0,c1,c2,c3,c4,c5,c6,c7,c8,c9,c10,c11,c12,c13]
end
end Go.Proofs.YtolholkjeehamaaDoor

namespace Go.Proofs.YtolholkjeehamaaDoor
theorem Dit.Ok.oth_len {d:Dit} (hO:d.Ok) (c:Int):(d.oth c).length=d.turns.length:=by
 by_cases hc:c∈d.keys
 ·rw [hO.chg.len c hc]
 ·rw [zoI hc];simp [Dit.us]
end Go.Proofs.YtolholkjeehamaaDoor

namespace Go.Proofs.YtolholkjeehamaaDoor
open Go.RowKit
theorem zlN {w:World} {base n:Nat} {v:Value} {xs:List Value} (h:w.ownsRow base 3 1 v n xs):∀ g,v.ownBlock=some g→base≤g:=by
 intro g e;obtain⟨_,⟨rfl,_⟩ | ⟨g',cap,cur,rfl,hb,_⟩⟩:=h
 ·cases e
 ·simp only [Value.ownBlock,Option.some.injEq] at e;omega
theorem zgR {w:World} {base:Nat} {v:Value} {l:List Int} (h:w.ownsRow base 3 1 v l.length (l.map num)) (hl:0<l.length):∃ g cap,v=.slice (some ⟨g,0,none⟩) l.length cap∧base≤g:=by
 obtain⟨_,⟨_,h0⟩ | ⟨g',cap',cur',e,hb,_⟩⟩:=h
 ·omega
 ·exact⟨g',cap',e,hb⟩
theorem zeP {w:World} {base n g cap:Nat} {l:List Int} (h:w.ownsRow base 3 1 (.slice (some ⟨g,0,none⟩) n cap) l.length (l.map num)) {i:Nat} {x:Int} (hx:l[i]?=some x) :
  w.cell? ⟨g,i,none⟩=some (num x)∧w.frozen? ⟨g,i,none⟩=false:=by
 have hsl:=zb7 (w:=w) (base:=base) (v:=.slice (some ⟨g,0,none⟩) n cap) (l:=l) h;refine⟨?_,?_⟩
 ·obtain⟨cap',hn | ⟨b,off,e,hb,hcs⟩⟩:=hsl
  ·cases hn.2
  ·simp only [Value.slice.injEq,Option.some.injEq,Addr.mk.injEq] at e
   obtain⟨⟨rfl,rfl,_⟩,_⟩:=e;have:=hcs i 0 [num x] (num x) (by simp [hx]) rfl
   simpa using this
 ·obtain⟨_,⟨h1,_⟩ | ⟨g',cap',cur,h1,h2,h3,h4,h5,h6,h7⟩⟩:=h
  ·cases h1
  ·simp only [Value.slice.injEq,Option.some.injEq,Addr.mk.injEq] at h1
   obtain⟨⟨rfl,_⟩,_⟩:=h1;exact frozen_of_row _ _ _ _ _ h3
theorem zdY {w:World} {base n:Nat} {v:Value} {xs:List Value} (h:w.ownsRow base 3 1 v n xs) (o:Obj):(w.alloc o).ownsRow base 3 1 v n xs:=by
 refine h.kept (jxs w o none) ?_
 cases hob:v.ownBlock with
 | none=>exact .inl rfl
 | some b=>exact .inr (by simp)
theorem zgW (d:Dit) (r:zaR) (c:Int) (w:World) (hd:DitSl w d r) (hO:d.Ok) :
  CallsIn FL 0 Tryd.prog 102 #[d.val r,num c] w fun e w'=>∃ g cap,e=.returned (.slice (some ⟨g,0,none⟩) d.turns.length cap)∧Nx w w'∧Sl w' (.slice (some ⟨g,0,none⟩) d.turns.length cap) 1 ((d.oth c).map fun x=>[num x]):=by
 obtain⟨W,hW,n0,hWs,cW⟩:=boxed w d r;obtain⟨at',capt,et⟩:=hd.turns.cases;obtain⟨as',caps,es⟩:=hd.swaps.cases;obtain⟨al',capl,el⟩:=hd.loans.cases;rw [jqz] at et es el;have hvt:=hd.turns.nx n0;have hvs:=hd.swaps.nx n0;have hvl:=hd.loans.nx n0;rw [et] at hvt;rw [es] at hvs;rw [el] at hvl;have nWW:Nx W W:=jqy _ _;have c1:∀ x,Nx W x→x.cell? ⟨w.heap.size,1,none⟩=some (.slice at' d.turns.length capt):=fun x hx=>(cW x hx 1 r.t rfl).trans (by rw [et]);have c7:∀ x,Nx W x→x.cell? ⟨w.heap.size,7,none⟩=some (.slice as' d.swaps.length caps):=fun x hx=>(cW x hx 7 r.s rfl).trans (by rw [es]);have c8:∀ x,Nx W x→x.cell? ⟨w.heap.size,8,none⟩=some (.slice al' d.loans.length capl):=fun x hx=>(cW x hx 8 r.l rfl).trans (by rw [el]);have ht12:=hO.t12;have hs8:=hO.s8;have hl8:=hO.l8;have husl:d.us.length=d.turns.length:=by simp [Dit.us]
 have husl0:=husl;clear cW et es el hd;gi_enter Tryd.func102,Tryd.ntmps102;gi_wp2
 gi_loopw [5,6] (fun l i wr=>∃ k:Nat,k≤d.turns.length∧i=num k∧wr.ownsRow W.heap.size 3 1 l (d.us.take k).length ((d.us.take k).map num)∧Nx W wr) (fun _ i _=>d.turns.length-(intOf i).toNat)
 case atStart=>exact⟨0,jxa _,rfl,by simpa using World.ownsRow_nil W W.heap.size 3 1,nWW⟩
 case round =>
  obtain⟨k,hk,rfl,hown,n2⟩:=hrel;have f1:=c1 _ n2;by_cases hlt:k<d.turns.length
  ·obtain⟨b,off,ha,hbl,hcl⟩:=hvt.get (by simp;omega)
   subst ha;have hx:d.turns[k]?=some d.turns[k]:=jqx hlt;generalize d.turns[k]=x at hx;obtain⟨x1,x2⟩:=x;obtain⟨g1,g2⟩:=Sl.at2 hcl n2 hbl hx;have htk:d.us.take (k+1)=d.us.take k++[x1]:=by
    unfold Dit.us;rw [jxf,List.getElem?_map,hx];rfl
   have hownA:=zdY hown (.cells #[num x1] 3);have hnews:∀ (j:Nat) (x:Int),[x1][j]?=some x→(wr.alloc (.cells #[num x1] 3)).cell? ((⟨wr.heap.size,0,none⟩:Addr).add j)=some (num x):=by
    intro j x hj
    cases j with
    | zero=>simp at hj;subst hj;exact zaw wr _ _ _ _ rfl
    | succ j=>simp at hj
   have nA:Nx W (wr.alloc (.cells #[num x1] 3)):=n2.alloc (by exact n2.size) _;have hge:=zlN hown;have hsz:=n2.size;have HT:=jqr htk;have HGE:=jqr hge;have HN:=jqr hnews;clear hx hcl hvt hvs hvl htk hown c1 c7 c8 hge hnews
   gi_wp2_with (first | (gi_at_builtin;refine ze0 rfl _ _ rfl W.heap.size _ (d.us.take k) rfl hownA ⟨wr.heap.size,0,none⟩ 1 1 [x1] rfl rfl HN.out (by simp;omega) (by simp;omega) ?_;intro v' w' r1 r2 r3 r4) | gi_in)
   exact⟨⟨k+1,hlt,by simp,by rw [HT.out];exact r1,nA.grown r2 (fun q e=>HGE.out q e)⟩,by simp [intOf];omega⟩
  ·obtain rfl:k=d.turns.length:=by omega
   rw [show d.us.take d.turns.length=d.us by rw [← husl,jxe]] at hown;obtain⟨g,cap,rfl,hgb⟩:=zgR hown (by omega);rw [husl] at hown ⊢;generalize wr=W2 at *;have f7:=c7 _ n2;have ho2:W2.ownsRow W.heap.size 3 1 (.slice (some ⟨g,0,none⟩) d.turns.length cap) (oth2 d.us (d.swaps.take 0) c).length ((oth2 d.us (d.swaps.take 0) c).map num):=by
    show W2.ownsRow _ _ _ (.slice (some ⟨g,0,none⟩) d.turns.length cap) d.us.length (d.us.map num);rw [husl];exact hown
   clear hvt hown c1;gi_wp2
   gi_loopw [7] (fun i wr=>∃ k:Nat,k≤d.swaps.length∧i=num k∧wr.ownsRow W.heap.size 3 1 (.slice (some ⟨g,0,none⟩) d.turns.length cap) (oth2 d.us (d.swaps.take k) c).length ((oth2 d.us (d.swaps.take k) c).map num)∧Nx W wr) (fun i _=>d.swaps.length-(intOf i).toNat)
   case atStart=>exact⟨0,jxa _,rfl,ho2,n2⟩
   case round =>
    obtain⟨k,hk,rfl,hown,n3⟩:=hrel;have f7:=c7 _ n3;by_cases hlt:k<d.swaps.length
    ·obtain⟨b,off,ha,hbl,hcl⟩:=hvs.get (by simp;omega)
     subst ha;have hx:d.swaps[k]?=some d.swaps[k]:=jqx hlt;have hxm:=hO.sw _ (jxj hlt);generalize d.swaps[k]=x at hx hxm;obtain⟨x1,x2,x3⟩:=x;obtain⟨g1,g2,g3⟩:=Sl.at3 hcl n3 hbl hx;dsimp only at hxm;obtain⟨hc1,hc2,hc3⟩:=hxm;obtain⟨p,rfl⟩:=jxg hc2.1;obtain⟨q,rfl⟩:=jxg hc3.1;have hlen:(oth2 d.us (d.swaps.take k) c).length=d.turns.length:=(zd6 d.us c (d.swaps.take k)).trans husl0;obtain⟨ra,hra⟩:∃ v,(oth2 d.us (d.swaps.take k) c)[p]?=some v:=⟨_,jqx (by omega)⟩;obtain⟨rb,hrb⟩:∃ v,(oth2 d.us (d.swaps.take k) c)[q]?=some v:=⟨_,jqx (by omega)⟩;have hs1:=ziz (us:=d.us) hx c;dsimp only at hs1;generalize hV:wr.alloc (.cells #[num x1,num p,num q] 49)=V;have nV:Nx W V:=by rw [← hV];exact n3.alloc (by exact n3.size) _
     have hownV:V.ownsRow W.heap.size 3 1 (.slice (some ⟨g,0,none⟩) d.turns.length cap) (oth2 d.us (d.swaps.take k) c).length ((oth2 d.us (d.swaps.take k) c).map num):=by rw [← hV];exact zdY hown _
     have ct0:V.cell? ⟨wr.heap.size,0,none⟩=some (num x1):=by rw [← hV];exact zaw _ _ _ _ _ rfl
     have ct1:V.cell? ⟨wr.heap.size,1,none⟩=some (num p):=by rw [← hV];exact zaw _ _ _ _ _ rfl
     have ct2:V.cell? ⟨wr.heap.size,2,none⟩=some (num q):=by rw [← hV];exact zaw _ _ _ _ _ rfl
     have hgw:g<wr.heap.size:=by
      obtain⟨_,⟨h1,_⟩ | ⟨g',cap',cur,h1,h2,h3,_⟩⟩:=hown
      ·cases h1
      ·simp only [Value.slice.injEq,Option.some.injEq,Addr.mk.injEq] at h1
       obtain⟨⟨rfl,_⟩,_⟩:=h1;exact (jxh.1 h3).1
     obtain⟨k1,k2⟩:=zeP hownV hra;obtain⟨k3,k4⟩:=zeP hownV hrb;have hgne:g≠wr.heap.size:=by omega
     have hp12:p<d.turns.length:=by omega
     have hq12:q<d.turns.length:=by omega
     clear hcl hx hvs hvl hown c7 c8;by_cases hxc:x1=c
     ·have hb:(x1 == c)=true:=by simpa using hxc
      rw [if_pos hxc] at hs1;have hset:∀ (z:World),z=((V.setCell ⟨g,p,none⟩ (num rb)).setCell ⟨g,q,none⟩ (num ra))→z.drew.ownsRow W.heap.size 3 1 (.slice (some ⟨g,0,none⟩) d.turns.length cap) (oth2 d.us (d.swaps.take (k+1)) c).length ((oth2 d.us (d.swaps.take (k+1)) c).map num)∧Nx W z.drew:=by
       rintro z rfl;have h1:=zdy (v:=.nilIface) (zdy (v:=.nilIface) hownV (i:=p) (by omega) rb) (i:=q) (by simp;omega) ra;refine⟨?_,Below.drew (((nV.setCell (p:=⟨g,p,none⟩) hgb _)).setCell (p:=⟨g,q,none⟩) hgb _)⟩;rw [hs1];have he:zhD (oth2 d.us (d.swaps.take k) c) (p:Int).toNat (q:Int).toNat=((oth2 d.us (d.swaps.take k) c).set p rb).set q ra:=by
        simp [zhD,hra,hrb]
       rw [he];exact h1
      have HSET:=jqr hset;clear hset hs1 hlen hxc hownV;by_cases hpq:p=q
      ·subst hpq
       obtain rfl:rb=ra:=by rw [hrb] at hra;exact Option.some.inj hra
       gi_upto_region 11 with fail
       clear hV
       gi_region
       obtain⟨z1,z2⟩:=HSET.out _ rfl;gi_wp2;exact⟨⟨k+1,hlt,by simp,z1,z2⟩,by simp [intOf];omega⟩
      ·gi_upto_region 11 with fail
       gi_region
       obtain⟨z1,z2⟩:=HSET.out _ rfl;gi_wp2;exact⟨⟨k+1,hlt,by simp,z1,z2⟩,by simp [intOf];omega⟩
     ·have hb:(x1 == c)=false:=by simpa using hxc
      rw [if_neg hxc] at hs1;have HR:Hid (V.ownsRow W.heap.size 3 1 (.slice (some ⟨g,0,none⟩) d.turns.length cap) (oth2 d.us (d.swaps.take (k+1)) c).length ((oth2 d.us (d.swaps.take (k+1)) c).map num)):=by
       show World.ownsRow _ _ _ _ _ _ _;rw [hs1];exact hownV
      clear hs1 hlen hxc hownV;gi_wp2;exact⟨⟨k+1,hlt,by simp,HR.out,nV⟩,by simp [intOf];omega⟩
    ·obtain rfl:k=d.swaps.length:=by omega
     rw [jxe] at hown;generalize wr=W3 at *;have f8:=c8 _ n3;have ho3:W3.ownsRow W.heap.size 3 1 (.slice (some ⟨g,0,none⟩) d.turns.length cap) (oth3 (oth2 d.us d.swaps c) (d.loans.take 0) c).length ((oth3 (oth2 d.us d.swaps c) (d.loans.take 0) c).map num):=hown;clear hvs hown ho2 c7;gi_wp2
     gi_loopw [9] (fun i wr=>∃ k:Nat,k≤d.loans.length∧i=num k∧wr.ownsRow W.heap.size 3 1 (.slice (some ⟨g,0,none⟩) d.turns.length cap) (oth3 (oth2 d.us d.swaps c) (d.loans.take k) c).length ((oth3 (oth2 d.us d.swaps c) (d.loans.take k) c).map num)∧Nx W wr) (fun i _=>d.loans.length-(intOf i).toNat)
     case atStart=>exact⟨0,jxa _,rfl,ho3,n3⟩
     case round =>
      obtain⟨k,hk,rfl,hown,n4⟩:=hrel;have f8:=c8 _ n4;by_cases hlt:k<d.loans.length
      ·obtain⟨b,off,ha,hbl,hcl⟩:=hvl.get (by simp;omega)
       subst ha;have hx:d.loans[k]?=some d.loans[k]:=jqx hlt;have hxm:=hO.lo _ (jxj hlt);generalize d.loans[k]=x at hx hxm;obtain⟨x1,x2,x3⟩:=x;obtain⟨g1,g2,g3⟩:=Sl.at3 hcl n4 hbl hx;dsimp only at hxm;obtain⟨hc1,hc2,hc3⟩:=hxm;obtain⟨p,rfl⟩:=jxg hc2.1;have hlen:(oth3 (oth2 d.us d.swaps c) (d.loans.take k) c).length=d.turns.length:=by rw [zfP,zd6];exact husl0
       obtain⟨ra,hra⟩:∃ v,(oth3 (oth2 d.us d.swaps c) (d.loans.take k) c)[p]?=some v:=⟨_,jqx (by omega)⟩;have hs1:=zi7 (l:=oth2 d.us d.swaps c) hx c;dsimp only at hs1;generalize hV:wr.alloc (.cells #[num x1,num p,num x3] 51)=V;have nV:Nx W V:=by rw [← hV];exact n4.alloc (by exact n4.size) _
       have hownV:V.ownsRow W.heap.size 3 1 (.slice (some ⟨g,0,none⟩) d.turns.length cap) (oth3 (oth2 d.us d.swaps c) (d.loans.take k) c).length ((oth3 (oth2 d.us d.swaps c) (d.loans.take k) c).map num):=by rw [← hV];exact zdY hown _
       have ct0:V.cell? ⟨wr.heap.size,0,none⟩=some (num x1):=by rw [← hV];exact zaw _ _ _ _ _ rfl
       have ct1:V.cell? ⟨wr.heap.size,1,none⟩=some (num p):=by rw [← hV];exact zaw _ _ _ _ _ rfl
       have ct2:V.cell? ⟨wr.heap.size,2,none⟩=some (num x3):=by rw [← hV];exact zaw _ _ _ _ _ rfl
       obtain⟨k1,k2⟩:=zeP hownV hra;have hp12:p<d.turns.length:=by omega
       clear hcl hx hvl hown c8;by_cases hxc:x1=c
       ·have hb:(x1 == c)=true:=by simpa using hxc
        rw [if_pos hxc] at hs1;have HR:Hid ((V.setCell ⟨g,p,none⟩ (num x3)).ownsRow W.heap.size 3 1 (.slice (some ⟨g,0,none⟩) d.turns.length cap) (oth3 (oth2 d.us d.swaps c) (d.loans.take (k+1)) c).length ((oth3 (oth2 d.us d.swaps c) (d.loans.take (k+1)) c).map num)∧Nx W (V.setCell ⟨g,p,none⟩ (num x3))):=by
         refine⟨?_,nV.setCell (p:=⟨g,p,none⟩) hgb _⟩;rw [hs1];exact zdy (v:=.nilIface) hownV (i:=p) (by omega) x3
        clear hs1 hlen hxc hownV;gi_wp2;exact⟨⟨k+1,hlt,by simp,HR.out.1,HR.out.2⟩,by simp [intOf];omega⟩
       ·have hb:(x1 == c)=false:=by simpa using hxc
        rw [if_neg hxc] at hs1;have HR:Hid (V.ownsRow W.heap.size 3 1 (.slice (some ⟨g,0,none⟩) d.turns.length cap) (oth3 (oth2 d.us d.swaps c) (d.loans.take (k+1)) c).length ((oth3 (oth2 d.us d.swaps c) (d.loans.take (k+1)) c).map num)):=by
         show World.ownsRow _ _ _ _ _ _ _;rw [hs1];exact hownV
        clear hs1 hlen hxc hownV;gi_wp2;exact⟨⟨k+1,hlt,by simp,HR.out,nV⟩,by simp [intOf];omega⟩
      ·obtain rfl:k=d.loans.length:=by omega
       rw [jxe] at hown;have HR:=jqr (zb7 hown);clear hvl hown c8 ho3;gi_wp2;go_ret;exact⟨_,_,rfl,Nx.trans n0 n4,HR.out⟩
end Go.Proofs.YtolholkjeehamaaDoor

namespace Go.Proofs.YtolholkjeehamaaDoor
def yaf (d:Dit) (k:Int):(Int×Int)×Int:=if zaF d≠0 then ((0,0),zaF d) else match (if 0≤k then d.plots[k.toNat]? else none) with | some p=>(d.gets p,0) | none=>((0,0),6)
theorem ybu {d:Dit} (hc:zaF d=0) {k:Nat} {p:Plot} (hp:d.plots[k]?=some p):yaf d k=(d.gets p,0):=by
 unfold yaf;rw [if_neg (by simp [hc]),if_pos (by omega),Int.toNat_natCast,hp]
end Go.Proofs.YtolholkjeehamaaDoor

namespace Go.Proofs.YtolholkjeehamaaDoor
def Dit.plotAt (d:Dit) (k:Int):Option Plot:=if 0≤k then d.plots[k.toNat]? else none
def yak (d:Dit) (holder:Int):List Int→Int×Int×Int→Option (Int×Int×Int)
 | [],s=>some s
 | k :: l,s=>match d.plotAt k with
  | some p=>if s.1<k∧p.holder=holder∧(d.needs p).2=true then yak d holder l (k,s.2.1+(d.needs p).1,s.2.2+p.worth) else none
  | none=>none
def yaa (d:Dit) (holder most:Int) (l:List Int):Int×Int×Bool:=match yak d holder l (-1,0,0) with | some s=>(s.2.1,s.2.2,decide (s.2.1≤most)) | none=>(0,0,false)
theorem yap {d:Dit} {k:Int} {p:Plot} (h:d.plotAt k=some p):0≤k∧k<d.plots.length∧d.plots[k.toNat]?=some p:=by
 unfold Dit.plotAt at h
 split at h
 ·have:=(jxk.1 h).1
  exact⟨by omega,by omega,h⟩
 ·cases h
theorem yay {d:Dit} (k:Nat):d.plotAt k=d.plots[k]?:=by
 unfold Dit.plotAt;rw [if_pos (by omega),Int.toNat_natCast]
theorem yad (d:Dit) (holder:Int):∀ (l m:List Int) s,yak d holder (l++m) s=(yak d holder l s).bind (yak d holder m)
 | [],m,s=>rfl
 | k :: l,m,s=>by
  simp only [jxn,yak]
  cases d.plotAt k with
  | none=>rfl
  | some p =>
   dsimp only;split
   ·exact yad d holder l m _
   ·rfl
theorem yb4 {d:Dit} (hO:d.Ok) {k:Int} {p:Plot} (hp:d.plotAt k=some p):0≤(d.needs p).1:=by
 obtain⟨_,_,h⟩:=yap hp;have:=(hO.pl _ p h).2.2.2.2.1;exact (zos hO (p:=p) (by omega)).1
theorem ya2 {d:Dit} (hO:d.Ok) (holder:Int):∀ (l:List Int) s t,yak d holder l s=some t→s.2.1≤t.2.1
 | [],s,t,h=>by cases h;exact Int.le_refl _
 | k :: l,s,t,h=>by
  simp only [yak] at h
  cases hp:d.plotAt k with
  | none=>rw [hp] at h;cases h
  | some p =>
   rw [hp] at h;dsimp only at h
   split at h
   ·have:=ya2 hO holder l _ t h
    have:=yb4 hO hp;dsimp only at *;omega
   ·cases h
def leC (x y:Int×Int):Prop:=x.2<y.2∨(x.2=y.2∧y.1≤x.1)
theorem leC.trans {x y z:Int×Int} (h:leC x y) (h2:leC y z):leC x z:=by unfold leC at *;omega
theorem leC.refl (x:Int×Int):leC x x:=by unfold leC;omega
structure ChOk (d:Dit) (holder most:Int) (c:Choice) (k:Int):Prop where
 st:∃ q,q<k∧yak d holder c.plots (-1,0,0)=some (q,c.hours,c.worth)
 most:c.hours≤most
theorem ChOk.add {d:Dit} {holder most:Int} {c:Choice} {k:Int} (h:ChOk d holder most c k) {p:Plot} (hp:d.plotAt k=some p) (hf:d.fits holder most c p=true):ChOk d holder most (c.add d k p) (k+1):=by
 obtain⟨⟨q,hq,hs⟩,hm⟩:=h;unfold Dit.fits at hf;simp only [Bool.and_eq_true,decide_eq_true_eq] at hf;refine⟨⟨k,by omega,?_⟩,hf.2.2⟩;unfold Choice.add;dsimp only;rw [yad,hs];simp only [jxo,yak,hp];rw [if_pos ⟨hq,hf.2.1,hf.1⟩]
theorem ChOk.up {d:Dit} {holder most:Int} {c:Choice} {k m:Int} (h:ChOk d holder most c k) (hk:k≤m):ChOk d holder most c m:=⟨let ⟨q,hq,hs⟩:=h.st;⟨q,by omega,hs⟩,h.most⟩
def yct (d:Dit) (holder price:Int):List Plot→Int→Int
 | [],n=>n
 | p :: ps,n=>yct d holder price ps (if (d.needs p).2 && decide (p.holder=holder) then n+max 0 (p.worth-price * (d.needs p).1) else n)
def yac (d:Dit) (holder a b price:Int):Int×Int:=if askS d holder a b≠0 then (0,askS d holder a b) else if 0≤price∧price≤10000 then (yct d holder price d.plots (price * d.hoursW holder a b),0) else (0,1)
def yb5 (d:Dit) (holder price:Int) (p:Plot):Int:=if (d.needs p).2 && decide (p.holder=holder) then max 0 (p.worth-price * (d.needs p).1) else 0
def yam (d:Dit) (holder price:Int):List Plot→Int
 | []=>0
 | p :: ps=>yb5 d holder price p+yam d holder price ps
theorem ybe (d:Dit) (holder price:Int):∀ (ps:List Plot) (n:Int),yct d holder price ps n=n+yam d holder price ps
 | [],n=>by simp [yct,yam]
 | p :: ps,n=>by
  unfold yct yam yb5;rw [ybe d holder price ps]
  split<;>omega
theorem ycu (d:Dit) (holder price:Int) (p:Plot):0≤yb5 d holder price p:=by unfold yb5;split<;>omega
end Go.Proofs.YtolholkjeehamaaDoor

namespace Go.Proofs.YtolholkjeehamaaDoor
open Go.RowKit
theorem yaq (x:Int) (n:Nat) (loss:Int) (w:World) (hx:0≤x∧x≤100000) (hn:n≤20) (hl:0≤loss∧loss≤1000) :
  CallsIn FL 0 Tryd.prog 107 #[num x,num n,num loss] w fun e w'=>e=.returned (num (zbw loss n x))∧w'=w:=by
 gi_enter Tryd.func107,Tryd.ntmps107;gi_wp2
 gi_loopw [0,7] (fun y i wr=>∃ (k:Nat) (z:Int),k≤n∧i=num k∧y=num z∧(0≤z∧z≤100000)∧zbw loss n x=zbw loss (n-k) z∧wr=w) (fun _ i _=>n-(intOf i).toNat)
 case atStart=>exact⟨0,x,jxa _,rfl,rfl,hx,rfl,rfl⟩
 case round =>
  obtain⟨k,z,hk,rfl,rfl,hz,he,rfl⟩:=hrel;have HE:=jqr he;clear he;by_cases hlt:k<n
  ·obtain⟨h1,h2⟩:=zgP hl hz
   gi_wp2;refine⟨⟨k+1,z-(z * loss).tdiv 1000,hlt,by simp,?_,by omega,?_,trivial⟩,by simp [intOf];omega⟩
   ·refine congrArg (Value.int IntKind.i64) ?_
    rw [Int.tdiv_eq_ediv_of_nonneg h1.1]
   ·rw [HE.out,show n-k=(n-(k+1))+1 by omega,zbw]
  ·obtain rfl:k=n:=by omega
   gi_wp2;go_ret;exact⟨by rw [HE.out,Nat.sub_self];rfl,rfl⟩
theorem ydg (tmps:Array Value) (W:World) (b:Nat) (x y:Int) (hp:tmps.getD 4 zu=.pointer (some ⟨b,0,none⟩)) (h0:W.cell? ⟨b,0,none⟩=some (num x)) (h1:W.cell? ⟨b,1,none⟩=some (num y)) :
  (results Tryd.f87 tmps).run Tryd.prog W=.ok (.agg #[num x,num y]) W:=by
 have hp' : tmps[4]?.getD zu=.pointer (some ⟨b,0,none⟩):=by simpa using hp
 simp [results,Tryd.results87,go_sem,hp',h0,h1]
theorem yaz (d:Dit) (r:zaR) (p:Plot) (w:World) (hO:d.Ok) (hpf:0≤p.far∧p.far≤20) :
  CallsIn FL 0 Tryd.prog 87 #[d.val r,p.val] w fun e w'=>e=.returned (.agg #[num (d.gets p).1,num (d.gets p).2])∧Nx w w':=by
 obtain⟨nm,ph,pf,pl,pg,pw⟩:=p;dsimp only at hpf;obtain⟨n,rfl⟩:=jxg hpf.1;have HG:Hid (d.gets ⟨nm,ph,n,pl,pg,pw⟩=(zbw d.loss.2 n d.flow.1,zbw d.loss.1 n d.flow.2)):=rfl;have hval:Plot.val ⟨nm,ph,n,pl,pg,pw⟩=.agg #[str nm,num ph,num n,num pl,num pg,num pw]:=rfl;rw [hval];clear hval;obtain⟨W0,hW,n0,hWs,cW⟩:=boxed w d r;generalize hY:W0.alloc (.cells #[str nm,num ph,num n,num pl,num pg,num pw] 91)=Y;generalize hV:Y.alloc (.cells #[.int .i64 0,.int .i64 0] 28)=V;have sY:Y.heap.size=w.heap.size+1+1:=by rw [← hY];simp [hWs]
 have nY:Nx W0 Y:=by rw [← hY];exact zaG (jqy _ _) _
 have nV:Nx Y V:=by rw [← hV];exact zaG (jqy _ _) _
 have hz:V.heap[w.heap.size+1+1]?=some (Obj.cells #[Value.int IntKind.i64 0,Value.int IntKind.i64 0] 28):=by rw [← hV,← sY];exact heap_alloc_new Y _
 have g2:V.cell? ⟨w.heap.size+1,2,none⟩=some (num n):=(nV.cell (p:=⟨w.heap.size+1,2,none⟩) (by show w.heap.size+1<_;omega)).trans (by rw [← hY,← hWs];exact zaw _ _ _ _ _ rfl);obtain⟨c0,c1,c2,c3,c4,c5,c6,c7,c8,c9,c10,c11,c12,c13⟩:=zaS (cW V (Nx.trans nY nV));have hf:=hO.flow;have hl:=hO.loss;have hn20:n≤20:=by omega
 have e4:V.cell? ⟨w.heap.size+1+1,0,none⟩=some (num 0):=by simp [jxb,hz]
 have e5:V.cell? ⟨w.heap.size+1+1,1,none⟩=some (num 0):=by simp [jxb,hz]
 have e6:V.frozen? ⟨w.heap.size+1+1,0,none⟩=false:=by simp [World.frozen?,hz]
 have e7:V.frozen? ⟨w.heap.size+1+1,1,none⟩=false:=by simp [World.frozen?,hz]
 have kA:∀ m,CallsIn FL 0 Tryd.prog 107 #[num d.flow.1,num n,num d.loss.2] (V.drewN m) fun e w''=>e=.returned (num (zbw d.loss.2 n d.flow.1))∧∃ m,w''=V.drewN m:=fun m=>CallsIn.quiet_of_same (yaq d.flow.1 n d.loss.2 _ (by omega) hn20 (by omega));have kB:∀ m,CallsIn FL 0 Tryd.prog 107 #[num d.flow.2,num n,num d.loss.1] (V.drewN m) fun e w''=>e=.returned (num (zbw d.loss.1 n d.flow.2))∧∃ m,w''=V.drewN m:=fun m=>CallsIn.quiet_of_same (yaq d.flow.2 n d.loss.1 _ (by omega) hn20 (by omega));have HN:=jqr (Nx.trans n0 (Nx.trans nY nV));clear cW hz nY nV n0 c0 c1 c2 c3 c4 c5 c6 c7 c8 c13;gi_enter Tryd.func87,Tryd.ntmps87;gi_upto_region 1 with fail
 refine zfI 19 rfl (by kernel_rfl) (by kernel_rfl) ?_;simp only [List.take_succ_cons,List.take_zero,List.drop_succ_cons,List.drop_zero]
 repeat (gi_big_quiet_step (first | (gi_at_call 107;first | with_reducible exact kA _ | with_reducible exact kB _)))
 refine wpQuietIn_nil ?_;intro w' hw';obtain⟨nq,hw''⟩:=hw';subst hw'';gi_wp2;obtain⟨r1,r2⟩:=set2 (V.drewN nq) (w.heap.size+1+1) (zbw d.loss.2 n d.flow.1) (zbw d.loss.1 n d.flow.2) 0 0 e4 e5;refine bodyPost_ret (ydg _ _ (w.heap.size+1+1) (zbw d.loss.2 n d.flow.1) (zbw d.loss.1 n d.flow.2) rfl r1 r2) rfl ?_;exact⟨by rw [HG.out],((Nx.drewN HN.out _).setCell (by show w.heap.size≤w.heap.size+1+1;omega) _).setCell (by show w.heap.size≤w.heap.size+1+1;omega) _⟩
theorem yar (d:Dit) (r:zaR) (k:Nat) (p:Plot) (w:World) (hd:DitSl w d r) (hO:d.Ok) (hp:d.plots[k]?=some p) :
  CallsIn FL 0 Tryd.prog 86 #[d.val r,num k] w fun e w'=>e=.returned (.tuple #[num (d.needs p).1,.bool (d.needs p).2])∧Nx w w':=by
 obtain⟨W,hW,n0,hWs,cW⟩:=boxed w d r;have nW:Nx W W:=jqy _ _;have hpl:=hO.pl k p hp;have h8:=hO.p8;have hlt:=(jxk.1 hp).1;obtain⟨ap,capp,ep⟩:=hd.plots.cases;rw [jqz] at ep;have hps:=hd.plots;rw [ep] at hps;obtain⟨b,off,ha,hbl,hcl⟩:=hps.get (by simp;omega);subst ha;obtain⟨g0,g1,g2,g3,g4,g5⟩:=Sl.at6 hcl n0 hbl hp;have q13:W.cell? ⟨w.heap.size,13,none⟩=some (.slice (some ⟨b,off,none⟩) d.plots.length capp):=(cW W nW 13 r.p rfl).trans (by rw [ep]);generalize hY:W.alloc (.cells #[str p.name,num p.holder,num p.far,num p.low,num p.high,num p.worth] 91)=Y;have nY:Nx W Y:=by rw [← hY];exact zaG (jqy _ _) _
 have hz:Y.heap[w.heap.size+1]?=some (.cells #[str p.name,num p.holder,num p.far,num p.low,num p.high,num p.worth] 91):=by rw [← hY,← hWs];exact heap_alloc_new W _
 have hYs:w.heap.size+1<Y.heap.size:=by rw [← hY];simp [hWs]
 have cN:∀ w1,Nx Y w1→w1.cell? ⟨w.heap.size+1,0,none⟩=some (str p.name)∧w1.cell? ⟨w.heap.size+1,1,none⟩=some (num p.holder)∧w1.cell? ⟨w.heap.size+1,2,none⟩=some (num p.far)∧w1.cell? ⟨w.heap.size+1,3,none⟩=some (num p.low)∧w1.cell? ⟨w.heap.size+1,4,none⟩=some (num p.high)∧w1.cell? ⟨w.heap.size+1,5,none⟩=some (num p.worth):=by
  intro w1 n1;refine⟨(n1.cell (by exact hYs)).trans ?_,(n1.cell (by exact hYs)).trans ?_,(n1.cell (by exact hYs)).trans ?_,(n1.cell (by exact hYs)).trans ?_,(n1.cell (by exact hYs)).trans ?_,(n1.cell (by exact hYs)).trans ?_⟩<;>simp [jxb,hz]
 have kg:=yaz d r p Y hO hpl.2.2.2.1;have hgb:=zmU hO (p:=p);have HN:Hid (d.needs p=if p.high=0 then (0,true) else if (d.gets p).1=0 then (0,false) else ((p.high+(d.gets p).1-1).tdiv (d.gets p).1,true)):=rfl;have hph:=hpl.2.2.2.2.1;have HX:=jqr (Nx.trans n0 nY);have HC:=jqr (zaS (cW Y nY));clear hcl hps hd cW hpl hz hp nY nW ep n0;gi_enter Tryd.func86,Tryd.ntmps86;gi_upto_region 2 with fail
 clear g0 g1 g2 g3 g4 g5 q13;obtain⟨c0,c1,c2,c3,c4,c5,c6,c7,c8,c9,c10,c11,c12,c13⟩:=HC.out;obtain⟨e0,e1,e2,e3,e4,e5⟩:=cN Y (jqy _ _);generalize (d.gets p).1=g at kg hgb HN;generalize (d.gets p).2=g' at kg;have hfd:=fun w1=>(zkU g g' w1).1;by_cases h0:p.high=0
 ·have HD:Hid (d.needs p=(0,true)):=by show _=_;rw [HN.out,if_pos h0]
  have hb:(p.high == 0)=true:=by simpa using h0
  clear h0
  gi_wp2_with (first
   | (gi_at_call 87;refine jqs kg ?_;rintro e w1 ⟨rfl,n1⟩;clear c0 c1 c2 c3 c4 c5 c6 c7 c8 c9 c10 c11 c12 c13 e0 e1 e2 e3 e4 e5;obtain⟨e0,e1,e2,e3,e4,e5⟩:=cN w1 n1)
   | gi_in)
  refine bodyPost_ret (v:=.tuple #[num 0,.bool true]) (by simp [results,Tryd.results86,go_sem]) rfl ?_;exact⟨by rw [HD.out],Nx.trans HX.out n1⟩
 ·have hb:(p.high == 0)=false:=by simpa using h0
  by_cases hg0:g=0
  ·have HD:Hid (d.needs p=(0,false)):=by show _=_;rw [HN.out,if_neg h0,if_pos hg0]
   have hb2:(g == 0)=true:=by simpa using hg0
   clear h0 hg0
   gi_wp2_with (first
    | (gi_at_call 87;refine jqs kg ?_;rintro e w1 ⟨rfl,n1⟩;clear c0 c1 c2 c3 c4 c5 c6 c7 c8 c9 c10 c11 c12 c13 e0 e1 e2 e3 e4 e5;obtain⟨e0,e1,e2,e3,e4,e5⟩:=cN w1 n1)
    | gi_in)
   refine bodyPost_ret (v:=.tuple #[num 0,.bool false]) (by simp [results,Tryd.results86,go_sem]) rfl ?_;exact⟨by rw [HD.out],Nx.trans HX.out n1⟩
  ·have HD:Hid (d.needs p=((p.high+g-1).tdiv g,true)):=by show _=_;rw [HN.out,if_neg h0,if_neg hg0]
   have hb2:(g == 0)=false:=by simpa using hg0
   have hta:=zcg (p.high+g-1) g;have hgn:¬ g=0:=hg0
   gi_wp2_with (first
    | (gi_at_call 87;refine jqs kg ?_;rintro e w1 ⟨rfl,n1⟩;clear c0 c1 c2 c3 c4 c5 c6 c7 c8 c9 c10 c11 c12 c13 e0 e1 e2 e3 e4 e5;obtain⟨e0,e1,e2,e3,e4,e5⟩:=cN w1 n1)
    | gi_in)
   refine bodyPost_ret (v:=.tuple #[num ((p.high+g-1).tdiv g),.bool true]) (by simp [results,Tryd.results86,go_sem]) rfl ?_;exact⟨by rw [HD.out],Nx.trans HX.out n1⟩
end Go.Proofs.YtolholkjeehamaaDoor

namespace Go.Proofs.YtolholkjeehamaaDoor
open Go.RowKit
theorem yc4 (tmps:Array Value) (W:World) (b:Nat) (x y f:Int) (hp:tmps.getD 4 zu=.pointer (some ⟨b,0,none⟩)) (h5:tmps.getD 5 zu=num f) (h0:W.cell? ⟨b,0,none⟩=some (num x)) (h1:W.cell? ⟨b,1,none⟩=some (num y)) :
  (results Tryd.f47 tmps).run Tryd.prog W=.ok (.tuple #[.agg #[num x,num y],num f]) W:=by
 have hp' : tmps[4]?.getD zu=.pointer (some ⟨b,0,none⟩):=by simpa using hp
 have h5' : tmps[5]?.getD zu=num f:=by simpa using h5
 simp [results,Tryd.results47,go_sem,hp',h5',h0,h1]
theorem ya3 {d:Dit} (hc:zaF d≠0) (k:Int):yaf d k=((0,0),zaF d):=by unfold yaf;rw [if_pos hc]
theorem ya0 {d:Dit} (hc:zaF d=0) {k:Int} (hk:¬ (0≤k∧k≤(d.plots.length:Int)-1)):yaf d k=((0,0),6):=by
 unfold yaf;rw [if_neg (by simp [hc])];split
 ·rename_i p hp
  split at hp
  ·have:=(jxk.1 hp).1
   omega
  ·cases hp
 ·rfl
theorem yb6 (d:Dit) (r:zaR) (k:Int) (w:World) (hd:DitSl w d r) (hs:d.Small) (hg:Glob w) :
  CallsIn FL 0 Tryd.prog 47 #[d.val r,num k] w fun e w'=>e=.returned (.tuple #[.agg #[num (yaf d k).1.1,num (yaf d k).1.2],num (yaf d k).2])∧Nx w w':=by
 obtain⟨W,hW,n0,hWs,cW⟩:=boxed w d r;generalize hY:W.alloc (.cells #[.int .i64 0,.int .i64 0] 28)=Y;have nY:Nx W Y:=by rw [← hY];exact (jqy _ _).alloc (jxc _) _
 have n1:Nx w Y:=Nx.trans n0 nY;have sY:w.heap.size+1<Y.heap.size:=by rw [← hY];simp [hWs]
 have hz:∀ w1,Nx Y w1→w1.cell? ⟨w.heap.size+1,0,none⟩=some (num 0)∧w1.cell? ⟨w.heap.size+1,1,none⟩=some (num 0)∧w1.frozen? ⟨w.heap.size+1,0,none⟩=false∧w1.frozen? ⟨w.heap.size+1,1,none⟩=false:=by
  intro w1 nx;have h0:Y.heap[w.heap.size+1]?=some (.cells #[.int .i64 0,.int .i64 0] 28 (0,0)):=by rw [← hY,← hWs];exact heap_alloc_new _ _
  have hb:w1.heap[w.heap.size+1]?=some (.cells #[.int .i64 0,.int .i64 0] 28 (0,0)):=(nx.block _ sY).trans h0;refine⟨?_,?_,frozen_of_row _ _ _ _ _ hb,frozen_of_row _ _ _ _ _ hb⟩<;>(unfold jxb;dsimp only;rw [hb];rfl)
 have hN:Nx Y Y:=jqy _ _;obtain⟨c0,c1,c2,c3,c4,c5,c6,c7,c8,c9,c10,c11,c12,c13⟩:=zaS (cW _ nY);by_cases hc:zaF d=0
 ·have hO:=zco hc
  have k66:=zic d r Y (hd.nx n1) hs (hg.nx n1) hc;obtain⟨ap,capp,ep⟩:=hd.plots.cases;rw [jqz] at ep;have h13:∀ w1,Nx Y w1→w1.cell? ⟨w.heap.size,13,none⟩=some (.slice ap d.plots.length capp):=fun w1 nx=>(cW w1 (Nx.trans nY nx) 13 r.p rfl).trans (by rw [ep]);have h8:=hO.p8;clear ep;have H0:Hid (d.Ok):=hO;by_cases hk:0≤k∧k≤(d.plots.length:Int)-1
  ·obtain⟨m,rfl⟩:=jxg hk.1
   have hml:m<d.plots.length:=by omega
   have hp:d.plots[m]?=some d.plots[m]:=jqx hml;have HA:Hid (yaf d m=(d.gets d.plots[m],0)):=ybu hc hp;have k67:=fun w1=>zaQ hk w1;have HP:=jqr hp;have HW2:=jqr n1;generalize hgx:(d.gets d.plots[m]).1=gx at *;generalize hgy:(d.gets d.plots[m]).2=gy at *;have HX:=jqr hgx;have HY:=jqr hgy;clear hc cW hO hp hgx hgy hd;gi_enter Tryd.func47,Tryd.ntmps47;gi_upto_region 6 with (first
    | (gi_at_call 66;refine jqs k66 ?_;rintro e w1 ⟨B,M,rfl,n2,hB,hw⟩;clear c13;have c13:=h13 w1 n2;have HW:=jqr hw;clear hw)
    | (gi_at_call 67;refine jqs (k67 _) ?_;rintro e w1 ⟨rfl,rfl⟩)
    | gi_in)
   have k81:=zog B d m _ w1 HW.out.wat.dit H0.out HP.out;rw [HX.out,HY.out] at k81;clear k66 k67 h13 c0 c1 c2 c3 c4 c5 c6 c7 c8 c9 c10 c11 c12 c13
   gi_wp2_with (first
    | (gi_at_call 81;refine jqs k81 ?_;rintro e w2 ⟨rfl,n3⟩;obtain⟨z0,z1,z2,z3⟩:=hz w2 (Nx.trans n2 n3))
    | gi_in)
   obtain⟨r1,r2⟩:=set2 w2 (w.heap.size+1) gx gy 0 0 z0 z1;refine bodyPost_ret (yc4 _ _ (w.heap.size+1) gx gy 0 rfl rfl r1 r2) rfl ?_;exact⟨by rw [HA.out,HX.out,HY.out],((Nx.trans HW2.out (Nx.trans n2 n3)).setCell (by exact jxd _) _).setCell (by exact jxd _) _⟩
  ·have HA:Hid (yaf d k=((0,0),6)):=ya0 hc hk
   have k67:=fun w1=>zbS hk w1;have HW2:=jqr n1;clear hc cW hO hd hk;gi_enter Tryd.func47,Tryd.ntmps47
   gi_wp2_with (first
    | (gi_at_call 66;refine jqs k66 ?_;rintro e w1 ⟨B,M,rfl,n2,hB,hw⟩;clear c13;have c13:=h13 w1 n2;clear hw;obtain⟨z0,z1,z2,z3⟩:=hz w1 n2)
    | (gi_at_call 67;refine jqs (k67 _) ?_;rintro e w1 ⟨rfl,rfl⟩)
    | gi_in)
   obtain⟨r1,r2⟩:=set2 w1 (w.heap.size+1) 0 0 0 0 z0 z1;refine bodyPost_ret (yc4 _ _ (w.heap.size+1) 0 0 6 rfl rfl r1 r2) rfl ?_;exact⟨by rw [HA.out],((Nx.trans HW2.out n2).setCell (by exact jxd _) _).setCell (by exact jxd _) _⟩
 ·have k66:=zie d r Y (hd.nx n1) hs (hg.nx n1) hc
  have HA:Hid (yaf d k=((0,0),zaF d)):=ya3 hc k;have hb:(zaF d != 0)=true:=by simpa using hc
  have hb2:(zaF d == 0)=false:=by simpa using hc
  have HW2:=jqr n1;generalize zaF d=ck at *;clear cW hc hd;gi_enter Tryd.func47,Tryd.ntmps47
  gi_wp2_with (first
   | (gi_at_call 66;refine jqs k66 ?_;rintro e w1 ⟨rfl,n2⟩;obtain⟨z0,z1,z2,z3⟩:=hz w1 n2)
   | gi_in)
  obtain⟨r1,r2⟩:=set2 w1 (w.heap.size+1) 0 0 0 0 z0 z1;refine bodyPost_ret (yc4 _ _ (w.heap.size+1) 0 0 ck rfl rfl r1 r2) rfl ?_;exact⟨by rw [HA.out],((Nx.trans HW2.out n2).setCell (by exact jxd _) _).setCell (by exact jxd _) _⟩
end Go.Proofs.YtolholkjeehamaaDoor

namespace Go.Proofs.YtolholkjeehamaaDoor
open Go.RowKit
theorem yas (d:Dit) (holder price:Int):∀ l m:List Plot,yam d holder price (l++m)=yam d holder price l+yam d holder price m
 | [],m=>by simp [yam]
 | p :: l,m=>by
  have:=yas d holder price l m;simp only [jxn,yam];omega
theorem yat {d:Dit} (holder price:Int) {k:Nat} {p:Plot} (hp:d.plots[k]?=some p):yam d holder price (d.plots.take (k+1))=yam d holder price (d.plots.take k)+yb5 d holder price p:=by
 rw [jxf,hp,yas];simp [yam]
theorem ybf {d:Dit} (hO:d.Ok) {holder price:Int} (hp0:0≤price) {k:Nat} {p:Plot} (hp:d.plots[k]?=some p):yb5 d holder price p≤10000:=by
 obtain⟨_,_,_,_,hph,hw⟩:=hO.pl k p hp;have hn:=(zos hO (p:=p) (by omega)).1;have:=Int.mul_nonneg hp0 hn;unfold yb5
 split<;>omega
theorem ybg {d:Dit} (hO:d.Ok) {holder price:Int} (hp0:0≤price):∀ k:Nat,k≤d.plots.length→0≤yam d holder price (d.plots.take k)∧yam d holder price (d.plots.take k)≤10000 * (k:Int)
 | 0,_=>by simp [yam]
 | k+1,h=>by
  have ih:=ybg hO (holder:=holder) hp0 k (by omega);have hk:d.plots[k]?=some d.plots[k]:=jqx (by omega);have h1:=ybf hO (holder:=holder) hp0 hk;have h2:=ycu d holder price d.plots[k];rw [yat holder price hk];omega
theorem yan (n:Int) (w:World):(Builtin.max_ #[3,3] 3 #[.int .i64 0,.int .i64 n]).run Tryd.prog w=.ok (.int .i64 (max 0 n)) w:=by
 rw [show max 0 n=if 0<n then n else 0 by omega];by_cases h:0<n<;>simp [Builtin.max_,Builtin.max2,go_sem,h]
theorem yb7 (d:Dit) (r:zaR) (holder a b price:Int) (w:World) (hd:DitSl w d r) (hs:d.Small) (hg:Glob w) (hm:askS d holder a b=0→0≤d.hoursW holder a b∧d.hoursW holder a b≤1000000000) :
  CallsIn FL 0 Tryd.prog 50 #[d.val r,num holder,num a,num b,num price] w fun e w'=>e=.returned (.tuple #[num (yac d holder a b price).1,num (yac d holder a b price).2])∧Nx w w':=by
 obtain⟨W,hW,n0,hWs,cW⟩:=boxed w d r;have nW:Nx W W:=jqy _ _;obtain⟨c0,c1,c2,c3,c4,c5,c6,c7,c8,c9,c10,c11,c12,c13⟩:=zaS (cW _ nW);have k56:=zjG d r holder a b W (hd.nx n0) hs (hg.nx n0);by_cases hc:askS d holder a b=0
 ·obtain⟨hck,hhold,ha,hb,hab⟩:=ziU hc
  have k56' : CallsIn FL 0 Tryd.prog 56 _ W fun e w'=>d.Ok∧zf6 W d 0 e w':=k56.mono fun e w' ⟨v,_,_,h⟩=>h hc;clear k56;by_cases hp:0≤price∧price≤10000
  ·have HA:Hid (yac d holder a b price=(yct d holder price d.plots (price * d.hoursW holder a b),0)):=by show _=_;unfold yac;rw [if_neg (by simp [hc]),if_pos hp]
   have k67:=fun w1=>zaQ hp w1;obtain⟨hm0,hm1⟩:=hm hc;obtain⟨ap,capp,ep⟩:=hd.plots.cases;rw [jqz] at ep;have hpl:=hd.plots;rw [ep] at hpl;have h13:=jqr (fun w1 (nx:Nx W w1)=>show w1.cell? ⟨w.heap.size,13,none⟩=some (.slice ap d.plots.length capp) from (cW w1 nx 13 r.p rfl).trans (by rw [ep]));have HPL:=jqr hpl;have hmul1:0≤price * d.hoursW holder a b:=Int.mul_nonneg hp.1 hm0;have hmul2:price * d.hoursW holder a b≤10000 * 1000000000:=Int.mul_le_mul hp.2 hm1 hm0 (by omega);clear hc ep cW hpl hm;gi_enter Tryd.func50,Tryd.ntmps50;gi_upto_region 7 with (first
    | (gi_at_call 56;refine jqs k56' ?_;rintro e w1 ⟨hO,B,M,rfl,n1,hB,hw⟩;have HW:=jqr hw;have HO:=jqr hO;have k57:=zmV (holder:=holder) hw hO (a:=a) (b:=b) (by omega) (by omega);clear hw hO)
    | (gi_at_call 67;refine jqs (k67 _) ?_;rintro e w1 ⟨rfl,rfl⟩)
    | (gi_at_call 57;refine jqs k57 ?_;rintro e w2 ⟨rfl,n2⟩)
    | gi_in)
   generalize hH:d.hoursW holder a b=H at *;have hO:=HO.out;have hp8:=hO.p8;have HBD:=jqr (fun k h=>ybg hO (holder:=holder) hp.1 k h);have nw1:Nx w w1:=Nx.trans n0 n1;have nw2:Nx w w2:=Nx.trans nw1 n2;clear c0 c1 c2 c3 c4 c5 c6 c7 c8 c9 c10 c11 c12 c13 k57 k56' k67;have c13:=h13.out w2 (Nx.trans n1 n2);gi_wp2;clear c13
   gi_loopw [14,47] (fun n i wr=>∃ k:Nat,k≤d.plots.length∧i=num k∧n=num (price * H+yam d holder price (d.plots.take k))∧Nx w1 wr) (fun _ i _=>d.plots.length-(intOf i).toNat)
   case atStart=>exact⟨0,jxa _,rfl,by simp [yam],n2⟩
   case round =>
    obtain⟨k,hk,rfl,rfl,n3⟩:=hrel;by_cases hlt:k<d.plots.length
    ·obtain⟨b0,off,ha0,hbl,hcl⟩:=HPL.out.get (by simp;omega)
     subst ha0;have hx:d.plots[k]?=some d.plots[k]:=jqx hlt;generalize hxk:d.plots[k]=x at hx;clear hxk;obtain⟨g0,g1,g2,g3,g4,g5⟩:=Sl.at6 hcl (Nx.trans nw1 n3) hbl hx;have hpx:=hO.pl k x hx;have hbk:=HBD.out k (by omega);have h1:=ybf hO (holder:=holder) hp.1 hx;have htk:=yat holder price hx;have hnb:=zos hO (p:=x) (by omega);generalize hW2:wr.alloc (.cells #[str x.name,num x.holder,num x.far,num x.low,num x.high,num x.worth] 91)=V;have n3V:Nx w1 V:=by rw [← hW2];exact n3.alloc (by exact n3.size) _
     have hz:V.heap[wr.heap.size]?=some (.cells #[str x.name,num x.holder,num x.far,num x.low,num x.high,num x.worth] 91):=by rw [← hW2];exact heap_alloc_new wr _
     have hVs:wr.heap.size<V.heap.size:=by rw [← hW2];simp
     have cN:∀ w3,Nx V w3→w3.cell? ⟨wr.heap.size,1,none⟩=some (num x.holder)∧w3.cell? ⟨wr.heap.size,5,none⟩=some (num x.worth):=by
      intro w3 nx;refine⟨(nx.cell (by exact hVs)).trans ?_,(nx.cell (by exact hVs)).trans ?_⟩<;>simp [jxb,hz]
     have kn:=zm3 B d k x V (HW.out.wat.dit.nx n3V) hO hx;have hb1:yb5 d holder price x=if (d.needs x).2 && decide (x.holder=holder) then max 0 (x.worth-price * (d.needs x).1) else 0:=rfl
     have HB1:=jqr hb1;have HTK:=jqr htk;have hmn:price * (d.needs x).1≤10000 * 2000000000:=Int.mul_le_mul hp.2 (by omega) (by omega) (by omega);have hmn0:0≤price * (d.needs x).1:=Int.mul_nonneg hp.1 (by omega);have hwx:=hpx.2.2.2.2.2;clear hb1 htk hpx hcl hbl hx;generalize (d.needs x).1=h at *;generalize (d.needs x).2=ok at *;generalize yb5 d holder price x=z1 at *;generalize yam d holder price (d.plots.take k)=z2 at *
     cases ok with
     | false =>
      gi_wp2_with (first
       | (gi_at_call 84;refine jqs kn ?_;rintro e w3 ⟨rfl,n4⟩;obtain⟨e1,e5⟩:=cN w3 n4;have mx:=yan (x.worth-price * h) w3)
       | gi_in)
      have e:=HB1.out;simp only [Bool.false_and,Bool.false_eq_true,if_false] at e;exact⟨⟨k+1,hlt,by simp,by rw [HTK.out,e];simp,Nx.trans n3V n4⟩,by simp [intOf];omega⟩
     | true =>
      by_cases hh:x.holder=holder
      ·subst hh
       have bh:(x.holder == x.holder)=true:=by simp
       gi_wp2_with (first
        | (gi_at_call 84;refine jqs kn ?_;rintro e w3 ⟨rfl,n4⟩;obtain⟨e1,e5⟩:=cN w3 n4;have mx:=yan (x.worth-price * h) w3)
        | gi_in)
       have e:=HB1.out;simp only [Bool.true_and,decide_true,if_true] at e;exact⟨⟨k+1,hlt,by simp,by rw [HTK.out,e];congr 1;omega,Nx.trans n3V n4⟩,by simp [intOf];omega⟩
      ·have bh:(x.holder == holder)=false:=by simpa using hh
       gi_wp2_with (first
        | (gi_at_call 84;refine jqs kn ?_;rintro e w3 ⟨rfl,n4⟩;obtain⟨e1,e5⟩:=cN w3 n4;have mx:=yan (x.worth-price * h) w3)
        | gi_in)
       have e:=HB1.out;simp only [Bool.true_and,hh,decide_false,Bool.false_eq_true,if_false] at e;exact⟨⟨k+1,hlt,by simp,by rw [HTK.out,e];simp,Nx.trans n3V n4⟩,by simp [intOf];omega⟩
    ·obtain rfl:k=d.plots.length:=by omega
     have he:yct d holder price d.plots (price * H)=price * H+yam d holder price (d.plots.take d.plots.length):=by rw [ybe,jxe]
     have HE:=jqr he;clear he;generalize yam d holder price (d.plots.take d.plots.length)=z at *;gi_wp2;refine bodyPost_ret (v:=.tuple #[num (price * H+z),num 0]) (by simp [results,Tryd.results50,go_sem]) rfl ?_;exact⟨by rw [HA.out,HE.out],Nx.trans nw1 n3⟩
  ·have HA:Hid (yac d holder a b price=(0,1)):=by show _=_;unfold yac;rw [if_neg (by simp [hc]),if_neg hp]
   have k67:=fun w1=>zbS hp w1;clear hc cW hm;gi_enter Tryd.func50,Tryd.ntmps50
   gi_wp2_with (first
    | (gi_at_call 56;refine jqs k56' ?_;rintro e w1 ⟨hO,B,M,rfl,n1,hB,hw⟩;clear hw hO)
    | (gi_at_call 67;refine jqs (k67 _) ?_;rintro e w1 ⟨rfl,rfl⟩)
    | gi_in)
   refine bodyPost_ret (v:=.tuple #[num 0,num 1]) (by simp [results,Tryd.results50,go_sem]) rfl ?_;exact⟨by rw [HA.out],Nx.trans n0 n1⟩
 ·have HA:Hid (yac d holder a b price=(0,askS d holder a b)):=by show _=_;unfold yac;rw [if_pos hc]
  have hb:(askS d holder a b != 0)=true:=by simpa using hc
  have hb2:(askS d holder a b == 0)=false:=by simpa using hc
  have k56' : CallsIn FL 0 Tryd.prog 56 _ W fun e w'=>∃ v,e=.returned (.tuple #[.pointer v,num (askS d holder a b)])∧Nx W w':=k56.mono fun e w' ⟨v,h1,h2,h⟩=>⟨v,h1,h2⟩;clear k56 cW hc hm;generalize askS d holder a b=f at *;gi_enter Tryd.func50,Tryd.ntmps50
  gi_wp2_with (first
   | (gi_at_call 56;refine jqs k56' ?_;rintro e w1 ⟨v,rfl,n1⟩)
   | gi_in)
  refine bodyPost_ret (v:=.tuple #[num 0,num f]) (by simp [results,Tryd.results50,go_sem]) rfl ?_;exact⟨by rw [HA.out],Nx.trans n0 n1⟩
end Go.Proofs.YtolholkjeehamaaDoor

namespace Go.Proofs.YtolholkjeehamaaDoor
open Go.RowKit
theorem ziW (d:Dit) (r:zaR) (holder a b:Int) (w:World) (hd:DitSl w d r) (hs:d.Small) :
  CallsIn FL 0 Tryd.prog 58 #[d.val r,num holder,num a,num b] w fun e w'=>e=.returned (num (askS d holder a b))∧Nx w w':=by
 obtain⟨W,hW,n0,hWs,cW⟩:=boxed w d r;obtain⟨ah,caph,eh⟩:=hd.holders.cases;rw [jqz] at eh;have nWW:Nx W W:=jqy _ _;have c0' : ∀ w1,Nx W w1→w1.cell? ⟨w.heap.size,0,none⟩=some (.slice ah d.holders.length caph):=fun w1 n1=>(cW _ n1 0 r.h rfl).trans (by rw [eh]);obtain⟨c0,c1,c2,c3,c4,c5,c6,c7,c8,c9,c10,c11,c12,c13⟩:=zaS (cW _ nWW);have hlh:=hs.h;have k25:=zgI d r W (hd.nx n0) hs;have k71:=fun w1=>zby holder 0 ((d.holders.length:Int)-1) w1;have k79:=fun w1=>zhC a b w1;have HA:=jqr (show askS d holder a b=if zaF d≠0 then zaF d else if ¬ (decide (0≤holder∧holder≤(d.holders.length:Int)-1)=true) then 6 else zbq a b by unfold askS;simp only [decide_eq_true_eq]);generalize zaF d=p1 at k25 HA;generalize decide (0≤holder∧holder≤(d.holders.length:Int)-1)=p2 at k71 HA;generalize zbq a b=p3 at k79 HA;have HC0:=jqr c0';clear cW hd hs eh c0';gi_enter Tryd.func58,Tryd.ntmps58;by_cases h1:p1=0
 ·have b1:(p1 != 0)=false:=by simpa using h1
  cases p2 with
  | true =>
   have HF:=jqr (show askS d holder a b=p3 by rw [HA.out,if_neg (by simpa using h1),if_neg (by simp)]);clear HA h1
   gi_wp2_with (first
    | (gi_at_call 25;refine jqs k25 ?_;rintro e w1 ⟨rfl,n1⟩;have e0:=HC0.out _ n1)
    | (gi_at_call 71;refine jqs (k71 _) ?_;rintro e w2 ⟨rfl,rfl⟩)
    | (gi_at_call 79;refine jqs (k79 _) ?_;rintro e w2 ⟨rfl,rfl⟩)
    | gi_in)
   go_ret;exact⟨by rw [HF.out];rfl,Nx.trans n0 n1⟩
  | false =>
   have HF:=jqr (show askS d holder a b=6 by rw [HA.out,if_neg (by simpa using h1),if_pos (by simp)]);clear HA h1
   gi_wp2_with (first
    | (gi_at_call 25;refine jqs k25 ?_;rintro e w1 ⟨rfl,n1⟩;have e0:=HC0.out _ n1)
    | (gi_at_call 71;refine jqs (k71 _) ?_;rintro e w2 ⟨rfl,rfl⟩)
    | gi_in)
   go_ret;exact⟨by rw [HF.out];rfl,Nx.trans n0 n1⟩
 ·have b1:(p1 != 0)=true:=by simpa using h1
  have HF:=jqr (show askS d holder a b=p1 by rw [HA.out,if_pos h1]);clear HA h1
  gi_wp2_with (first
   | (gi_at_call 25;refine jqs k25 ?_;rintro e w1 ⟨rfl,n1⟩)
   | gi_in)
  go_ret;exact⟨by rw [HF.out];rfl,Nx.trans n0 n1⟩
end Go.Proofs.YtolholkjeehamaaDoor

namespace Go.Proofs.YtolholkjeehamaaDoor
open Go.RowKit
def yb2 (l:List Int) (c:Int):List Int:=if c∈l then l else l++[c]
def Dit.chgK (d:Dit) (k:Nat):List Int:=(d.cs.take k).foldl yb2 []
theorem ziP {d:Dit} {k:Nat} {c:Int} (h:d.cs[k]?=some c):d.chgK (k+1)=yb2 (d.chgK k) c:=by
 unfold Dit.chgK;rw [jxf,h];simp
theorem zn8 (l:List Int) (c:Int):(yb2 l c).length≤l.length+1:=by
 unfold yb2
 split<;>simp
theorem znz (d:Dit):∀ k,(d.chgK k).length≤k:=by
 intro k;unfold Dit.chgK;have:∀ (l r:List Int),(l.foldl yb2 r).length≤r.length+l.length:=by
  intro l
  induction l with
  | nil=>intro r;simp
  | cons x l ih =>
   intro r;rw [List.foldl_cons];have h1:=ih (yb2 r x);have h2:=zn8 r x;simp only [jxl];omega
 have h:=this (d.cs.take k) [];rw [List.length_take] at h;simp only [List.length_nil] at h;omega
theorem zgY (d:Dit) (r:zaR) (w:World) (hd:DitSl w d r) (hO:d.Ok) :
  CallsIn FL 0 Tryd.prog 110 #[d.val r] w fun e w'=>∃ v,e=.returned v∧Nx w w'∧Sl w' v 1 ((d.chgK d.cs.length).map fun x=>[num x]):=by
 obtain⟨W,hW,n0,hWs,cW⟩:=boxed w d r;obtain⟨as',caps,es⟩:=hd.swaps.cases;obtain⟨al',capl,el⟩:=hd.loans.cases;rw [jqz] at es el;have hvs:=hd.swaps.nx n0;have hvl:=hd.loans.nx n0;rw [es] at hvs;rw [el] at hvl;have nWW:Nx W W:=jqy _ _;have c7:∀ x,Nx W x→x.cell? ⟨w.heap.size,7,none⟩=some (.slice as' d.swaps.length caps):=fun x hx=>(cW x hx 7 r.s rfl).trans (by rw [es]);have c8:∀ x,Nx W x→x.cell? ⟨w.heap.size,8,none⟩=some (.slice al' d.loans.length capl):=fun x hx=>(cW x hx 8 r.l rfl).trans (by rw [el]);have hs8:=hO.s8;have hl8:=hO.l8;have hcl' : d.cs.length=d.swaps.length+d.loans.length:=by simp [Dit.cs]
 clear cW es el hd;gi_enter Tryd.func110,Tryd.ntmps110;gi_wp2
 gi_loopw [3,4] (fun l i wr=>∃ k:Nat,k≤d.cs.length∧i=num k∧wr.ownsRow W.heap.size 3 1 l (d.chgK k).length ((d.chgK k).map num)∧Nx W wr) (fun _ i _=>d.cs.length-(intOf i).toNat)
 case atStart=>exact⟨0,jxa _,rfl,by simpa [Dit.chgK] using World.ownsRow_nil W W.heap.size 3 1,nWW⟩
 case round =>
  obtain⟨k,hk,rfl,hown,n2⟩:=hrel;have f7:=c7 _ n2;have f8:=c8 _ n2;obtain⟨va,vcap,rfl⟩:=(zb7 hown).cases;simp only [jqz] at hown ⊢;have hlen:=znz d k;by_cases hlt:k<d.cs.length
  ·by_cases hks:k<d.swaps.length
   ·obtain⟨b,off,ha,hbl,hcl⟩:=hvs.get (by simp;omega)
    subst ha;have hx:d.swaps[k]?=some d.swaps[k]:=jqx hks;have hxm:=(hO.sw _ (jxj hks)).1;generalize d.swaps[k]=x at hx hxm;obtain⟨c,x2,x3⟩:=x;obtain⟨g1,-,-⟩:=Sl.at3 hcl n2 hbl hx;have hcs:d.cs[k]?=some c:=by
     unfold Dit.cs;rw [jxp (by simpa using hks),List.getElem?_map,hx];rfl
    have HK:=jqr (ziP hcs);dsimp only at hxm;clear hcl hx hvs hvl c7 c8 hcs
    ·skip
     have hcb : -1000000000≤c∧c≤1000000000:=by omega
     gi_wp2;generalize wr=W9 at *
     gi_loopw [6,7] (fun b i wr'=>∃ j:Nat,j≤(d.chgK k).length∧i=num j∧b=.bool (((d.chgK k).take j).any fun x=>decide (x=c))∧wr'=W9) (fun _ i _=>(d.chgK k).length-(intOf i).toNat)
     case atStart=>exact⟨0,jxa _,rfl,rfl,rfl⟩
     case round =>
      obtain⟨j,hj,rfl,rfl,rfl⟩:=hrel;by_cases hjl:j<(d.chgK k).length
      ·obtain⟨g,cap',ev,hgb⟩:=zgR hown (by omega)
       simp only [Value.slice.injEq] at ev;obtain⟨rfl,-,rfl⟩:=ev;have hx:(d.chgK k)[j]?=some (d.chgK k)[j]:=jqx hjl;obtain⟨q1,-⟩:=zeP hown hx;have hany:((d.chgK k).take (j+1)).any (fun x=>decide (x=c))=(((d.chgK k).take j).any (fun x=>decide (x=c)) || decide ((d.chgK k)[j]=c)):=by
        rw [jxf,hx,List.any_append];simp
       generalize (d.chgK k)[j]=x at q1 hany;have HA:=jqr hany;have HO:=jqr hown;clear hx hany hown;generalize ((d.chgK k).take j).any (fun x=>decide (x=c))=b at HA ⊢
       cases b with
       | true =>
        gi_wp2;exact⟨⟨j+1,hjl,by simp,by rw [HA.out];rfl,trivial⟩,by simp [intOf];omega⟩
       | false =>
        gi_wp2;exact⟨⟨j+1,hjl,by simp,by rw [HA.out];by_cases e:x=c<;>simp [e],trivial⟩,by simp [intOf];omega⟩
      ·obtain rfl:j=(d.chgK k).length:=by omega
       rw [jxe];have hmem:((d.chgK k).any fun x=>decide (x=c))=decide (c∈d.chgK k):=by
        rw [Bool.eq_iff_iff];simp
       rw [hmem];by_cases hin:c∈d.chgK k
       ·have hk1:d.chgK (k+1)=d.chgK k:=by rw [HK.out];unfold yb2;rw [if_pos hin]
        have HR:Hid (wr.ownsRow W.heap.size 3 1 (.slice va (d.chgK k).length vcap) (d.chgK (k+1)).length ((d.chgK (k+1)).map num)):=by
         show World.ownsRow _ _ _ _ _ _ _;rw [hk1];exact hown
        rw [decide_eq_true hin];clear hown hmem hin hk1;gi_wp2;exact⟨⟨k+1,by omega,by simp,HR.out,n2⟩,by simp [intOf];omega⟩
       ·have hk1:d.chgK (k+1)=d.chgK k++[c]:=by rw [HK.out];unfold yb2;rw [if_neg hin]
        have hownA:=zdY hown (.cells #[num c] 3);have hnews:∀ (j:Nat) (x:Int),[c][j]?=some x→(wr.alloc (.cells #[num c] 3)).cell? ((⟨wr.heap.size,0,none⟩:Addr).add j)=some (num x):=by
         intro j x hj
         cases j with
         | zero=>simp at hj;subst hj;exact zaw wr _ _ _ _ rfl
         | succ j=>simp at hj
        have nA:Nx W (wr.alloc (.cells #[num c] 3)):=n2.alloc (by exact n2.size) _;have hge:=zlN hown;have hsz:=n2.size;have HN:=jqr hnews;have HGE:=jqr hge;have HK1:=jqr hk1;rw [decide_eq_false hin];clear hown hmem hin hk1 hnews hge
        gi_wp2_with (first | (gi_at_builtin;refine ze0 rfl _ _ rfl W.heap.size _ (d.chgK k) rfl hownA ⟨wr.heap.size,0,none⟩ 1 1 [c] rfl rfl HN.out (by simp;omega) (by simp;omega) ?_;intro v' w' r1 r2 r3 r4) | gi_in)
        exact⟨⟨k+1,by omega,by simp,by rw [HK1.out];exact r1,nA.grown r2 (fun q e=>HGE.out q e)⟩,by simp [intOf];omega⟩
   ·obtain⟨b,off,ha,hbl,hcl⟩:=hvl.get (by simp;omega)
    subst ha;obtain⟨m,rfl⟩:∃ m,k=d.swaps.length+m:=⟨k-d.swaps.length,by omega⟩;have hml:m<d.loans.length:=by omega
    have hx:d.loans[m]?=some d.loans[m]:=jqx hml;have hxm:=(hO.lo _ (jxj hml)).1;generalize d.loans[m]=x at hx hxm;obtain⟨c,x2,x3⟩:=x;obtain⟨g1,-,-⟩:=Sl.at3 hcl n2 hbl hx;have hcs:d.cs[d.swaps.length+m]?=some c:=by
     unfold Dit.cs;rw [jxq (by simp),List.getElem?_map];simp [hx]
    have HK:=jqr (ziP hcs);dsimp only at hxm;have em:((d.swaps.length+m:Nat):Int)-(d.swaps.length:Int)=(m:Int):=by omega
    have hmod:IntKind.wrap .i64 (((d.swaps.length+m:Nat):Int)-(d.swaps.length:Int))=(m:Int):=by rw [em];exact IntWalk.i64_in _ (by omega)
    generalize hkk:d.swaps.length+m=k at *;clear hcl hx hvs hvl c7 c8 hcs
    ·skip
     have hcb : -1000000000≤c∧c≤1000000000:=by omega
     gi_wp2;generalize wr=W9 at *
     gi_loopw [6,7] (fun b i wr'=>∃ j:Nat,j≤(d.chgK k).length∧i=num j∧b=.bool (((d.chgK k).take j).any fun x=>decide (x=c))∧wr'=W9) (fun _ i _=>(d.chgK k).length-(intOf i).toNat)
     case atStart=>exact⟨0,jxa _,rfl,rfl,rfl⟩
     case round =>
      obtain⟨j,hj,rfl,rfl,rfl⟩:=hrel;by_cases hjl:j<(d.chgK k).length
      ·obtain⟨g,cap',ev,hgb⟩:=zgR hown (by omega)
       simp only [Value.slice.injEq] at ev;obtain⟨rfl,-,rfl⟩:=ev;have hx:(d.chgK k)[j]?=some (d.chgK k)[j]:=jqx hjl;obtain⟨q1,-⟩:=zeP hown hx;have hany:((d.chgK k).take (j+1)).any (fun x=>decide (x=c))=(((d.chgK k).take j).any (fun x=>decide (x=c)) || decide ((d.chgK k)[j]=c)):=by
        rw [jxf,hx,List.any_append];simp
       generalize (d.chgK k)[j]=x at q1 hany;have HA:=jqr hany;have HO:=jqr hown;clear hx hany hown;generalize ((d.chgK k).take j).any (fun x=>decide (x=c))=b at HA ⊢
       cases b with
       | true =>
        gi_wp2;exact⟨⟨j+1,hjl,by simp,by rw [HA.out];rfl,trivial⟩,by simp [intOf];omega⟩
       | false =>
        gi_wp2;exact⟨⟨j+1,hjl,by simp,by rw [HA.out];by_cases e:x=c<;>simp [e],trivial⟩,by simp [intOf];omega⟩
      ·obtain rfl:j=(d.chgK k).length:=by omega
       rw [jxe];have hmem:((d.chgK k).any fun x=>decide (x=c))=decide (c∈d.chgK k):=by
        rw [Bool.eq_iff_iff];simp
       rw [hmem];by_cases hin:c∈d.chgK k
       ·have hk1:d.chgK (k+1)=d.chgK k:=by rw [HK.out];unfold yb2;rw [if_pos hin]
        have HR:Hid (wr.ownsRow W.heap.size 3 1 (.slice va (d.chgK k).length vcap) (d.chgK (k+1)).length ((d.chgK (k+1)).map num)):=by
         show World.ownsRow _ _ _ _ _ _ _;rw [hk1];exact hown
        rw [decide_eq_true hin];clear hown hmem hin hk1;gi_wp2;exact⟨⟨k+1,by omega,by simp,HR.out,n2⟩,by simp [intOf];omega⟩
       ·have hk1:d.chgK (k+1)=d.chgK k++[c]:=by rw [HK.out];unfold yb2;rw [if_neg hin]
        have hownA:=zdY hown (.cells #[num c] 3);have hnews:∀ (j:Nat) (x:Int),[c][j]?=some x→(wr.alloc (.cells #[num c] 3)).cell? ((⟨wr.heap.size,0,none⟩:Addr).add j)=some (num x):=by
         intro j x hj
         cases j with
         | zero=>simp at hj;subst hj;exact zaw wr _ _ _ _ rfl
         | succ j=>simp at hj
        have nA:Nx W (wr.alloc (.cells #[num c] 3)):=n2.alloc (by exact n2.size) _;have hge:=zlN hown;have hsz:=n2.size;have HN:=jqr hnews;have HGE:=jqr hge;have HK1:=jqr hk1;rw [decide_eq_false hin];clear hown hmem hin hk1 hnews hge
        gi_wp2_with (first | (gi_at_builtin;refine ze0 rfl _ _ rfl W.heap.size _ (d.chgK k) rfl hownA ⟨wr.heap.size,0,none⟩ 1 1 [c] rfl rfl HN.out (by simp;omega) (by simp;omega) ?_;intro v' w' r1 r2 r3 r4) | gi_in)
        exact⟨⟨k+1,by omega,by simp,by rw [HK1.out];exact r1,nA.grown r2 (fun q e=>HGE.out q e)⟩,by simp [intOf];omega⟩
  ·obtain rfl:k=d.cs.length:=by omega
   have HR:=jqr (zb7 hown);clear hown hvs hvl c7 c8;gi_wp2;go_ret;exact⟨_,rfl,Nx.trans n0 n2,HR.out⟩
end Go.Proofs.YtolholkjeehamaaDoor

namespace Go.Proofs.YtolholkjeehamaaDoor
open Go.RowKit
theorem zjw (d:Dit) (r:zaR) (v:Value) (l:List Int) (holder hours:Int) (w:World) (hd:DitSl w d r) (hO:d.Ok) (hv:Sl w v 1 (l.map fun x=>[num x])) (hl:l.length=d.turns.length) (hh:0≤hours∧hours≤1000000000000000) :
  CallsIn FL 0 Tryd.prog 109 #[d.val r,v,num holder,num hours] w fun e w'=>e=.returned (num (zaD d.ends l holder hours d.turns.length))∧Nx w w':=by
 obtain⟨al,cl,rfl⟩:=hv.cases;obtain⟨W,hW,n0,hWs,cW⟩:=boxed w d r;obtain⟨at',capt,et⟩:=hd.turns.cases;rw [jqz] at et hv ⊢;have hv1:=hd.turns.nx n0;rw [et] at hv1;have hvW:=hv.nx n0;have nWW:Nx W W:=jqy _ _;have c1:∀ x,Nx W x→x.cell? ⟨w.heap.size,1,none⟩=some (.slice at' d.turns.length capt):=fun x hx=>(cW x hx 1 r.t rfl).trans (by rw [et]);have hth:=fun x hx=>(hO.th x hx).2;have hbd:=zd1 hth;have ht12:=hO.t12;have hpb:=fun k hk=>zbA (l:=l) (holder:=holder) (hours:=hours) hO.cyc.bd k hk;have hP:=fun (k:Nat) (hk:k<d.turns.length)=>(show zaD d.ends l holder hours (k+1)=zaD d.ends l holder hours k+if l[k]?=some holder then max 0 (min hours (sumTo d.turns (k+1))-sumTo d.turns k) else 0 by
  have h1:zcV d.ends k=sumTo d.turns k:=zgc (by omega);have h2:d.ends k=sumTo d.turns (k+1):=by unfold Dit.ends zcf;rw [if_pos hk]
  rw [← h1,← h2];rfl)
 have hSt:=fun (k:Nat) (hk:k<d.turns.length)=>(show ∃ t,d.turns[k]?=some t∧sumTo d.turns (k+1)=sumTo d.turns k+t.2∧1≤t.2∧t.2≤100 from ⟨_,jqx hk,zls (jqx hk),hth _ (jxj hk)⟩);clear cW et hO hd hth;gi_enter Tryd.func109,Tryd.ntmps109;gi_wp2
 gi_loopw [3,9,10] (fun h n i wr=>∃ k:Nat,k≤l.length∧i=num k∧n=num (zaD d.ends l holder hours k)∧h=num (hours-min hours (sumTo d.turns k))∧Nx W wr) (fun _ _ i _=>l.length-(intOf i).toNat)
 case atStart=>exact⟨0,jxa _,rfl,rfl,by rw [show sumTo d.turns 0=0 from rfl,show hours-min hours 0=hours by omega],nWW⟩
 case round =>
  obtain⟨k,hk,rfl,rfl,rfl,n2⟩:=hrel;have f1:=c1 _ n2;by_cases hlt:k<l.length
  ·have hlt1:k<d.turns.length:=by omega
   obtain⟨b,off,ha,hbl,hcl⟩:=hv1.get (by simp;omega);subst ha;obtain⟨b2,off2,ha2,hbl2,hcl2⟩:=hvW.get (by simp;omega);subst ha2;obtain⟨⟨t1,t2⟩,hx,hs1,ht2⟩:=hSt k hlt1;dsimp only at hs1 ht2;obtain⟨g1,g2⟩:=Sl.at2 hcl n2 hbl hx;have hy:l[k]?=some l[k]:=jqx hlt;have hPk:=hP k hlt1;have b0:=hpb k (by omega);have b1:=hpb (k+1) (by omega);have s0:=hbd k (by omega);rw [hy] at hPk;generalize l[k]=y at hy hPk;have q1:=(n2.cell (p:=⟨b2,off2+k,none⟩) (by exact hbl2)).trans (Sl.one hcl2 hy);have HP:=jqr hPk;have HS:=jqr hs1;clear hcl hcl2 hx hy hP hSt hpb hbd hPk hs1 c1 hv hvW hv1;generalize zaD d.ends l holder hours k=p0 at *;generalize sumTo d.turns k=s at *;by_cases hyh:y=holder
   ·subst hyh
    have hp:=jqr (show zaD d.ends l y hours (k+1)=p0+(min hours (sumTo d.turns (k+1))-min hours s) by rw [HP.out,if_pos rfl,HS.out];omega);gi_wp2
    all_goals (
     have hp:=hp.out;have hs:=HS.out;exact⟨⟨k+1,hlt,by simp,by congr 1;omega,by congr 1;omega,n2⟩,by simp [intOf];omega⟩)
   ·have hp:=jqr (show zaD d.ends l holder hours (k+1)=p0 by rw [HP.out,if_neg (by simpa using hyh)];omega)
    have hb:(y == holder)=false:=by simpa using hyh
    gi_wp2
    all_goals (
     have hp:=hp.out;have hs:=HS.out;exact⟨⟨k+1,hlt,by simp,by congr 1;omega,by congr 1;omega,n2⟩,by simp [intOf];omega⟩)
  ·obtain rfl:k=l.length:=by omega
   clear hv hvW hv1 hP hSt hpb hbd c1;gi_wp2;go_ret;exact⟨by rw [← hl];rfl,Nx.trans n0 n2⟩
end Go.Proofs.YtolholkjeehamaaDoor

namespace Go.Proofs.YtolholkjeehamaaDoor
open Go.RowKit
theorem zpx (a b:Int):(if a<b then b-a else 0)=max 0 (b-a):=by omega
theorem zh2 (f:Int→Int):∀ (l r:List Int),sumS f (l++r)=sumS f l+sumS f r
 | [],r=>by simp [sumS]
 | x :: l,r=>by
  have:=zh2 f l r;simp only [jxn,sumS];omega
theorem zkw (f:Int→Int):∀ l:List Int,sumS f l.reverse=sumS f l
 | []=>rfl
 | x :: l=>by
  rw [List.reverse_cons,zh2,zkw f l];simp only [sumS];omega
theorem zhU (d:Dit):d.chgK d.cs.length=d.keys.reverse:=by
 have h1:∀ (cs:List Int) (ks:List Int),cs.foldl yb2 ks.reverse=(cs.foldl keyC ks).reverse:=by
  intro cs
  induction cs with
  | nil=>intro ks;rfl
  | cons c cs ih =>
   intro ks;rw [List.foldl_cons,List.foldl_cons,← ih];congr 1;unfold yb2 keyC;by_cases h:c∈ks
   ·rw [if_pos (by simpa using h),if_pos h]
   ·rw [if_neg (by simpa using h),if_neg h,List.reverse_cons]
 have h2:∀ (l:List (Int×Int×Int)) (ks:List Int),keysOf ks l=(l.map (·.1)).foldl keyC ks:=by
  intro l ks;unfold keysOf;rw [List.foldl_map]
 unfold Dit.chgK Dit.keys;rw [jxe,h2,h2,← List.foldl_append];exact h1 _ []
theorem zo8 (d:Dit) (f:Int→Int):sumS f (d.chgK d.cs.length)=sumS f d.keys:=by rw [zhU,zkw]
theorem zpY {d:Dit} (hO:d.Ok) (holder hours c:Int):zaD d.ends (d.oth c) holder (min d.cyc (max 0 (hours-c * d.cyc))) d.turns.length-zaD d.ends d.us holder (min d.cyc (max 0 (hours-c * d.cyc))) d.turns.length=addS d.ends d.cyc d.us d.oth holder hours c:=by
 have hT:=hO.cyc_pos;have hl:d.us.length=d.turns.length:=by simp [Dit.us]
 unfold addS;rw [hl];by_cases h:hours-c * d.cyc > 0
 ·rw [if_pos (by omega),show max 0 (hours-c * d.cyc)=hours-c * d.cyc by omega]
 ·rw [if_neg (by omega),zd8 hO (by omega) _ (jxc _),zd8 hO (by omega) _ (jxc _)];rfl
theorem zjt (d:Dit) (r:zaR) (holder hours:Int) (w:World) (hd:DitSl w d r) (hO:d.Ok) (hh:0≤hours∧hours≤100000000000000) :
  CallsIn FL 0 Tryd.prog 91 #[d.val r,num holder,num hours] w fun e w'=>e=.returned (num (d.had holder hours))∧Nx w w':=by
 obtain⟨W,hW,n0,hWs,cW⟩:=boxed w d r;have nWW:Nx W W:=jqy _ _;have hdW:=hd.nx n0;have hul:d.us.length=d.turns.length:=by simp [Dit.us]
 have hT:=hO.cyc.size;have hcp:=hO.cyc_pos;have hk44:=zjH d r W hdW hO;have k102:=fun (c:Int) (x:World) (hx:Nx W x)=>zgW d r c x (hdW.nx hx) hO;have k110:=fun (x:World) (hx:Nx W x)=>zgY d r x (hdW.nx hx) hO;have k109:=fun (v:Value) (l:List Int) (h:Int) (x:World) (hx:Nx W x) (hv:Sl x v 1 (l.map fun x=>[num x])) (hl:l.length=d.turns.length) (hh:0≤h∧h≤1000000000000000)=>zjw d r v l holder h x (hdW.nx hx) hO hv hl hh;have hothl:∀ c,(d.oth c).length=d.turns.length:=fun c=>by unfold Dit.oth;rw [zfP,zd6];exact hul
 have huo:d.oth (-1)=d.us:=zoI (zkx hO);have hpb:=fun (l:List Int) (h:Int)=>zbA (l:=l) (holder:=holder) (hours:=h) hO.cyc.bd d.turns.length hO.cyc.few.2;have hfew:=hO.chg.few;have hcs:∀ c∈d.chgK d.cs.length,0≤c∧c≤999999999:=fun c hc=>hO.chg.bd c (by rw [zhU] at hc;simpa using hc);have hcl:(d.chgK d.cs.length).length≤16:=by rw [zhU,List.length_reverse];exact hfew
 have hsum:=zo8 d (addS d.ends d.cyc d.us d.oth holder hours);have hadde:=zpY hO holder hours;have hab:=fun c=>zmr (ends:=d.ends) (long:=d.cyc) (usual:=d.us) (oth:=d.oth) (holder:=holder) (hours:=hours) hO.cyc.bd (by rw [hul];exact hO.cyc.few.2) c;have ht12:=hO.t12;have hHad:d.had holder hours=hours.tdiv d.cyc * zaD d.ends d.us holder d.cyc d.turns.length+zaD d.ends d.us holder (hours.tmod d.cyc) d.turns.length+sumS (addS d.ends d.cyc d.us d.oth holder hours) (d.chgK d.cs.length):=by
  rw [hsum];unfold Dit.had hadS;rw [hul]
 generalize hLd:d.chgK d.cs.length=Ld at *;generalize hAd:addS d.ends d.cyc d.us d.oth holder hours=ad at *;obtain⟨c0,c1,c2,c3,c4,c5,c6,c7,c8,c9,c10,c11,c12,c13⟩:=zaS (cW _ nWW);have HCW:=jqr cW;have HKK:=jqr k109;have HK2:=jqr k102;have HK0:=jqr k110;have HPB:=jqr hpb;have HCS:=jqr hcs;have HHad:=jqr hHad;have HAE:=jqr hadde;have HAB:=jqr hab;have HUO:=jqr huo;have HOL:=jqr hothl;have HLD:=jqr hLd;have HAD:=jqr hAd;clear cW k109 k102 k110 hpb hcs hHad hadde hab huo hothl hsum hO hd hdW hLd hAd;gi_enter Tryd.func91,Tryd.ntmps91;gi_upto_region 3 with (first
  | (gi_at_call 44;refine jqs hk44 ?_;rintro e w1 ⟨rfl,n1⟩;obtain⟨c0,c1,c2,c3,c4,c5,c6,c7,c8,c9,c10,c11,c12,c13⟩:=zaS (HCW.out _ n1))
  | (gi_at_call 102;refine jqs (HK2.out (-1) _ (by assumption)) ?_;rintro e Wu ⟨ug,ucap,rfl,n2,husl⟩)
  | gi_in)
 rw [HUO.out] at husl;have nu:Nx W Wu:=Nx.trans n1 n2;clear n1 n2 c0 c1 c2 c3 c4 c5 c6 c7 c8 c9 c10 c11 c12 c13;have cWu:=fun (x:World) (hx:Nx Wu x)=>HCW.out x (Nx.trans nu hx);have hmodb:0≤hours.tmod d.cyc∧hours.tmod d.cyc<d.cyc:=by
  rw [Int.tmod_eq_emod_of_nonneg hh.1];exact⟨Int.emod_nonneg _ (by omega),Int.emod_lt_of_pos _ hcp⟩
 have hq : -9223372036854775808≤hours.tdiv d.cyc∧hours.tdiv d.cyc≤9223372036854775807:=by
  have:=zcg hours d.cyc;omega
 have hr : -9223372036854775808≤hours.tmod d.cyc∧hours.tmod d.cyc≤9223372036854775807:=by omega
 have kL:=fun (x:World) (hx:Nx Wu x)=>(HKK.out (.slice (some ⟨ug,0,none⟩) d.turns.length ucap) d.us d.cyc x (Nx.trans nu hx) (husl.nx hx) hul (by omega)).mono fun e w' ⟨p,q⟩=>(⟨p,Nx.trans hx q⟩:_∧Nx Wu w');have kR:=fun (x:World) (hx:Nx Wu x)=>(HKK.out (.slice (some ⟨ug,0,none⟩) d.turns.length ucap) d.us (hours.tmod d.cyc) x (Nx.trans nu hx) (husl.nx hx) hul (by omega)).mono fun e w' ⟨p,q⟩=>(⟨p,Nx.trans hx q⟩:_∧Nx Wu w');have bL:=HPB.out d.us d.cyc;have bR:=HPB.out d.us (hours.tmod d.cyc);have hH:=HHad.out;generalize zaD d.ends d.us holder d.cyc d.turns.length=PL at kL bL hH;generalize zaD d.ends d.us holder (hours.tmod d.cyc) d.turns.length=PR at kR bR hH;have hmulb:(hours.tdiv d.cyc * PL).natAbs≤100000000000000 * 14400:=zdK (jxm (zcg _ _) (by omega)) (by omega);have hmul : -9223372036854775808≤hours.tdiv d.cyc * PL∧hours.tdiv d.cyc * PL≤9223372036854775807:=by omega
 have hadd : -9223372036854775808≤hours.tdiv d.cyc * PL+PR∧hours.tdiv d.cyc * PL+PR≤9223372036854775807:=by omega
 have nd3:Nx Wu Wu.drew:=Below.drew (jqy _ _);refine zbg (fun x=>Nx Wu x) (by kernel_rfl) ?_;change wpAnyC _ _ _ _ _ _ _ 18 #[false,false,false,false,false,false,false,false,false,false,false,false,false,false,false,false,false,false] _ _;refine jtk (i:=0) (oi:=⟨some 17,.move (.tmp 2),_,_,_,none⟩) (v:=num hours) rfl (zaN rfl) ?_;simp only [jqt,jqu,jqv,jqw];refine jtk (i:=1) (oi:=⟨some 18,.move (.tmp 7),_,_,_,none⟩) (v:=num d.cyc) rfl (zaN rfl) ?_;simp only [jqt,jqu,jqv,jqw];refine jtk (i:=2) (oi:=⟨some 19,.binOp .quo 3 (.tmp 17) (.tmp 18) 3,_,_,_,none⟩) (v:=num (hours.tdiv d.cyc)) rfl (zpI rfl rfl hcp hq) ?_;simp only [jqt,jqu,jqv,jqw];refine jtk (i:=3) (oi:=⟨some 20,.load 31 (.tmp 3),_,_,_,none⟩) (v:=d.val r) rfl (zc8 rfl (fun x hx=>cWu x hx)) ?_;simp only [jqt,jqu,jqv,jqw];refine jtk (i:=4) (oi:=⟨some 21,.move (.tmp 8),_,_,_,none⟩) (v:=.slice (some ⟨ug,0,none⟩) d.turns.length ucap) rfl (zaN rfl) ?_;simp only [jqt,jqu,jqv,jqw];refine jtk (i:=5) (oi:=⟨some 22,.move (.tmp 1),_,_,_,none⟩) (v:=num holder) rfl (zaN rfl) ?_;simp only [jqt,jqu,jqv,jqw];refine jtk (i:=6) (oi:=⟨some 23,.move (.tmp 7),_,_,_,none⟩) (v:=num d.cyc) rfl (zaN rfl) ?_;simp only [jqt,jqu,jqv,jqw];refine jtk (i:=9) (oi:=⟨some 26,.load 31 (.tmp 3),_,_,_,none⟩) (v:=d.val r) rfl (zc8 rfl (fun x hx=>cWu x hx)) ?_;simp only [jqt,jqu,jqv,jqw];refine jtk (i:=10) (oi:=⟨some 27,.move (.tmp 8),_,_,_,none⟩) (v:=.slice (some ⟨ug,0,none⟩) d.turns.length ucap) rfl (zaN rfl) ?_
 simp only [jqt,jqu,jqv,jqw];refine jtk (i:=11) (oi:=⟨some 28,.move (.tmp 1),_,_,_,none⟩) (v:=num holder) rfl (zaN rfl) ?_;simp only [jqt,jqu,jqv,jqw];refine jtk (i:=12) (oi:=⟨some 29,.move (.tmp 2),_,_,_,none⟩) (v:=num hours) rfl (zaN rfl) ?_;simp only [jqt,jqu,jqv,jqw];refine jtk (i:=13) (oi:=⟨some 30,.move (.tmp 7),_,_,_,none⟩) (v:=num d.cyc) rfl (zaN rfl) ?_;simp only [jqt,jqu,jqv,jqw];refine jtk (i:=14) (oi:=⟨some 31,.binOp .rem 3 (.tmp 29) (.tmp 30) 3,_,_,_,none⟩) (v:=num (hours.tmod d.cyc)) rfl (zpP rfl rfl hcp hr) ?_;simp only [jqt,jqu,jqv,jqw];refine zau (i:=7) (o:=⟨some 24,.call { callee:=.value (.func 109),args:=#[.tmp 20,.tmp 21,.tmp 22,.tmp 23],argTypes:=#[31,64,3,3] },_,_,_,none⟩) (by kernel_rfl) rfl rfl (nd3) ?_;intro K hK;go_simp;refine jqs (kL _ (nd3)) ?_;rintro e v7 ⟨rfl,m7⟩;refine hK _ _ ?_;refine jtk (i:=8) (oi:=⟨some 25,.binOp .mul 3 (.tmp 19) (.tmp 24) 3,_,_,_,none⟩) (v:=num ((hours.tdiv d.cyc) * PL)) rfl (zqm rfl rfl (hmul)) ?_;simp only [jqt,jqu,jqv,jqw];refine zau (i:=15) (o:=⟨some 32,.call { callee:=.value (.func 109),args:=#[.tmp 26,.tmp 27,.tmp 28,.tmp 31],argTypes:=#[31,64,3,3] },_,_,_,none⟩) (by kernel_rfl) rfl rfl (m7) ?_;intro K hK;go_simp;refine jqs (kR _ (m7)) ?_;rintro e v15 ⟨rfl,m15⟩;refine hK _ _ ?_;refine jtk (i:=16) (oi:=⟨some 33,.binOp .add 3 (.tmp 25) (.tmp 32) 3,_,_,_,none⟩) (v:=num (((hours.tdiv d.cyc) * PL)+PR)) rfl (zkA rfl rfl (hadd)) ?_
 simp only [jqt,jqu,jqv,jqw];refine jtk (i:=17) (oi:=⟨some 9,.assign (.tmp 33),_,_,_,none⟩) (v:=num (((hours.tdiv d.cyc) * PL)+PR)) rfl (zdN rfl) ?_;simp only [jqt,jqu,jqv,jqw];refine zbk (by kernel_rfl) (m15) ?_;clear kL kR;have hbase : -1500000000000000000≤hours.tdiv d.cyc * PL+PR∧hours.tdiv d.cyc * PL+PR≤1500000000000000000:=by omega
 generalize hours.tdiv d.cyc * PL+PR=base at hbase hH ⊢;have HF:=jqr hH;have hsb:∀ j,j≤Ld.length→(sumS ad (Ld.take j)).natAbs≤14400 * 16:=fun j hj=>by
  have h1:=zf5 HAB.out (Ld.take j);rw [List.length_take] at h1;have:14400 * (min j Ld.length)≤14400 * 16:=Nat.mul_le_mul_left _ (by omega);omega
 have HSB:=jqr hsb;clear hH hsb hmul hadd hmulb hq hr;obtain⟨d0,d1,d2,d3,d4,d5,d6,d7,d8,d9,d10,d11,d12,d13⟩:=zaS (cWu _ m15);have kCh:=HK0.out _ (Nx.trans nu m15);have HCU:=jqr cWu;clear cWu
 gi_wp2_with (first
  | (gi_at_call 110;refine jqs kCh ?_;rintro e Wl ⟨lv,rfl,nl,hlv⟩;obtain⟨la,lcap,rfl⟩:=hlv.cases;simp only [jqz] at hlv ⊢)
  | gi_in)
 have nWl:=Nx.trans m15 nl;clear d0 d1 d2 d3 d4 d5 d6 d7 d8 d9 d10 d11 d12 d13 kCh nl
 gi_loopw [9,11] (fun n i wr=>∃ j:Nat,j≤Ld.length∧i=num j∧n=num (base+sumS ad (Ld.take j))∧Nx Wl wr) (fun _ i _=>Ld.length-(intOf i).toNat)
 case atStart=>exact⟨0,jxa _,rfl,by simp [sumS],jqy _ _⟩
 case round =>
  obtain⟨j,hj,rfl,rfl,n4⟩:=hrel;by_cases hjl:j<Ld.length
  ·obtain⟨lb,lo,ha,hlb0,hcl2⟩:=hlv.get (by simp;omega)
   subst ha;have hx:Ld[j]?=some Ld[j]:=jqx hjl;have hcb:=HCS.out _ (jxj hjl);generalize Ld[j]=c at hx hcb;have q0:=Sl.one hcl2 hx;have hlb:lb<wr.heap.size:=Nat.lt_of_lt_of_le hlb0 n4.size;have q1:wr.cell? ⟨lb,lo+j,none⟩=some (num c):=(n4.cell (p:=⟨lb,lo+j,none⟩) (by exact hlb0)).trans q0;have hst:sumS ad (Ld.take (j+1))=sumS ad (Ld.take j)+ad c:=by
    rw [jxf,hx,zh2];simp [sumS]
   have hb1:=HSB.out j hj;have hb2:=HSB.out (j+1) hjl;have hpr:(c * d.cyc).natAbs≤1000000000 * 1200:=zdK (by omega) (by omega);have hae:=HAE.out c;have HST:=jqr hst;have HX:=jqr hx;have HC2:=jqr hcl2;have HLV:=jqr hlv;clear hst hx hcl2 hlv;generalize hLl:Ld.length=L at *;generalize hcc:c * d.cyc=cc at *;gi_upto_region 9 with fail
   simp only [zpx,zio];have hK0:0≤min d.cyc (max 0 (hours-cc))∧min d.cyc (max 0 (hours-cc))≤1200:=by omega
   have n9:Nx Wu wr:=Nx.trans nWl n4;generalize wr=W9 at *;have cW9:=fun (x:World) (hx:Nx W9 x)=>HCU.out x (Nx.trans n9 hx);have kH:=fun (x:World) (hx:Nx W9 x)=>(HK2.out c x (Nx.trans nu (Nx.trans n9 hx))).mono fun e w' ⟨g,cap,p,q,s⟩=>(⟨g,cap,p,Nx.trans hx q,s⟩:∃ g cap,e=Ending.returned (.slice (some ⟨g,0,none⟩) d.turns.length cap)∧Nx W9 w'∧Sl w' (.slice (some ⟨g,0,none⟩) d.turns.length cap) 1 ((d.oth c).map fun x=>[num x]));have kO:=fun (x:World) (g cap:Nat) (hx:Nx W9 x) (hsl:Sl x (.slice (some ⟨g,0,none⟩) d.turns.length cap) 1 ((d.oth c).map fun x=>[num x]))=>(HKK.out _ (d.oth c) (min d.cyc (max 0 (hours-cc))) x (Nx.trans nu (Nx.trans n9 hx)) hsl (HOL.out c) (by omega)).mono fun e w' ⟨p,q⟩=>(⟨p,Nx.trans hx q⟩:_∧Nx W9 w');have kU:=fun (x:World) (hx:Nx W9 x)=>(HKK.out (.slice (some ⟨ug,0,none⟩) d.turns.length ucap) d.us (min d.cyc (max 0 (hours-cc))) x (Nx.trans nu (Nx.trans n9 hx)) (husl.nx (Nx.trans n9 hx)) hul (by omega)).mono fun e w' ⟨p,q⟩=>(⟨p,Nx.trans hx q⟩:_∧Nx W9 w');have bO:=HPB.out (d.oth c) (min d.cyc (max 0 (hours-cc)));have bU:=HPB.out d.us (min d.cyc (max 0 (hours-cc)));generalize min d.cyc (max 0 (hours-cc))=K at *;generalize zaD d.ends (d.oth c) holder K d.turns.length=PO at kO bO hae;generalize zaD d.ends d.us holder K d.turns.length=PU at kU bU hae;have hz : -2000000000000000000≤base+sumS ad (Ld.take j)∧base+sumS ad (Ld.take j)≤2000000000000000000:=by omega
   have hfin:base+sumS ad (Ld.take (j+1))=base+sumS ad (Ld.take j)+PO-PU:=by rw [HST.out,← hae];omega
   generalize base+sumS ad (Ld.take j)=z at hz hfin ⊢;have nd9:Nx W9 W9.drew:=Below.drew (jqy _ _);refine zbg (fun x=>Nx W9 x) (by kernel_rfl) ?_;change wpAnyC _ _ _ _ _ _ _ 19 #[false,false,false,false,false,false,false,false,false,false,false,false,false,false,false,false,false,false,false] _ _;refine jtk (i:=0) (oi:=⟨some 53,.move (.tmp 9),_,_,_,none⟩) (v:=num z) rfl (zaN rfl) ?_;simp only [jqt,jqu,jqv,jqw];refine jtk (i:=1) (oi:=⟨some 54,.load 31 (.tmp 3),_,_,_,none⟩) (v:=d.val r) rfl (zc8 rfl (fun x hx=>cW9 x hx)) ?_;simp only [jqt,jqu,jqv,jqw];refine jtk (i:=2) (oi:=⟨some 55,.load 31 (.tmp 3),_,_,_,none⟩) (v:=d.val r) rfl (zc8 rfl (fun x hx=>cW9 x hx)) ?_;simp only [jqt,jqu,jqv,jqw];refine jtk (i:=3) (oi:=⟨some 56,.move (.tmp 10),_,_,_,none⟩) (v:=.slice (some ⟨lb,lo,none⟩) L lcap) rfl (zaN rfl) ?_;simp only [jqt,jqu,jqv,jqw];refine jtk (i:=4) (oi:=⟨some 57,.move (.tmp 11),_,_,_,none⟩) (v:=num j) rfl (zaN rfl) ?_;simp only [jqt,jqu,jqv,jqw];refine jtk (i:=5) (oi:=⟨some 58,.indexAddr 64 (.tmp 56) (.tmp 57),_,_,_,none⟩) (v:=.pointer (some ⟨lb,lo+j,none⟩)) rfl (zkL rfl rfl (hjl)) ?_;simp only [jqt,jqu,jqv,jqw];refine jtk (i:=6) (oi:=⟨some 59,.load 3 (.tmp 58),_,_,_,none⟩) (v:=num c) rfl (zdq rfl (fun x hx=>(hx.cell (p:=⟨lb,lo+j,none⟩) (by exact hlb)).trans q1)) ?_;simp only [jqt,jqu,jqv,jqw];refine jtk (i:=8) (oi:=⟨some 61,.move (.tmp 1),_,_,_,none⟩) (v:=num holder) rfl (zaN rfl) ?_
   simp only [jqt,jqu,jqv,jqw];refine jtk (i:=9) (oi:=⟨some 62,.move (.tmp 12),_,_,_,none⟩) (v:=num K) rfl (zaN rfl) ?_;simp only [jqt,jqu,jqv,jqw];refine jtk (i:=12) (oi:=⟨some 65,.load 31 (.tmp 3),_,_,_,none⟩) (v:=d.val r) rfl (zc8 rfl (fun x hx=>cW9 x hx)) ?_;simp only [jqt,jqu,jqv,jqw];refine jtk (i:=13) (oi:=⟨some 66,.move (.tmp 8),_,_,_,none⟩) (v:=.slice (some ⟨ug,0,none⟩) d.turns.length ucap) rfl (zaN rfl) ?_;simp only [jqt,jqu,jqv,jqw];refine jtk (i:=14) (oi:=⟨some 67,.move (.tmp 1),_,_,_,none⟩) (v:=num holder) rfl (zaN rfl) ?_;simp only [jqt,jqu,jqv,jqw];refine jtk (i:=15) (oi:=⟨some 68,.move (.tmp 12),_,_,_,none⟩) (v:=num K) rfl (zaN rfl) ?_;simp only [jqt,jqu,jqv,jqw];refine zau (i:=7) (o:=⟨some 60,.call { callee:=.value (.func 102),args:=#[.tmp 55,.tmp 59],argTypes:=#[31,3] },_,_,_,none⟩) (by kernel_rfl) rfl rfl (nd9) ?_;intro K hK;go_simp;refine jqs (kH _ (nd9)) ?_;rintro e v7 ⟨g7,cap7,rfl,m7,hs7⟩;refine hK _ _ ?_;refine zau (i:=10) (o:=⟨some 63,.call { callee:=.value (.func 109),args:=#[.tmp 54,.tmp 60,.tmp 61,.tmp 62],argTypes:=#[31,64,3,3] },_,_,_,none⟩) (by kernel_rfl) rfl rfl (m7) ?_;intro K hK;go_simp;refine jqs (kO _ g7 cap7 (m7) hs7) ?_;rintro e v10 ⟨rfl,m10⟩;refine hK _ _ ?_;refine jtk (i:=11) (oi:=⟨some 64,.binOp .add 3 (.tmp 53) (.tmp 63) 3,_,_,_,none⟩) (v:=num (z+PO)) rfl (zkA rfl rfl (by omega)) ?_;simp only [jqt,jqu,jqv,jqw];refine zau (i:=16) (o:=⟨some 69,.call { callee:=.value (.func 109),args:=#[.tmp 65,.tmp 66,.tmp 67,.tmp 68],argTypes:=#[31,64,3,3] },_,_,_,none⟩) (by kernel_rfl) rfl rfl (m10) ?_
   intro K hK;go_simp;refine jqs (kU _ (m10)) ?_;rintro e v16 ⟨rfl,m16⟩;refine hK _ _ ?_;refine jtk (i:=17) (oi:=⟨some 70,.binOp .sub 3 (.tmp 64) (.tmp 69) 3,_,_,_,none⟩) (v:=num ((z+PO)-PU)) rfl (zeE rfl rfl (by omega)) ?_;simp only [jqt,jqu,jqv,jqw];refine jtk (i:=18) (oi:=⟨some 9,.assign (.tmp 70),_,_,_,none⟩) (v:=num ((z+PO)-PU)) rfl (zdN rfl) ?_;simp only [jqt,jqu,jqv,jqw];refine zbk (by kernel_rfl) (m16) ?_;clear kH kO kU cW9;gi_wp2;exact⟨⟨j+1,hjl,by simp,by rw [hfin],Nx.trans n4 m16⟩,by simp [intOf];omega⟩
  ·obtain rfl:j=Ld.length:=by omega
   clear hlv;gi_wp2;go_ret;refine⟨?_,Nx.trans n0 (Nx.trans nu (Nx.trans nWl n4))⟩;rw [jxe];exact congrArg (fun x=>Ending.returned (num x)) HF.out.symm
end Go.Proofs.YtolholkjeehamaaDoor

namespace Go.Proofs.YtolholkjeehamaaDoor
open Go.RowKit Go.Con Go.Conc
local instance plI2:Lone:=zcG
theorem yal {c c' : Code} {F:Fence} {n:Nat} {P:Program} {Q:Exit→Act→World→Prop} {a:Act} {w:World} (h:c=c') (H:c'.wpIn F n P Q a w):c.wpIn F n P Q a w:=h ▸ H
end Go.Proofs.YtolholkjeehamaaDoor

namespace Go.Proofs.YtolholkjeehamaaDoor
open Go.RowKit
theorem yc8 {w w' : World} {base e sz n:Nat} {v:Value} {xs:List Value} (h:w.ownsRow base e sz v n xs) (nx:Nx w w'):w'.ownsRow base e sz v n xs:=by
 refine⟨h.1,?_⟩;rcases h.2 with hn | ⟨g,cap,cur,rfl,hb,hg,rest⟩
 ·exact .inl hn
 ·exact .inr ⟨g,cap,cur,rfl,hb,(nx.block g (jxh.1 hg).1).trans hg,rest⟩
end Go.Proofs.YtolholkjeehamaaDoor

namespace Go.Proofs.YtolholkjeehamaaDoor
open Go.RowKit
noncomputable def yc9:Code:=match Tryd.f52.body with | some c=>c | none=>.skip
noncomputable def gt6:Code:=seqL (seqR (seqR (seqR yc9)))
noncomputable def ydh:Array Oper:=match gt6 with | .region _ ops _=>ops | _=>#[]
theorem yc5:gt6=.region 6 ydh true:=by kernel_rfl
def Cls52 (Y:World) (B:Nat) (x:World):Prop:=Y.grownBy x (some (B+1))∧∃ a b:Int,x.heap[B+1]?=some (.cells #[num a,num b] 28 (0,0))
theorem ya4 {e:Operand→Value} {w:World} {s t b:Nat} {dst:Option Nat} {ty:TypeId} {pos:String} {af:Array Edge} {x0 x1 v0 v1:Int} (h:e (.tmp s)=.pointer (some ⟨b,0,none⟩)) (h2:e (.tmp t)=.agg #[.int .i64 v0,.int .i64 v1]) (hb:w.heap[b]?=some (.cells #[num x0,num x1] 28 (0,0))) :
  (execOp e ⟨dst,.store 28 (.tmp s) (.tmp t),ty,pos,af,none⟩).run Tryd.prog w=.ok .skip ((w.setCell ⟨b,0,none⟩ (.int .i64 v0)).setCell ⟨b,1,none⟩ (.int .i64 v1)):=by
 have cc:∀ i v,(#[num x0,num x1]:Array Value)[i]?=some v→w.cell? ⟨b,i,none⟩=some v∧w.frozen? ⟨b,i,none⟩=false:=fun i v hv=>⟨by unfold jxb;dsimp only;rw [hb];exact hv,frozen_of_row _ _ _ _ _ hb⟩;obtain⟨e0,f0⟩:=cc 0 _ rfl;obtain⟨e1,f1⟩:=cc 1 _ rfl;clear cc hb;simp [execOp,go_sem,h,h2,e0,e1,f0,f1]
theorem yda {w:World} {b:Nat} {x0 x1 v0 v1:Value} (h:w.heap[b]?=some (.cells #[x0,x1] 28 (0,0))) :
  ((w.setCell ⟨b,0,none⟩ v0).setCell ⟨b,1,none⟩ v1).heap[b]?=some (.cells #[v0,v1] 28 (0,0)):=by
 unfold World.setCell;simp [Array.getElem?_modify,h]
theorem Cls52.put {Y x:World} {B:Nat} {a b:Int} (h:Cls52 Y B x):Cls52 Y B ((x.setCell ⟨B+1,0,none⟩ (num a)).setCell ⟨B+1,1,none⟩ (num b)):=by
 obtain⟨h1,u,v,h2⟩:=h;refine⟨⟨h1.os,h1.tape,h1.output,by simpa using h1.size,fun k hk hne=>?_⟩,a,b,yda h2⟩;have hk2:k≠B+1:=fun e=>hne (by rw [e]);rw [heap_setCell_other _ _ _ _ (by exact hk2),heap_setCell_other _ _ _ _ (by exact hk2)];exact h1.block k hk hne
theorem ybx {v0 v3 v5 v6 v7 v8 v9 v10 v11 v12 v13 v14 v15 v16 v17 v18 v19 v20 v21 v22 v23 v24 v25 v26 v27:Value} (d:Dit) (r:zaR) (k:Nat) (p:Plot) (b off capp B:Nat) (g1 g2:Int) (Y wr:World) (hlt:k<d.plots.length) (hrp:r.p=.slice (some ⟨b,off,none⟩) d.plots.length capp) (oR:Cls52 Y B wr)
  (CO:Hid (∀ x,Cls52 Y B x→∀ i v,(d.cellsA r)[i]?=some v→x.cell? ⟨B,i,none⟩=some v))
  (CP:Hid (∀ x,Cls52 Y B x→x.cell? ⟨b,off+k * 6,none⟩=some (str p.name)∧x.cell? ⟨b,off+k * 6+1,none⟩=some (num p.holder)∧x.cell? ⟨b,off+k * 6+2,none⟩=some (num p.far)∧x.cell? ⟨b,off+k * 6+3,none⟩=some (num p.low)∧x.cell? ⟨b,off+k * 6+4,none⟩=some (num p.high)∧x.cell? ⟨b,off+k * 6+5,none⟩=some (num p.worth)))
  (KG:Hid (∀ u,CallsIn FL 0 Tryd.prog 87 #[d.val r,.agg #[str p.name,num p.holder,num p.far,num p.low,num p.high,num p.worth]] u fun e w'=>e=Ending.returned (.agg #[num g1,num g2])∧Nx u w'))
  (CB:Hid (∀ x x',Cls52 Y B x→Nx x x'→Cls52 Y B x')) :
  gt6.wpIn FL 0 Tryd.prog (fun e a w'=>e=.normal∧a.defers=[]∧a.tmps=#[v0,num k,.pointer (some ⟨B,0,none⟩),v3,.pointer (some ⟨B+1,0,none⟩),num 0,v6,v7,v8,v9,v10,v11,v12,v13,v14,v15,v16,v17,v18,v19,v20,d.val r,.pointer (some ⟨B,13,none⟩),.slice (some ⟨b,off,none⟩) d.plots.length capp,num k,.pointer (some ⟨b,off+k * 6,none⟩),.agg #[str p.name,num p.holder,num p.far,num p.low,num p.high,num p.worth],.agg #[num g1,num g2]]∧w'.heap[B+1]?=some (.cells #[num g1,num g2] 28 (0,0))∧Cls52 Y B w') ⟨#[v0,num k,.pointer (some ⟨B,0,none⟩),v3,.pointer (some ⟨B+1,0,none⟩),v5,v6,v7,v8,v9,v10,v11,v12,v13,v14,v15,v16,v17,v18,v19,v20,v21,v22,v23,v24,v25,v26,v27],[]⟩ wr:=by
 rw [yc5];have oD:Cls52 Y B wr.drew:=CB.out _ _ oR (Below.drew (jqy _ _));refine zbg (fun x=>Cls52 Y B x) (by kernel_rfl) ?_;change wpAnyC _ _ _ _ _ _ _ 9 #[false,false,false,false,false,false,false,false,false] _ _;refine jtk (i:=0) (oi:=⟨some 21,.load 31 (.tmp 2),_,_,_,none⟩) (v:=d.val r) rfl (zc8 rfl (fun x hx=>CO.out x hx)) ?_;simp only [jqt,jqu,jqv,jqw];refine jtk (i:=1) (oi:=⟨some 22,.fieldAddr 31 (.tmp 2) 11,_,_,_,none⟩) (v:=.pointer (some ⟨B,13,none⟩)) rfl (yC rfl (fun _=>rfl) fun x hx=>by clear CO CP KG CB oD oR;simp [execOp,go_sem]) ?_;simp only [jqt,jqu,jqv,jqw];refine jtk (i:=2) (oi:=⟨some 23,.load 29 (.tmp 22),_,_,_,none⟩) (v:=.slice (some ⟨b,off,none⟩) d.plots.length capp) rfl (yC rfl (fun _=>rfl) fun x hx=>by have e:=CO.out x hx 13 r.p rfl;rw [hrp] at e;clear CO CP KG CB oD oR;simp [execOp,go_sem,e]) ?_;simp only [jqt,jqu,jqv,jqw];refine jtk (i:=3) (oi:=⟨some 24,.move (.tmp 1),_,_,_,none⟩) (v:=num k) rfl (zaN rfl) ?_;simp only [jqt,jqu,jqv,jqw];refine jtk (i:=4) (oi:=⟨some 25,.indexAddr 29 (.tmp 23) (.tmp 24),_,_,_,none⟩) (v:=.pointer (some ⟨b,off+k * 6,none⟩)) rfl (yC rfl (fun _=>rfl) fun x hx=>by clear CO CP KG CB oD oR;simp [execOp,go_sem,hlt]) ?_;simp only [jqt,jqu,jqv,jqw];refine jtk (i:=5) (oi:=⟨some 26,.load 91 (.tmp 25),_,_,_,none⟩) (v:=.agg #[str p.name,num p.holder,num p.far,num p.low,num p.high,num p.worth]) rfl (yC rfl (fun _=>rfl) fun x hx=>by obtain⟨e0,e1,e2,e3,e4,e5⟩:=CP.out x hx;clear CO CP KG CB oD oR;simp [execOp,go_sem,e0,e1,e2,e3,e4,e5]) ?_
 simp only [jqt,jqu,jqv,jqw];refine zau (i:=6) (o:=⟨some 27,.call { callee:=.value (.func 87),args:=#[.tmp 21,.tmp 26],argTypes:=#[31,91] },_,_,_,none⟩) (by kernel_rfl) rfl rfl (oD) ?_;intro K hK;go_simp;refine jqs (((KG.out _).mono fun e w' ⟨p,q⟩=>(⟨p,CB.out _ _ (oD) q⟩:e=Ending.returned (.agg #[num g1,num g2])∧Cls52 Y B w'))) ?_;rintro e v6w ⟨rfl,y6⟩;refine hK _ _ ?_;obtain⟨yg,ya,yb,yh⟩:=y6;refine zau (i:=7) (o:=⟨none,.store 28 (.tmp 4) (.tmp 27),_,_,_,none⟩) (by kernel_rfl) rfl rfl ⟨yg,ya,yb,yh⟩ ?_;intro K hK;refine zb4 rfl rfl (ya4 rfl rfl yh) ?_;simp only [jqt];refine hK _ _ ?_;have hput:=Cls52.put (a:=g1) (b:=g2) ⟨yg,ya,yb,yh⟩;have hpb:=yda (v0:=num g1) (v1:=num g2) yh;refine jtk (i:=8) (oi:=⟨some 5,.assign (.const (.int .i64 0)),_,_,_,none⟩) (v:=num 0) rfl (yC rfl (fun _=>rfl) fun x hx=>by clear CO CP KG CB oD oR yg yh hput hpb;simp [execOp,go_sem]) ?_;simp only [jqt,jqu,jqv,jqw];refine zbk (by kernel_rfl) hput ?_;exact⟨rfl,rfl,rfl,hpb,hput⟩
theorem yc6 (tmps:Array Value) (W:World) (b:Nat) (x y f:Int) (hp:tmps.getD 4 zu=.pointer (some ⟨b,0,none⟩)) (h5:tmps.getD 5 zu=num f) (h0:W.cell? ⟨b,0,none⟩=some (num x)) (h1:W.cell? ⟨b,1,none⟩=some (num y)) :
  (results Tryd.f52 tmps).run Tryd.prog W=.ok (.tuple #[.agg #[num x,num y],num f]) W:=by
 have hp' : tmps[4]?.getD zu=.pointer (some ⟨b,0,none⟩):=by simpa using hp
 have h5' : tmps[5]?.getD zu=num f:=by simpa using h5
 simp [results,Tryd.results52,go_sem,hp',h5',h0,h1]
theorem yby (d:Dit) (r:zaR) (k:Int) (w:World) (hd:DitSl w d r) (hs:d.Small) :
  CallsIn FL 0 Tryd.prog 52 #[d.val r,num k] w fun e w'=>e=.returned (.tuple #[.agg #[num (yaf d k).1.1,num (yaf d k).1.2],num (yaf d k).2])∧Nx w w':=by
 obtain⟨W,hW,n0,hWs,cW⟩:=boxed w d r;generalize hY:W.alloc (.cells #[.int .i64 0,.int .i64 0] 28)=Y;have nY:Nx W Y:=by rw [← hY];exact (jqy _ _).alloc (jxc _) _
 have n1:Nx w Y:=Nx.trans n0 nY;have sY:w.heap.size+1<Y.heap.size:=by rw [← hY];simp [hWs]
 have hY0:Y.heap[w.heap.size+1]?=some (.cells #[.int .i64 0,.int .i64 0] 28 (0,0)):=by rw [← hY,← hWs];exact heap_alloc_new _ _
 have hz:∀ w1,Nx Y w1→w1.cell? ⟨w.heap.size+1,0,none⟩=some (num 0)∧w1.cell? ⟨w.heap.size+1,1,none⟩=some (num 0)∧w1.frozen? ⟨w.heap.size+1,0,none⟩=false∧w1.frozen? ⟨w.heap.size+1,1,none⟩=false:=by
  intro w1 nx;have hb:w1.heap[w.heap.size+1]?=some (.cells #[.int .i64 0,.int .i64 0] 28 (0,0)):=(nx.block _ sY).trans hY0;refine⟨?_,?_,frozen_of_row _ _ _ _ _ hb,frozen_of_row _ _ _ _ _ hb⟩<;>(unfold jxb;dsimp only;rw [hb];rfl)
 obtain⟨c0,c1,c2,c3,c4,c5,c6,c7,c8,c9,c10,c11,c12,c13⟩:=zaS (cW _ nY);have k25:=zgI d r Y (hd.nx n1) hs;by_cases hc:zaF d=0
 ·have hO:=zco hc
  obtain⟨ap,capp,ep⟩:=hd.plots.cases;rw [jqz] at ep;have h13:∀ w1,Nx Y w1→w1.cell? ⟨w.heap.size,13,none⟩=some (.slice ap d.plots.length capp):=fun w1 nx=>(cW w1 (Nx.trans nY nx) 13 r.p rfl).trans (by rw [ep]);have h8:=hO.p8;rw [hc] at k25;have h71:=fun w1=>zby k 0 ((d.plots.length:Int)-1) w1;by_cases hk:0≤k∧k≤(d.plots.length:Int)-1
  ·obtain⟨m,rfl⟩:=jxg hk.1
   have hml:m<d.plots.length:=by omega
   have hp:d.plots[m]?=some d.plots[m]:=jqx hml;have HA:Hid (yaf d m=(d.gets d.plots[m],0)):=ybu hc hp;have hps:=hd.plots;rw [ep] at hps;obtain⟨b,off,ha,hbl,hcl⟩:=hps.get (by simp;omega);subst ha;have HCP:=jqr (fun w1 (n:Nx w w1)=>Sl.at6 hcl n hbl hp);have hpl:=hO.pl m _ hp;generalize d.plots[m]=p at *;have kG:Hid (∀ u,CallsIn FL 0 Tryd.prog 87 #[d.val r,.agg #[str p.name,num p.holder,num p.far,num p.low,num p.high,num p.worth]] u fun e w'=>e=Ending.returned (.agg #[num (d.gets p).1,num (d.gets p).2])∧Nx u w'):=fun u=>yaz d r p u hO hpl.2.2.2.1;have b71:decide (0≤(m:Int)∧(m:Int)≤(d.plots.length:Int)-1)=true:=decide_eq_true hk;rw [b71] at h71;have HW2:=jqr n1;have HEP:=jqr ep;have CW:=jqr cW;have HNY:=jqr nY;have HY0:=jqr hY0;generalize hgx:(d.gets p).1=gx at *;generalize hgy:(d.gets p).2=gy at *;have HX:=jqr hgx;have HYY:=jqr hgy;clear hc cW hO hp hgx hgy hd hps hcl hpl ep nY n1 n0 hY0 hz;gi_enter Tryd.func52,Tryd.ntmps52;gi_upto_region 6 with (first
    | (gi_at_call 25;refine jqs k25 ?_;rintro e w1 ⟨rfl,n2⟩;clear c13;have c13:=h13 w1 n2)
    | (gi_at_call 71;refine jqs (h71 _) ?_;rintro e w1 ⟨rfl,rfl⟩)
    | gi_in)
   clear k25 h71 h13 c0 c1 c2 c3 c4 c5 c6 c7 c8 c9 c10 c11 c12 c13;refine yal (c':=gt6) (by kernel_rfl) ?_;have hsame:∀ x,Cls52 Y w.heap.size x→∀ i,i<w.heap.size+1→x.heap[i]?=Y.heap[i]?:=fun x h i hi=>h.1.block i (by omega) (by simp;omega);have hbw:∀ x,Cls52 Y w.heap.size x→Nx w x:=fun x h=>⟨h.1.os.trans HW2.out.os,h.1.tape.trans HW2.out.tape,h.1.output.trans HW2.out.output,jxm HW2.out.size h.1.size,fun i hi=>(hsame x h i (by omega)).trans (HW2.out.block i hi)⟩;refine wpIn_mono (ybx d r m p b off capp w.heap.size gx gy Y w1 hml HEP.out ⟨zaW n2 _,0,0,(n2.block _ sY).trans HY0.out⟩ (jqr fun x h i v hi=>?_) (jqr fun x h=>HCP.out x (hbw x h)) kG (jqr fun x x' h n=>⟨⟨n.os.trans h.1.os,n.tape.trans h.1.tape,n.output.trans h.1.output,jxm h.1.size n.size,fun i hi hne=>(n.block i (Nat.lt_of_lt_of_le hi h.1.size)).trans (h.1.block i hi hne)⟩,by
    obtain⟨_,u,v,e⟩:=h;exact⟨u,v,(n.block _ (jxh.1 e).1).trans e⟩⟩)) ?_
   ·have h1:=CW.out Y HNY.out i v hi
    unfold jxb at h1 ⊢;dsimp only at h1 ⊢;rw [hsame x h w.heap.size (by omega)];exact h1
   ·rintro e a w5 ⟨rfl,hdf,hta,hb5,hc5⟩
    obtain⟨ta,df⟩:=a;dsimp only at hdf hta;subst hta hdf;gi_wp2;refine bodyPost_ret (yc6 _ _ (w.heap.size+1) gx gy 0 rfl rfl (by unfold jxb;dsimp only;rw [hb5];rfl) (by unfold jxb;dsimp only;rw [hb5];rfl)) rfl ?_;exact⟨by rw [HA.out,HX.out,HYY.out],hbw _ hc5⟩
  ·have HA:Hid (yaf d k=((0,0),6)):=ya0 hc hk
   have b71:decide (0≤k∧k≤(d.plots.length:Int)-1)=false:=decide_eq_false hk;rw [b71] at h71;have HW2:=jqr n1;clear hc cW hO hd hk ep;gi_enter Tryd.func52,Tryd.ntmps52
   gi_wp2_with (first
    | (gi_at_call 25;refine jqs k25 ?_;rintro e w1 ⟨rfl,n2⟩;clear c13;have c13:=h13 w1 n2)
    | (gi_at_call 71;refine jqs (h71 _) ?_;rintro e w1 ⟨rfl,rfl⟩;obtain⟨z0,z1,z2,z3⟩:=hz w1 n2)
    | gi_in)
   obtain⟨r1,r2⟩:=set2 w1 (w.heap.size+1) 0 0 0 0 z0 z1;refine bodyPost_ret (yc6 _ _ (w.heap.size+1) 0 0 6 rfl rfl r1 r2) rfl ?_;exact⟨by rw [HA.out],((Nx.trans HW2.out n2).setCell (by exact jxd _) _).setCell (by exact jxd _) _⟩
 ·have HA:Hid (yaf d k=((0,0),zaF d)):=ya3 hc k
  have hb:(zaF d != 0)=true:=by simpa using hc
  have HW2:=jqr n1;generalize zaF d=ck at *;clear cW hc hd;gi_enter Tryd.func52,Tryd.ntmps52
  gi_wp2_with (first
   | (gi_at_call 25;refine jqs k25 ?_;rintro e w1 ⟨rfl,n2⟩;obtain⟨z0,z1,z2,z3⟩:=hz w1 n2)
   | gi_in)
  obtain⟨r1,r2⟩:=set2 w1 (w.heap.size+1) 0 0 0 0 z0 z1;refine bodyPost_ret (yc6 _ _ (w.heap.size+1) 0 0 ck rfl rfl r1 r2) rfl ?_;exact⟨by rw [HA.out],((Nx.trans HW2.out n2).setCell (by exact jxd _) _).setCell (by exact jxd _) _⟩
end Go.Proofs.YtolholkjeehamaaDoor

namespace Go.Proofs.YtolholkjeehamaaDoor
open Go.RowKit
theorem yb8 {sz:Nat}:∀ (ys:List (List Value)) (j k:Nat) (l:List Value) (x:Value),(∀ y∈ys,y.length=sz)→ys[j]?=some l→l[k]?=some x→ys.flatten[j * sz+k]?=some x
 | [],j,k,l,x,_,h,_=>by simp at h
 | y :: ys,j,k,l,x,hl,hj,hk=>by
  have hy:=hl y (List.mem_cons_self ..)
  cases j with
  | zero =>
   simp only [List.getElem?_cons_zero,Option.some.injEq] at hj;subst hj;have:k<y.length:=(jxk.1 hk).1;rw [Nat.zero_mul,Nat.zero_add,List.flatten_cons,jxp this];exact hk
  | succ j =>
   rw [List.flatten_cons,jxq (by rw [hy,Nat.succ_mul];omega),hy];have:(j+1) * sz+k-sz=j * sz+k:=by rw [Nat.succ_mul];omega
   rw [this];exact yb8 ys j k l x (fun y hy=>hl y (List.mem_cons_of_mem _ hy)) hj hk
theorem ybv (b o j:Nat):(⟨b,o,none⟩:Addr).add j=⟨b,o+j,none⟩:=by
 unfold Addr.add;split
 ·rename_i h;subst h;rfl
 ·rfl
structure ElemT (t e:TypeId) (z:Value) (sz by_:Nat):Prop where
 und:Tryd.prog.underlying t=some (.slice e)
 info:∃ i:TypeInfo,Tryd.prog.info? e=some i∧i.zero=some z∧i.size=sz∧i.bytes=by_
 zs:z.cells.size=sz
 pos:0<sz
theorem ElemT.mk' {t e:TypeId} {z:Value} {sz by_:Nat} (h1:Tryd.prog.underlying t=some (.slice e)) (h:(Tryd.prog.info? e).map (fun i=>(i.zero,i.size,i.bytes))=some (some z,sz,by_)) (h2:z.cells.size=sz) (h3:0<sz):ElemT t e z sz by_:=by
 refine⟨h1,?_,h2,h3⟩
 cases hi:Tryd.prog.info? e with
 | none=>rw [hi] at h;cases h
 | some i =>
  rw [hi] at h;simp only [Option.map_some,Option.some.injEq,Prod.mk.injEq] at h;exact⟨i,rfl,h.1,h.2.1,h.2.2⟩
theorem ydb {w:World} {base e sz n:Nat} {v:Value} {rows:List (List Value)} (hr:∀ y∈rows,y.length=sz) (hn:rows.length=n) (h:w.ownsRow base e sz v n rows.flatten):Sl w v sz rows:=by
 subst hn;obtain⟨_,⟨rfl,h0⟩ | ⟨g,cap,cur,rfl,hb,hg,hc,hm,hs,ht⟩⟩:=h
 ·exact⟨0,.inl ⟨List.eq_nil_of_length_eq_zero h0,rfl⟩⟩
 ·refine⟨cap,.inr ⟨g,0,rfl,(jxh.1 hg).1,fun j k l x hj hk=>?_⟩⟩
  have h1:=yb8 (sz:=sz) rows j k l x hr hj hk;rw [← ht,List.getElem?_take] at h1
  split at h1
  ·unfold jxb
   dsimp only;rw [hg]
   simpa using h1
  ·cases h1
theorem yb9 {w:World} {base e sz n:Nat} {v:Value} {xs:List Value} (h0:0<n) (h:w.ownsRow base e sz v n xs):∃ g cap,v=.slice (some ⟨g,0,none⟩) n cap∧base≤g∧g<w.heap.size∧n≤cap∧Kind w v:=by
 obtain⟨_,⟨_,h1⟩ | ⟨g,cap,cur,rfl,hb,hg,hc,_⟩⟩:=h
 ·omega
 ·exact⟨g,cap,rfl,hb,(jxh.1 hg).1,hc,fun a n c e=>by cases e;exact⟨_,_,_,hg⟩⟩
section
variable {t e:TypeId} {z:Value} {sz by_:Nat} (T:ElemT t e z sz by_)
include T
end
end Go.Proofs.YtolholkjeehamaaDoor

namespace Go.Proofs.YtolholkjeehamaaDoor
def yab (n:Int):Nat→List (List Int)
 | 0=>[]
 | j+1=>((([]:List Int) :: yab n j).map ((n-(j+1:Nat)) :: ·))++yab n j
def yaw (d:Dit) (holder most:Int) (l:List Int) (b:Choice):Choice :=
 if (yaa d holder most l).2.2 && (decide ((yaa d holder most l).2.1 > b.worth) || decide ((yaa d holder most l).2.1=b.worth) && decide ((yaa d holder most l).1<b.hours)) then ⟨l,(yaa d holder most l).1,(yaa d holder most l).2.1⟩ else b
def yah (d:Dit) (holder most:Int):List (List Int)→Choice→Choice
 | [],b=>b
 | l :: ll,b=>yah d holder most ll (yaw d holder most l b)
theorem yaj (n:Int) (j:Nat):yab n (j+1)=((([]:List Int) :: yab n j).map ((n-(j+1:Nat)) :: ·))++yab n j:=rfl
theorem yai (d:Dit) (holder most:Int):∀ (l m:List (List Int)) (b:Choice),yah d holder most (l++m) b=yah d holder most m (yah d holder most l b)
 | [],m,b=>rfl
 | x :: l,m,b=>yai d holder most l m _
theorem ycv (l:List Int):∀ m,zbR (l++m) l≥0:=by
 induction l with
 | nil=>intro m;cases m<;>simp [zbR]
 | cons x l ih =>
  intro m;simp only [jxn,zbR];rw [if_neg (by unfold cmpS;simp)];exact ih m
theorem ya5 (l m o:List Int):zbR (l++m) (l++o)=zbR m o:=by
 induction l with
 | nil=>rfl
 | cons x l ih =>
  simp only [jxn,zbR];rw [if_neg (by unfold cmpS;simp)];exact ih
theorem ya6 {x k:Int} (h:k<x) (l m:List Int):zbR (x :: l) (k :: m)≥0:=by
 have e:cmpS x k=1:=by unfold cmpS;rw [if_neg (by omega),if_pos h]
 simp [zbR,e]
theorem yca {d:Dit} {holder most:Int} {l:List Int} (h:(yaa d holder most l).2.2=false) (b:Choice):yaw d holder most l b=b:=by
 unfold yaw;rw [h];rfl
theorem ycb {d:Dit} {holder most:Int} {ll:List (List Int)} (h:∀ l∈ll,(yaa d holder most l).2.2=false) (b:Choice):yah d holder most ll b=b:=by
 induction ll with
 | nil=>rfl
 | cons l ll ih =>
  unfold yah;rw [yca (h l (List.mem_cons_self ..))];exact ih fun m hm=>h m (List.mem_cons_of_mem _ hm)
theorem ya1 {d:Dit} {holder most:Int} {l:List Int} {q h w:Int} (hs:yak d holder l (-1,0,0)=some (q,h,w)):yaa d holder most l=(h,w,decide (h≤most)):=by
 unfold yaa;rw [hs]
def ydi (b c:Choice) (k:Int):Prop:=∀ x l,k≤x→zbR (c.plots++x :: l) b.plots≥0
theorem ybi {d:Dit} {holder most:Int} {c b:Choice} {q:Int} (hs:yak d holder c.plots (-1,0,0)=some (q,c.hours,c.worth)) (hm:c.hours≤most) (hl:zbR c.plots b.plots≥0):yaw d holder most c.plots b=if c.better b then c else b:=by
 unfold yaw;rw [ya1 hs];dsimp only;rw [decide_eq_true hm];have e:c.better b=(decide (c.worth > b.worth) || decide (c.worth=b.worth) && decide (c.hours<b.hours)):=by
  unfold Choice.better;split
  ·rename_i h
   rw [decide_eq_false h];simp
  ·rename_i h
   rw [Decidable.not_not] at h;rw [decide_eq_true h,decide_eq_false (show ¬ c.worth > b.worth by omega)];split
   ·simp
   ·rename_i h2
    rw [Decidable.not_not] at h2;rw [decide_eq_false (by omega),decide_eq_false (by omega)];rfl
 rw [e,Bool.true_and]
theorem yao {d:Dit} (hO:d.Ok) (holder most:Int):∀ (ps:List Plot) (c:Choice) (k:Nat) (b:Choice),ps=d.plots.drop k→ChOk d holder most c k→ydi b c k →
  goS d holder most ps c k b=yah d holder most ((yab d.plots.length ps.length).map (c.plots++·)) b ∧
  (goS d holder most ps c k b=b∨∃ y m,(k:Int)≤y∧(goS d holder most ps c k b).plots=c.plots++y :: m)
 | [],c,k,b,hps,hc,hL=>⟨rfl,.inl rfl⟩
 | p :: ps,c,k,b,hps,hc,hL=>by
  have hk:d.plots[k]?=some p:=by
   have:(d.plots.drop k)[0]?=some p:=by rw [← hps];rfl
   simpa using this
  have hkl:=(jxk.1 hk).1;have hps' : ps=d.plots.drop (k+1):=by
   have:=congrArg List.tail hps
   simpa [List.tail_drop] using this
  have hlen:ps.length+1=d.plots.length-k:=by
   have:=congrArg List.length hps
   simpa using this
  have hpa:d.plotAt (k:Int)=some p:=by rw [yay];exact hk
  have e1:((k:Int)+1)=((k+1:Nat):Int):=by omega
  have ek:(d.plots.length:Int)-(ps.length+1:Nat)=k:=by omega
  have eT:(yab d.plots.length (p :: ps).length).map (c.plots++·)=(([] :: yab d.plots.length ps.length).map ((c.add d k p).plots++·))++(yab d.plots.length ps.length).map (c.plots++·):=by
   rw [jxl];rw [yaj,ek,List.map_append,List.map_map];have ef:((fun x=>c.plots++x) ∘ fun x=>(k:Int) :: x)=(fun x=>(c.add d k p).plots++x):=by funext l;simp [Choice.add]
   rw [ef]
  rw [eT,yai];unfold goS;rw [e1]
  cases hf:d.fits holder most c p with
  | false =>
   simp only [Bool.false_eq_true,if_false];rw [ycb (ll:=([] :: yab d.plots.length ps.length).map ((c.add d k p).plots++·))]
   ·obtain⟨r1,r2⟩:=yao hO holder most ps c (k+1) b hps' (hc.up (by omega)) (fun x l hx=>hL x l (by omega))
    refine⟨r1,r2.imp id ?_⟩;rintro ⟨y,m,hy,hm⟩;exact⟨y,m,by omega,hm⟩
   ·intro l hl
    obtain⟨m,_,rfl⟩:=List.mem_map.1 hl;obtain⟨q,hq,hs⟩:=hc.st;have e:(c.add d k p).plots++m=c.plots++(k:Int) :: m:=by simp [Choice.add]
    rw [e];unfold yaa;rw [yad,hs];simp only [jxo,yak,hpa];split
    ·rename_i s h
     split at h
     ·rename_i hh
      have h2:=ya2 hO holder m _ s h;dsimp only at h2 ⊢;refine decide_eq_false fun h3=>?_;unfold Dit.fits at hf;rw [hh.2.2,decide_eq_true hh.2.1,decide_eq_true (show c.hours+(d.needs p).1≤most by omega)] at hf;cases hf
     ·cases h
    ·rfl
  | true =>
   simp only [if_true];have hadd:=hc.add hpa hf;obtain⟨q,hq,hs⟩:=hadd.st;have hap:(c.add d k p).plots=c.plots++[(k:Int)]:=rfl;have hb1:=ybi hs hadd.most (b:=b) (by rw [hap];exact hL k [] (Int.le_refl _));have hL2:ydi (if (c.add d k p).better b then c.add d k p else b) (c.add d k p) ((k+1:Nat):Int):=by
    intro x l hx;split
    ·exact ycv _ _
    ·rw [hap,jxr]
     exact hL k _ (Int.le_refl _)
   obtain⟨s1,s2⟩:=yao hO holder most ps (c.add d k p) (k+1) (if (c.add d k p).better b then c.add d k p else b) hps' (by rw [← e1];exact hadd) hL2;have hL3:ydi (goS d holder most ps (c.add d k p) ((k+1:Nat):Int) (if (c.add d k p).better b then c.add d k p else b)) c ((k+1:Nat):Int):=by
    intro x l hx;rcases s2 with h | ⟨y,m,hy,hm⟩
    ·rw [h]
     split
     ·rw [hap,ya5]
      exact ya6 (by omega) _ _
     ·exact hL x l (by omega)
    ·rw [hm,hap,jxr,ya5]
     exact ya6 (by omega) _ _
   obtain⟨r1,r2⟩:=yao hO holder most ps c (k+1) _ hps' (hc.up (by omega)) hL3;refine⟨?_,?_⟩
   ·rw [r1,s1]
    simp only [List.map_cons,List.append_nil,yah];rw [hb1]
   ·rcases r2 with h | ⟨y,m,hy,hm⟩
    ·rw [h]
     rcases s2 with h | ⟨y,m,hy,hm⟩
     ·rw [h]
      split
      ·exact .inr ⟨k,[],Int.le_refl _,rfl⟩
      ·exact .inl rfl
     ·exact .inr ⟨k,y :: m,Int.le_refl _,by rw [hm,hap];simp⟩
    ·exact .inr ⟨y,m,by omega,hm⟩
theorem ycw {d:Dit} (hO:d.Ok) (holder most:Int) (h0:0≤most):yah d holder most ([] :: yab d.plots.length d.plots.length) ⟨[],0,0⟩=tryS d holder most ⟨[],0,0⟩ 0 ⟨[],0,0⟩:=by
 have e:(if Choice.better ⟨[],0,0⟩ ⟨[],0,0⟩ then (⟨[],0,0⟩:Choice) else ⟨[],0,0⟩)=⟨[],0,0⟩:=by split<;>rfl
 unfold tryS;rw [e];obtain⟨r1,_⟩:=yao hO holder most (d.plots.drop 0) ⟨[],0,0⟩ 0 ⟨[],0,0⟩ rfl ⟨⟨-1,by omega,rfl⟩,h0⟩ (fun x l _=>by simp [zbR]);rw [r1];have:yaw d holder most [] ⟨[],0,0⟩=⟨[],0,0⟩:=by
  unfold yaw yaa yak;simp
 simp only [yah,this,List.nil_append,List.drop_zero,List.map_id']
end Go.Proofs.YtolholkjeehamaaDoor

namespace Go.Proofs.YtolholkjeehamaaDoor
open Go.RowKit
theorem T64:ElemT 64 3 (num 0) 1 8:=.mk' Tryd.underlying64 (by kernel_rfl) (by kernel_rfl) (by decide)
theorem T143:ElemT 143 64 (.slice none 0 0) 1 24:=.mk' Tryd.underlying143 (by kernel_rfl) (by kernel_rfl) (by decide)
theorem ya7 (n:Int):∀ j:Nat,(yab n j).length+1=2 ^ j
 | 0=>rfl
 | j+1=>by
  have:=ya7 n j;rw [yaj,jxi,jqz,jxl,Nat.pow_succ];omega
theorem yau {n:Int} {j:Nat} (h:j≤8):(yab n j).length≤255:=by
 have h1:=ya7 n j;have h2:2 ^ j≤2 ^ 8:=Nat.pow_le_pow_right (by decide) h;omega
theorem yav {n:Int}:∀ {j:Nat} {l:List Int},l∈yab n j→l.length≤j
 | 0,l,h=>by cases h
 | j+1,l,h=>by
  rw [yaj,List.mem_append,List.mem_map] at h;rcases h with ⟨m,hm,rfl⟩ | h
  ·rcases List.mem_cons.1 hm with rfl | hm
   ·simp
   ·have:=yav hm
    simp only [jxl];omega
  ·have:=yav h
   omega
theorem ycc {n:Int} {j:Nat} (h:j≤8) {l:List Int} (hl:l∈[] :: yab n j):l.length≤8:=by
 rcases List.mem_cons.1 hl with rfl | hl
 ·simp
 ·have:=yav hl
  omega
theorem Sl.grown {w w' : World} {v:Value} {sz:Nat} {xs:List (List Value)} {row:Option Nat} (h:Sl w v sz xs) (hg:w.grownBy w' row) (hn:∀ b,v.ownBlock=some b→some b≠row):Sl w' v sz xs:=by
 obtain⟨cap,h | ⟨b,off,h1,h2,h3⟩⟩:=h
 ·exact⟨cap,.inl h⟩
 ·exact⟨cap,.inr ⟨b,off,h1,Nat.lt_of_lt_of_le h2 hg.size,fun j k l x hj hk=>hg.cell (h3 j k l x hj hk) (hn b (by rw [h1];rfl))⟩⟩
theorem Sl.blk {w:World} {v:Value} {sz:Nat} {xs:List (List Value)} (h:Sl w v sz xs):∀ b,v.ownBlock=some b→b<w.heap.size:=by
 obtain⟨cap,⟨_,rfl⟩ | ⟨b,off,rfl,h2,_⟩⟩:=h
 ·intro b h;cases h
 ·intro c h;cases h;exact h2
def RowsW (w:World) (ob:Option Nat) (vs:List Value) (L:List (List Int)):Prop :=
 vs.length=L.length∧∀ (i:Nat) v l,vs[i]?=some v→L[i]?=some l→Sl w v 1 (l.map fun x=>[num x])∧∀ b,v.ownBlock=some b→some b≠ob
theorem RowsW.grown {w w' : World} {ob row ob' : Option Nat} {vs:List Value} {L:List (List Int)} (h:RowsW w ob vs L) (hg:w.grownBy w' row) (hr:row=ob∨row=none∨∃ k,row=some k∧w.heap.size≤k) (ho:ob'=ob∨∃ k,ob'=some k∧w.heap.size≤k):RowsW w' ob' vs L :=
 ⟨h.1,fun i v l hv hl=>by
  obtain⟨h1,h2⟩:=h.2 i v l hv hl;refine⟨h1.grown hg fun b hb=>?_,fun b hb=>?_⟩
  ·rcases hr with rfl | rfl | ⟨k,rfl,hk⟩
   ·exact h2 b hb
   ·intro e;cases e
   ·have:=h1.blk b hb
    intro e;cases e;omega
  ·rcases ho with rfl | ⟨k,rfl,hk⟩
   ·exact h2 b hb
   ·have:=h1.blk b hb
    intro e;cases e;omega⟩
theorem RowsW.nx {w w' : World} {ob:Option Nat} {vs:List Value} {L:List (List Int)} (h:RowsW w ob vs L) (n:Nx w w'):RowsW w' ob vs L :=
 h.grown (zaW n none) (.inr (.inl rfl)) (.inl rfl)
theorem RowsW.add {w:World} {ob:Option Nat} {vs ws:List Value} {L M:List (List Int)} (h:RowsW w ob vs L) (k:RowsW w ob ws M):RowsW w ob (vs++ws) (L++M) :=
 ⟨by rw [jxi,jxi,h.1,k.1],fun i v l hv hl=>by
  by_cases hi:i<vs.length
  ·rw [jxp hi] at hv
   rw [jxp (by rw [← h.1];exact hi)] at hl;exact h.2 i v l hv hl
  ·rw [jxq (by omega)] at hv
   rw [jxq (by rw [← h.1];omega),← h.1] at hl;exact k.2 _ v l hv hl⟩
theorem RowsW.one {w:World} {ob:Option Nat} {v:Value} {l:List Int} (h:Sl w v 1 (l.map fun x=>[num x])) (hb:∀ b,v.ownBlock=some b→some b≠ob):RowsW w ob [v] [l] :=
 ⟨rfl,fun i u m hu hm=>by
  cases i with
  | zero=>simp at hu hm;subst hu hm;exact⟨h,hb⟩
  | succ i=>simp at hu⟩
theorem ya8:∀ vs:List Value,(vs.map fun x=>[x]).flatten=vs
 | []=>rfl
 | a :: l=>by rw [List.map_cons,List.flatten_cons,ya8 l];rfl
theorem ybj {w:World} {base e:Nat} {v:Value} {vs:List Value} (h:w.ownsRow base e 1 v vs.length vs):Sl w v 1 (vs.map fun x=>[x]) :=
 ydb (rows:=vs.map fun x=>[x]) (base:=base) (e:=e) (n:=vs.length) (by simp) (by simp) (by rw [ya8];exact h)
theorem ycx (w:World) (g0:Nat) (i:Int) (hg:w.heap[g0]?=some (.cells #[num i] 3 (0,0))) (u:Value) (m:List Int) (hu:Sl w u 1 (m.map fun x=>[num x])) (hm:m.length≤1000) :
  ∃ g cap w',(Builtin.append_ #[64,64] 64 #[.slice (some ⟨g0,0,none⟩) 1 1,u]).run Tryd.prog w=.ok (.slice (some ⟨g,0,none⟩) (m.length+1) cap) w'∧Sl w' (.slice (some ⟨g,0,none⟩) (m.length+1) cap) 1 ((i :: m).map fun x=>[num x])∧w.grownBy w' (some g0)∧(g=g0∨g=w.heap.size):=by
 obtain⟨inf,hi,hz,hs,hby⟩:=T64.info;have hown:w.ownsRow g0 3 1 (.slice (some ⟨g0,0,none⟩) 1 1) 1 [num i]:=⟨by simp,.inr ⟨g0,1,#[num i],rfl,jxc _,hg,jxc _,by simp [maxLen],by simp,by simp⟩⟩;have hgl:g0<w.heap.size:=(jxh.1 hg).1;obtain⟨cap,⟨h0,rfl⟩ | ⟨b,off,rfl,hbl,hc⟩⟩:=hu
 ·have hm0:m=[]:=by simpa using h0
  subst hm0;refine⟨g0,1,w,?_,?_,World.grownBy.refl _ _,.inl rfl⟩
  ·simp [Builtin.append_,run_underlying T64.und,sizeOf,typeInfo,hi,Builtin.lenOf,Builtin.firstCells,storeCells,hs,hz]
  ·exact zb7 (l:=[i]) hown
 ·rw [jqz]
  obtain⟨v',w',r1,r2,r3,_,r5⟩:=zho g0 (.slice (some ⟨g0,0,none⟩) 1 1) [i] m w hown ⟨b,off,none⟩ cap (fun j x hj=>by
   have:=hc j 0 [num x] (num x) (by simp [hj]) rfl;rw [ybv]
   simpa using this) (by simp;omega) (by omega)
  have e1:([i].length+m.length)=m.length+1:=by simp;omega
  rw [e1] at r2;obtain⟨g,cap',rfl,_⟩:=yb9 (by omega) r2;refine⟨g,cap',w',r1,zb7 (l:=i :: m) r2,r3,?_⟩;rcases r5 with h | h
  ·left
   cases h;rfl
  ·right
   cases h;rfl
end Go.Proofs.YtolholkjeehamaaDoor

namespace Go.Proofs.YtolholkjeehamaaDoor
open Go.RowKit
structure ydj (w w' : World) (u:Value) (vs:List Value) (L:List (List Int)):Prop where
 nx:Nx w w'
 sl:Sl w' u 1 (vs.map fun x=>[x])
 rows:RowsW w' none vs L
 ublk:∀ b,u.ownBlock=some b→w.heap.size≤b
 vblk:∀ v∈vs,∀ b,v.ownBlock=some b→w.heap.size≤b
theorem RowsW.apart {w:World} {ob:Option Nat} {vs:List Value} {L:List (List Int)} {n:Nat} (h:RowsW w none vs L) (hf:∀ v∈vs,∀ b,v.ownBlock=some b→n≤b) (ho:∀ b,ob=some b→b<n):RowsW w ob vs L :=
 ⟨h.1,fun i v l hv hl=>⟨(h.2 i v l hv hl).1,fun b hb e=>by
  have h1:=hf v (List.mem_of_getElem? hv) b hb;have h2:=ho b e.symm
  omega⟩⟩
theorem RowsW.forget {w:World} {ob:Option Nat} {vs:List Value} {L:List (List Int)} (h:RowsW w ob vs L):RowsW w none vs L :=
 ⟨h.1,fun i v l hv hl=>⟨(h.2 i v l hv hl).1,fun b hb e=>by cases e⟩⟩
theorem ydn (a:Option Addr) (n c:Nat):(Value.slice a n c).oneCell'=true:=rfl
theorem ybk (base:Nat) (w:World) (v:Value) (vs:List Value) (hown:w.ownsRow base 64 1 v vs.length vs) (g1:Nat) (x:Value) (hg:w.heap[g1]?=some (.cells #[x] 64 (0,0))) (h1:x.oneCell'=true) (hl:vs.length≤1000) (hb:base≤w.heap.size) :
  ∃ v' w',(Builtin.append_ #[143,143] 143 #[v,.slice (some ⟨g1,0,none⟩) 1 1]).run Tryd.prog w=.ok v' w'∧w'.ownsRow base 64 1 v' (vs.length+1) (vs++[x])∧w.grownBy w' v.ownBlock∧(v'.ownBlock=v.ownBlock∨v'.ownBlock=some w.heap.size):=by
 obtain⟨i,hi,hz,hs,hby⟩:=T143.info;obtain⟨v',w',r1,r2,r3,_,r5⟩:=run_append_own_at (P:=Tryd.prog) w base 143 143 64 i _ 1 24 T143.und hi hz hs hby T143.zs T143.pos v vs.length vs hown ⟨g1,0,none⟩ 1 1 [x] (by simp) (fun j y hj=>by
  rw [ybv];unfold jxb;dsimp only;rw [hg]
  cases j with
  | zero=>simpa using hj
  | succ j=>simp at hj) (by simpa using h1) (by unfold maxLen;omega) (by omega) hb
 exact⟨v',w',r1,r2,r3,r5⟩
theorem ycd {Y wr:World} {vo:Value} {vs:List Value} {L:List (List Int)} {base:Nat} (x:Int) (l:List Int) (v:Value) (hown:wr.ownsRow base 64 1 vo vs.length vs) (hrows:RowsW wr vo.ownBlock vs L) (hv:Sl wr v 1 (l.map fun x=>[num x])) (hl:l.length≤8) (hvl:vs.length≤255) (hY:Nx Y wr) (hbase:Y.heap.size=base) :
  ∃ g cap W2,(Builtin.append_ #[64,64] 64 #[.slice (some ⟨wr.heap.size,0,none⟩) 1 1,v]).run Tryd.prog (wr.alloc (.cells #[num x] 3))=.ok (.slice (some ⟨g,0,none⟩) (l.length+1) cap) W2 ∧
  ∃ vo' W4,(Builtin.append_ #[143,143] 143 #[vo,.slice (some ⟨W2.heap.size,0,none⟩) 1 1]).run Tryd.prog (W2.alloc (.cells #[.slice (some ⟨g,0,none⟩) (l.length+1) cap] 64))=.ok vo' W4 ∧
   W4.ownsRow base 64 1 vo' (vs.length+1) (vs++[.slice (some ⟨g,0,none⟩) (l.length+1) cap])∧RowsW W4 vo'.ownBlock (vs++[.slice (some ⟨g,0,none⟩) (l.length+1) cap]) (L++[x :: l])∧Nx Y W4∧wr.heap.size≤g ∧
   (∀ (us:List Value) (M:List (List Int)),RowsW wr vo.ownBlock us M→RowsW W4 vo'.ownBlock us M) ∧
   (∀ (u:Value) (xs:List (List Value)),Sl wr u 1 xs→(∀ b,u.ownBlock=some b→some b≠vo.ownBlock)→Sl W4 u 1 xs∧∀ b,u.ownBlock=some b→some b≠vo'.ownBlock):=by
 have hlt:∀ k,vo.ownBlock=some k→base≤k∧k<wr.heap.size:=hown.lt;have hYs:=hY.size;have a1:wr.grownBy (wr.alloc (.cells #[num x] 3)) none:=jxs wr _ none;have s1:(wr.alloc (.cells #[num x] 3)).heap.size=wr.heap.size+1:=by simp
 obtain⟨g,cap,W2,r1,r2,r3,r4⟩:=ycx (wr.alloc (.cells #[num x] 3)) wr.heap.size x (heap_alloc_new wr _) v l (hv.grown a1 (fun b hb e=>by cases e)) (by omega);have hg:wr.heap.size≤g:=by rcases r4 with h | h<;>omega
 have s2:=r3.size;have k12:wr.grownBy W2 none:=⟨r3.os.trans a1.os,r3.tape.trans a1.tape,r3.output.trans a1.output,by omega,fun k hk _=>(r3.block k (by omega) (by simp;omega)).trans (a1.block k hk (by simp))⟩;have hgl:=r2.blk g rfl;generalize hnv:Value.slice (some ⟨g,0,none⟩) (l.length+1) cap=nv at *;have hnb:nv.ownBlock=some g:=by rw [← hnv];rfl
 have a3:W2.grownBy (W2.alloc (.cells #[nv] 64)) none:=jxs W2 _ none;have s3:(W2.alloc (.cells #[nv] 64)).heap.size=W2.heap.size+1:=by simp
 have hW3:(W2.alloc (.cells #[nv] 64)).heap[W2.heap.size]?=some (.cells #[nv] 64 (0,0)):=heap_alloc_new W2 _;generalize hE:W2.alloc (.cells #[nv] 64)=W3 at *;have k13:wr.grownBy W3 none:=⟨a3.os.trans k12.os,a3.tape.trans k12.tape,a3.output.trans k12.output,by omega,fun k hk _=>(a3.block k (by omega) (by simp)).trans (k12.block k hk (by simp))⟩;have hown3:W3.ownsRow base 64 1 vo vs.length vs:=by
  refine⟨hown.1,?_⟩;rcases hown.2 with h | ⟨c,cp,cur,e,hb,hc,rest⟩
  ·exact .inl h
  ·exact .inr ⟨c,cp,cur,e,hb,(k13.block c (jxh.1 hc).1 (by simp)).trans hc,rest⟩
 obtain⟨vo',W4,q1,q2,q3,q4⟩:=ybk base W3 vo vs hown3 W2.heap.size nv hW3 (by rw [← hnv];exact ydn _ _ _) (by omega) (by omega);have ho:vo'.ownBlock=vo.ownBlock∨∃ k,vo'.ownBlock=some k∧W3.heap.size≤k:=q4.imp id fun h=>⟨_,h,jxc _⟩;have keepR:∀ (us:List Value) (M:List (List Int)),RowsW wr vo.ownBlock us M→RowsW W4 vo'.ownBlock us M:=fun us M h =>
  (h.grown k13 (.inr (.inl rfl)) (.inl rfl)).grown q3 (.inl rfl) ho
 have keepS:∀ (u:Value) (xs:List (List Value)),Sl wr u 1 xs→(∀ b,u.ownBlock=some b→some b≠vo.ownBlock)→Sl W4 u 1 xs∧∀ b,u.ownBlock=some b→some b≠vo'.ownBlock:=fun u xs h hb=>by
  have h3:=h.grown k13 (fun b _ e=>by cases e);refine⟨h3.grown q3 hb,fun b e=>?_⟩;rcases ho with h' | ⟨k,h',hk⟩
  ·rw [h'];exact hb b e
  ·have:=h3.blk b e
   rw [h'];intro e2;cases e2;omega
 have hnew:RowsW W4 vo'.ownBlock [nv] [x :: l]:=by
  have h2:RowsW W2 vo.ownBlock [nv] [x :: l]:=RowsW.one r2 fun b hb e=>by
   rw [hnb] at hb;cases hb
   have:=hlt g e.symm;omega
  exact (h2.grown a3 (.inr (.inl rfl)) (.inl rfl)).grown q3 (.inl rfl) ho
 have h3:Nx Y W3:=Nx.grown hY k13 (fun r h=>by cases h);have h4:Nx Y W4:=h3.grown q3 fun r h=>by rw [hbase];exact (hlt r h).1
 have hrr:=(keepR _ _ hrows).add hnew;subst hE;subst hnv;exact⟨g,cap,W2,r1,vo',W4,q1,q2,hrr,h4,hg,keepR,keepS⟩
theorem ybz:∀ (j n:Nat) (a:Int) (w:World),a+j=n→0≤a→n≤8 →
  CallsIn FL 0 Tryd.prog 88 #[num a,num n] w fun e w'=>∃ u vs,e=.returned u∧ydj w w' u vs ([] :: yab n j):=by
 intro j
 induction j using Nat.strongRecOn with
 | ind j IH =>
 intro n a w haj h0 hn;have hj8:j≤8:=by omega
 have HL:=jqr (yau (n:=(n:Int)) hj8);have nw:Nx w w:=jqy _ _;generalize hY:w.alloc (.cells #[.slice none 0 0] 64)=Y;have oY:Y.ownsRow w.heap.size 64 1 (.slice (some ⟨w.heap.size,0,none⟩) 1 1) 1 [.slice none 0 0]:=by
  refine⟨rfl,.inr ⟨w.heap.size,1,#[.slice none 0 0],rfl,jxc _,by rw [← hY];exact heap_alloc_new w _,jxc _,by simp [maxLen],by simp,by simp⟩⟩
 have nY:Nx w Y:=by rw [← hY];exact zaG nw _
 have rY:RowsW Y (some w.heap.size) [.slice none 0 0] [[]]:=RowsW.one ⟨0,.inl ⟨rfl,rfl⟩⟩ (fun b hb=>by cases hb);have HY:=jqr (And.intro oY rY);clear oY rY;gi_enter Tryd.func88,Tryd.ntmps88;gi_wp2
 gi_loopw [5,6] (fun vo vi wr=>∃ (k:Nat) (vs:List Value) (L:List (List Int)),k≤j∧vi=num (a+k)∧L++yab n (j-k)=[] :: yab n j∧wr.ownsRow w.heap.size 64 1 vo vs.length vs∧RowsW wr vo.ownBlock vs L∧(∀ v∈vs,∀ b,v.ownBlock=some b→w.heap.size≤b)∧Nx w wr) (fun _ vi _=>(n-intOf vi).toNat)
 case atStart=>exact⟨0,[.slice none 0 0],[[]],jxa _,by simp,rfl,HY.out.1,HY.out.2,by simp [Value.ownBlock],nY⟩
 case round =>
  obtain⟨k,vs,L,hk,rfl,hLs,hown,hrows,hvb,n1⟩:=hrel;have HOWN:=jqr hown;have HROWS:=jqr hrows;have HVB:=jqr hvb;have HLS:=jqr hLs;clear hown hrows hvb hLs;by_cases hlt:k<j
  ·have b1:decide (a+(k:Int)<(n:Int))=true:=decide_eq_true (by omega)
   obtain⟨j',hj'⟩:∃ j',j=k+1+j':=⟨j-k-1,by omega⟩;have kk:=IH j' (by omega) n (a+k+1) wr (by omega) (by omega) hn;have HT:=jqr (show yab n (j-k)=((([]:List Int) :: yab n j').map ((a+k) :: ·))++yab n j' from by
    rw [show j-k=j' + 1 by omega,yaj,show (n:Int)-((j' + 1:Nat):Int)=a+k by omega])
   have HLR:=jqr (fun (l:List Int) (h:l∈[] :: yab n j')=>ycc (n:=n) (j:=j') (by omega) h);have HLL:=jqr (yau (n:=(n:Int)) (j:=j') (by omega));generalize hW2:wr=W2 at *;clear hW2
   gi_wp2_with (first
    | (gi_at_call 88;refine jqs kk ?_;rintro e w3 ⟨ur,vr,rfl,hP⟩;have HP:=jqr hP;obtain⟨ar,cr,her⟩:=hP.sl.cases;rw [jqz] at her;have HLR2:=jqr hP.rows.1;subst her;clear hP kk)
    | gi_in)
   have n13:Nx w w3:=Nx.trans n1 HP.out.nx;have s13:W2.heap.size≤w3.heap.size:=HP.out.nx.size;have hvr:vr.length≤256:=by rw [HLR2.out,jxl];have:=HLL.out;omega
   have HVL:=jqr (show vs.length+vr.length≤256 by
    have e:=congrArg List.length HLS.out;have e2:=congrArg List.length HT.out;rw [jxi,jxl] at e;rw [jxi,jqz] at e2;have:=HROWS.out.1;have:=HL.out;rw [HLR2.out]
    omega)
   have hob:∀ b,u5.ownBlock=some b→b<W2.heap.size:=fun b hb=>(HOWN.out.lt b hb).2;have HR0:=jqr (HROWS.out.nx HP.out.nx);have HO0:=jqr (yc8 HOWN.out HP.out.nx);have HRR:=jqr (HP.out.rows.apart HP.out.vblk hob);have HUB:=jqr (show ∀ b,(Value.slice ar vr.length cr).ownBlock=some b→some b≠u5.ownBlock from fun b hb e=>absurd (hob b e.symm) (Nat.not_lt.2 (HP.out.ublk b hb)))
   gi_loopw [5,8] (fun vo vk wr=>∃ (m:Nat) (ws:List Value),m≤vr.length∧vk=num m∧wr.ownsRow w.heap.size 64 1 vo ws.length ws∧RowsW wr vo.ownBlock ws (L++((([]:List Int) :: yab n j').take m).map ((a+k) :: ·))∧(∀ v∈ws,∀ b,v.ownBlock=some b→w.heap.size≤b)∧RowsW wr vo.ownBlock vr ([] :: yab n j')∧(Sl wr (.slice ar vr.length cr) 1 (vr.map fun x=>[x])∧∀ b,(Value.slice ar vr.length cr).ownBlock=some b→some b≠vo.ownBlock)∧Nx w wr) (fun _ vk _=>vr.length-(intOf vk).toNat)
   case atStart=>exact⟨0,vs,jxa _,rfl,HO0.out,by simpa using HR0.out,HVB.out,HRR.out,⟨HP.out.sl,HUB.out⟩,n13⟩
   case round =>
    obtain⟨m,ws,hm,rfl,hown,hrows,hwb,hrr,hsr,n4⟩:=hrel;have hws:=hrows.1;have HOWN2:=jqr hown;have HROWS2:=jqr hrows;have HWB:=jqr hwb;have HRR2:=jqr hrr;have HSR:=jqr hsr;clear hown hrows hwb hrr hsr;by_cases hmt:m<vr.length
    ·obtain⟨b,off,ha,hbl,hcl⟩:=HSR.out.1.get (by simp;omega)
     subst ha;have hx:vr[m]?=some vr[m]:=jqx hmt;have hml:m<(([]:List Int) :: yab n j').length:=by rw [← HLR2.out];exact hmt
     have hy:(([]:List Int) :: yab n j')[m]?=some (([]:List Int) :: yab n j')[m]:=jqx hml;generalize vr[m]=v at hx;generalize (([]:List Int) :: yab n j')[m]=l at hy;have hvl:=HRR2.out.2 m v l hx hy;have hl8:=HLR.out l (List.mem_of_getElem? hy);have e1:wr.cell? ⟨b,off+m,none⟩=some v:=by
      have:=hcl m 0 [v] v (by simp [hx]) rfl
      simpa using this
     have hwl:ws.length≤255:=by
      have h1:=HVL.out;have h2:=HROWS.out.1;rw [hws,jxi,jqz,List.length_take];omega
     obtain⟨g,cap,V2,r1,vo',V4,q1,hown',hrows',n5,hg,keepR,keepS⟩:=ycd (Y:=w) (a+k) l v HOWN2.out HROWS2.out hvl.1 hl8 hwl n4 rfl;have htk:(([]:List Int) :: yab n j').take (m+1)=(([]:List Int) :: yab n j').take m++[l]:=by rw [jxf,hy];rfl
     have HTK:=jqr htk;have HEND:=jqr (And.intro hown' (And.intro hrows' (And.intro (keepR _ _ HRR2.out) (keepS _ _ HSR.out.1 HSR.out.2))));have HG:=jqr hg;clear hown' hrows' keepR keepS htk hcl hvl hx hy hg;simp [go_sem] at r1 q1;gi_wp2;refine⟨⟨m+1,ws++[.slice (some ⟨g,0,none⟩) (l.length+1) cap],hmt,by simp,by rw [jxi];exact HEND.out.1,by rw [HTK.out,List.map_append,← jxr];exact HEND.out.2.1,fun u hu c hc=>?_,HEND.out.2.2.1,HEND.out.2.2.2,n5⟩,by simp [intOf];omega⟩;rcases List.mem_append.1 hu with h | h
     ·exact HWB.out u h c hc
     ·rw [List.mem_singleton.1 h] at hc
      have e:some g=some c:=hc;have e2:g=c:=Option.some.inj e;have h1:=n4.size;have h2:=HG.out;rw [← e2];exact jxm h1 h2
    ·obtain rfl:m=vr.length:=by omega
     gi_wp2;refine⟨⟨k+1,ws,_,hlt,by simp;omega,?_,HOWN2.out,HROWS2.out,HWB.out,n4⟩,by simp [intOf];omega⟩;rw [List.take_of_length_le (by rw [HLR2.out];exact jxc _),jxr,show j-(k+1)=j' by omega,← HT.out];exact HLS.out
  ·obtain rfl:k=j:=by omega
   have b1:decide (a+(k:Int)<(n:Int))=false:=decide_eq_false (by omega);gi_wp2;go_ret;refine⟨_,vs,rfl,n1,ybj HOWN.out,?_,fun b hb=>(HOWN.out.lt b hb).1,HVB.out⟩;have:=HLS.out;rw [Nat.sub_self] at this;rw [← this]
   simpa [yab] using HROWS.out.forget
end Go.Proofs.YtolholkjeehamaaDoor

namespace Go.Proofs.YtolholkjeehamaaDoor
open Go.RowKit
theorem yce {d:Dit} (hO:d.Ok) (holder:Int):∀ (l:List Int) (s t:Int×Int×Int),yak d holder l s=some t→-1≤s.1→s.1≤7→(s.1≤t.1∧t.1≤7)∧(s.2.1≤t.2.1∧t.2.1-s.2.1≤2000000000 * (t.1-s.1))∧(s.2.2≤t.2.2∧t.2.2-s.2.2≤10000 * (t.1-s.1))
 | [],s,t,h,h0,h7=>by cases h;omega
 | k :: l,s,t,h,h0,h7=>by
  simp only [yak] at h
  cases hp:d.plotAt k with
  | none=>rw [hp] at h;cases h
  | some p =>
   rw [hp] at h;dsimp only at h
   split at h
   ·rename_i hh
    obtain⟨k0,k1,k2⟩:=yap hp;have hpl:=hO.pl _ p k2;have hnb:=zos hO (p:=p) (by omega);have h8:=hO.p8;have ih:=yce hO holder l _ t h (by dsimp only;omega) (by dsimp only;omega);dsimp only at ih;omega
   ·cases h
theorem ya9 {l:List Int} {i:Nat} {x:Int} (hx:l[i]?=some x) (d:Dit) (holder:Int) (s:Int×Int×Int):yak d holder (l.take (i+1)) s=(yak d holder (l.take i) s).bind (yak d holder [x]):=by
 rw [jxf,hx,Option.toList_some,yad]
theorem ycy {l:List Int} {i:Nat} {x:Int} (hx:l[i]?=some x) {d:Dit} {holder:Int} {s t:Int×Int×Int} (hs:yak d holder (l.take i) s=some t) (hn:yak d holder [x] t=none):yak d holder l s=none:=by
 have e:l=l.take i++x :: l.drop (i+1):=by
  have hl:=(jxk.1 hx);obtain⟨h1,h2⟩:=hl
  conv=>lhs;rw [← List.take_append_drop i l]
  rw [List.drop_eq_getElem_cons h1,h2]
 rw [e,yad,hs,jxo];simp only [yak] at hn ⊢
 cases hp:d.plotAt x with
 | none=>rfl
 | some p =>
  rw [hp] at hn;dsimp only at hn ⊢
  split at hn
  ·cases hn
  ·rename_i h;rw [if_neg h]
theorem ycz {d:Dit} {holder:Int} {t:Int×Int×Int} {x:Int} (h:∀ p,d.plotAt x=some p→¬ (t.1<x∧p.holder=holder∧(d.needs p).2=true)):yak d holder [x] t=none:=by
 simp only [yak]
 cases hp:d.plotAt x with
 | none=>rfl
 | some p=>dsimp only;rw [if_neg (h p hp)]
theorem ybw {d:Dit} {holder:Int} {t:Int×Int×Int} {x:Int} {p:Plot} (hp:d.plotAt x=some p) (h1:t.1<x) (h2:p.holder=holder) (h3:(d.needs p).2=true):yak d holder [x] t=some (x,t.2.1+(d.needs p).1,t.2.2+p.worth):=by
 simp only [yak,hp];rw [if_pos ⟨h1,h2,h3⟩]
theorem yba (d:Dit) (r:zaR) (holder most:Int) (l:List Int) (lv:Value) (w:World) (hd:DitSl w d r) (hO:d.Ok) (hl:Sl w lv 1 (l.map fun x=>[num x])) (hn:l.length≤1000000) :
  CallsIn FL 0 Tryd.prog 51 #[d.val r,num holder,num most,lv] w fun e w'=>e=.returned (.tuple #[num (yaa d holder most l).1,num (yaa d holder most l).2.1,.bool (yaa d holder most l).2.2])∧Nx w w':=by
 obtain⟨W,hW,n0,hWs,cW⟩:=boxed w d r;have nW:Nx W W:=jqy _ _;have h8:=hO.p8;obtain⟨al,cap,rfl⟩:=hl.cases;rw [jqz] at hl ⊢;obtain⟨ap,capp,ep⟩:=hd.plots.cases;rw [jqz] at ep;have hps:=hd.plots;rw [ep] at hps;have H13:=jqr (fun w1 (nx:Nx W w1)=>show w1.cell? ⟨w.heap.size,13,none⟩=some (.slice ap d.plots.length capp) from (cW w1 nx 13 r.p rfl).trans (by rw [ep]));have HCW:=jqr cW;have HPS:=jqr hps;have HL:=jqr hl;have HD:=jqr hd;have HOO:=jqr hO;clear hps hl cW ep hd hO;gi_enter Tryd.func51,Tryd.ntmps51;gi_wp2
 gi_loopw [11,12,13] (fun hv wv i wr=>∃ (k:Nat) (q h v:Int),k≤l.length∧i=num k∧hv=num h∧wv=num v∧yak d holder (l.take k) (-1,0,0)=some (q,h,v)∧(k=0→q=-1)∧(0<k→l[k-1]?=some q)∧Nx W wr) (fun _ _ i _=>l.length-(intOf i).toNat)
 case atStart=>exact⟨0,-1,0,0,jxa _,rfl,rfl,rfl,by simp [yak],fun _=>rfl,fun h=>absurd h (Nat.lt_irrefl _),nW⟩
 case round =>
  obtain⟨k,q,h,v,hk,rfl,rfl,rfl,hch,hq0,hq1,n2⟩:=hrel;have hO:=HOO.out;have hbd:=yce hO holder _ _ _ hch (by simp) (by simp);simp only [Int.sub_neg,Int.sub_zero] at hbd;have HCH:=jqr hch;have HQ0:=jqr hq0;clear hch hq0;by_cases hlt:k<l.length
  ·obtain⟨bl,offl,hal,hbll,hcll⟩:=HL.out.get (by simp;omega)
   subst hal;have hx:l[k]?=some l[k]:=jqx hlt;generalize l[k]=x at hx;have nw2:=Nx.trans n0 n2;have ex:wr.cell? ⟨bl,offl+k,none⟩=some (num x):=(nw2.cell (p:=⟨bl,offl+k,none⟩) hbll).trans (by have:=hcll k 0 [num x] (num x) (by simp [hx]) rfl;simpa using this);have HCL:=jqr hcll;clear hcll;have HOUT:=jqr (fun (hh:∀ p,d.plotAt x=some p→¬ (q<x∧p.holder=holder∧(d.needs p).2=true))=>show yaa d holder most l=(0,0,false) by
    unfold yaa;rw [ycy hx HCH.out (ycz hh)])
   have q13:=H13.out wr n2;by_cases hin:0≤x∧x≤(d.plots.length:Int)-1
   ·have k71:=zbK (zby x 0 ((d.plots.length:Int)-1) wr) hin
    obtain⟨m,rfl⟩:=jxg hin.1;have hml:m<d.plots.length:=by omega
    have hp:d.plots[m]?=some d.plots[m]:=jqx hml;generalize d.plots[m]=p at hp;have hpa:d.plotAt (m:Int)=some p:=by rw [yay];exact hp
    obtain⟨bp,offp,hap,hblp,hclp⟩:=HPS.out.get (by simp;omega);subst hap;have AT:=jqr (fun w1 (nx:Nx w w1)=>Sl.at6 hclp nx hblp hp);obtain⟨g0,g1,g2,g3,g4,g5⟩:=AT.out wr nw2;have kn:=yar d r m p wr (HD.out.nx nw2) hO hp;have hpl:=hO.pl m p hp;have hnb:=zos hO (p:=p) (by omega);have HPA:=jqr hpa;have hpw:=hpl.2.2.2.2.2;have H71:=jqr k71;have k71:=H71.out;have HC0:=jqr (zaS (HCW.out wr n2));clear hclp hp hpa hpl;generalize hnh:(d.needs p).1=nh at *;generalize hno:(d.needs p).2=no at *;have HNO:=jqr hno;have HNH:=jqr hnh;clear hno hnh;by_cases hk0:k=0
    ·subst hk0
     have hqm:q<(m:Int):=by have:=HQ0.out rfl;omega
     have ex0:wr.cell? ⟨bl,offl,none⟩=some (num m):=by simpa using ex
     clear ex;by_cases hho:p.holder=holder
     ·have bho:(p.holder != holder)=false:=by simpa using hho
      cases no with
      | false =>
       have HZ:=HOUT.out (fun p' hp' hh=>by
        have e:=HPA.out.symm.trans hp';obtain rfl:=Option.some.inj e;rw [HNO.out] at hh;exact absurd hh.2.2 (by simp))
       gi_upto_region 8 with (first
        | (gi_at_call 71;refine jqs k71 ?_;rintro e w1 ⟨rfl,rfl⟩)
        | gi_in)
       clear q13 g0 g1 g2 g3 g4 g5;obtain⟨c0,c1,c2,c3,c4,c5,c6,c7,c8,c9,c10,c11,c12,c13⟩:=HC0.out
       gi_wp2_with (first
        | (gi_at_call 86;refine jqs kn ?_;rintro e w1 ⟨rfl,n3⟩)
        | gi_in)
       refine bodyPost_ret (v:=.tuple #[num 0,num 0,.bool false]) (by simp [results,Tryd.results51,go_sem]) rfl ?_;exact⟨by rw [HZ],Nx.trans nw2 n3⟩
      | true =>
       have HST:Hid (yak d holder (l.take 1) (-1,0,0)=some ((m:Int),h+nh,v+p.worth)):=by
        show _=_;rw [show (1:Nat)=0+1 from rfl,ya9 hx,HCH.out,jxo,ybw HPA.out hqm hho HNO.out,HNH.out]
       gi_upto_region 8 with (first
        | (gi_at_call 71;refine jqs k71 ?_;rintro e w1 ⟨rfl,rfl⟩)
        | gi_in)
       clear q13 g0 g1 g2 g3 g4 g5;obtain⟨c0,c1,c2,c3,c4,c5,c6,c7,c8,c9,c10,c11,c12,c13⟩:=HC0.out;gi_upto_region 11 with (first
        | (gi_at_call 86;refine jqs kn ?_;rintro e w1 ⟨rfl,n3⟩)
        | gi_in)
       clear c0 c1 c2 c3 c4 c5 c6 c7 c8 c9 c10 c11 c12 c13;have q13:=H13.out w1 (Nx.trans n2 n3);obtain⟨g0,g1,g2,g3,g4,g5⟩:=AT.out w1 (Nx.trans nw2 n3);gi_big_quiet_th (fail);gi_wp2;exact⟨⟨1,m,h+nh,v+p.worth,hlt,by simp,rfl,rfl,HST.out,fun e=>absurd e (by omega),fun _=>by simpa using hx,Nx.drewN (Nx.trans n2 n3) _⟩,by simp [intOf];omega⟩
     ·have bho:(p.holder != holder)=true:=by simpa using hho
      have HZ:=HOUT.out (fun p' hp' hh=>by
       have e:=HPA.out.symm.trans hp';obtain rfl:=Option.some.inj e;exact hho hh.2.1)
      gi_wp2_with (first
       | (gi_at_call 71;refine jqs k71 ?_;rintro e w1 ⟨rfl,rfl⟩)
       | gi_in)
      refine bodyPost_ret (v:=.tuple #[num 0,num 0,.bool false]) (by simp [results,Tryd.results51,go_sem]) rfl ?_;exact⟨by rw [HZ],nw2⟩
    ·have hkp:0<k:=by omega
     have hqq:=hq1 hkp;have eq1:wr.cell? ⟨bl,offl+(k-1),none⟩=some (num q):=(nw2.cell (p:=⟨bl,offl+(k-1),none⟩) hbll).trans (by have:=HCL.out (k-1) 0 [num q] (num q) (by simp [hqq]) rfl;simpa using this);have ek1:((k:Int)-1).toNat=k-1:=by omega
     have hk1:(0:Int)≤(k:Int)-1∧(k:Int)-1<l.length:=by omega
     by_cases hqm:q<(m:Int)
     ·have bq:¬ ((m:Int)≤q):=by omega
      by_cases hho:p.holder=holder
      ·have bho:(p.holder != holder)=false:=by simpa using hho
       cases no with
       | false =>
        have HZ:=HOUT.out (fun p' hp' hh=>by
         have e:=HPA.out.symm.trans hp';obtain rfl:=Option.some.inj e;rw [HNO.out] at hh;exact absurd hh.2.2 (by simp))
        gi_upto_region 8 with (first
         | (gi_at_call 71;refine jqs k71 ?_;rintro e w1 ⟨rfl,rfl⟩)
         | gi_in)
        clear q13 g0 g1 g2 g3 g4 g5;obtain⟨c0,c1,c2,c3,c4,c5,c6,c7,c8,c9,c10,c11,c12,c13⟩:=HC0.out
        gi_wp2_with (first
         | (gi_at_call 86;refine jqs kn ?_;rintro e w1 ⟨rfl,n3⟩)
         | gi_in)
        refine bodyPost_ret (v:=.tuple #[num 0,num 0,.bool false]) (by simp [results,Tryd.results51,go_sem]) rfl ?_;exact⟨by rw [HZ],Nx.trans nw2 n3⟩
       | true =>
        have HST:Hid (yak d holder (l.take (k+1)) (-1,0,0)=some ((m:Int),h+nh,v+p.worth)):=by
         show _=_;rw [ya9 hx,HCH.out,jxo,ybw HPA.out hqm hho HNO.out,HNH.out]
        gi_upto_region 8 with (first
         | (gi_at_call 71;refine jqs k71 ?_;rintro e w1 ⟨rfl,rfl⟩)
         | gi_in)
        clear q13 g0 g1 g2 g3 g4 g5;obtain⟨c0,c1,c2,c3,c4,c5,c6,c7,c8,c9,c10,c11,c12,c13⟩:=HC0.out;gi_upto_region 11 with (first
         | (gi_at_call 86;refine jqs kn ?_;rintro e w1 ⟨rfl,n3⟩)
         | gi_in)
        clear c0 c1 c2 c3 c4 c5 c6 c7 c8 c9 c10 c11 c12 c13;have q13:=H13.out w1 (Nx.trans n2 n3);obtain⟨g0,g1,g2,g3,g4,g5⟩:=AT.out w1 (Nx.trans nw2 n3);gi_big_quiet_th (fail);gi_wp2;exact⟨⟨k+1,m,h+nh,v+p.worth,hlt,by simp,rfl,rfl,HST.out,fun e=>absurd e (by omega),fun _=>by simpa using hx,Nx.drewN (Nx.trans n2 n3) _⟩,by simp [intOf];omega⟩
      ·have bho:(p.holder != holder)=true:=by simpa using hho
       have HZ:=HOUT.out (fun p' hp' hh=>by
        have e:=HPA.out.symm.trans hp';obtain rfl:=Option.some.inj e;exact hho hh.2.1)
       gi_wp2_with (first
        | (gi_at_call 71;refine jqs k71 ?_;rintro e w1 ⟨rfl,rfl⟩)
        | gi_in)
       refine bodyPost_ret (v:=.tuple #[num 0,num 0,.bool false]) (by simp [results,Tryd.results51,go_sem]) rfl ?_;exact⟨by rw [HZ],nw2⟩
     ·have bq:(m:Int)≤q:=by omega
      have HZ:=HOUT.out (fun p' hp' hh=>by
       have e:=HPA.out.symm.trans hp';obtain rfl:=Option.some.inj e;exact hqm hh.1)
      gi_wp2_with (first
       | (gi_at_call 71;refine jqs k71 ?_;rintro e w1 ⟨rfl,rfl⟩)
       | gi_in)
      refine bodyPost_ret (v:=.tuple #[num 0,num 0,.bool false]) (by simp [results,Tryd.results51,go_sem]) rfl ?_;exact⟨by rw [HZ],nw2⟩
   ·have k71:=zbF (zby x 0 ((d.plots.length:Int)-1) wr) hin
    have HZ:=HOUT.out (fun p hp=>by
     obtain⟨k0,k1,_⟩:=yap hp
     omega)
    gi_wp2_with (first
     | (gi_at_call 71;refine jqs k71 ?_;rintro e w1 ⟨rfl,rfl⟩)
     | gi_in)
    refine bodyPost_ret (v:=.tuple #[num 0,num 0,.bool false]) (by simp [results,Tryd.results51,go_sem]) rfl ?_;exact⟨by rw [HZ],nw2⟩
  ·obtain rfl:k=l.length:=by omega
   have HE:Hid (yaa d holder most l=(h,v,decide (h≤most))):=by
    show _=_;have:=HCH.out;rw [jxe] at this;exact ya1 this
   have HDM:=jqr (show decide (h≤most)=decide (h≤most) from rfl);gi_wp2;refine bodyPost_ret (v:=.tuple #[num h,num v,.bool (decide (h≤most))]) (by simp [results,Tryd.results51,go_sem]) rfl ?_;exact⟨by rw [HE.out],Nx.trans n0 n2⟩
end Go.Proofs.YtolholkjeehamaaDoor

