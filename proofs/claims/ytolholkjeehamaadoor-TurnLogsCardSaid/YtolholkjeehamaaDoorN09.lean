/- For every ditch and any log the law TurnLogs returns true, does not panic, and leaves its arguments as they were. Conditions: the package's variables hold what the program lays in them at its start (laid), and the arguments are values as the card tells. -/
import Derived.Test.YtolholkjeehamaaDoorE1
import Derived.Test.YtolholkjeehamaaDoorE40
import Derived.Test.YtolholkjeehamaaDoorD39
import Derived.Test.YtolholkjeehamaaDoorD34
import Derived.Test.YtolholkjeehamaaDoorD09
import Derived.WalkKit
import Derived.Test.YtolholkjeehamaaDoorProg
import Derived.OwnWalkIn
import Derived.TacticsInMore
import Derived.RegionIn
import Derived.LoopNIn
import Derived.LoopIn
import Derived.RecoverIn
import Derived.Sort.BigQuietIn
import Derived.Sort.CutIn
import Derived.Handy
import Derived.Maps.OwnIn
import Derived.Maps.OwnSet
import Derived.Maps.RangeWalk
import Derived.Sort.MapsRangeIn
import Derived.Laws.IdiomStrings
import Derived.Lib.Hide
import Derived.Maps.AppendAt
import Derived.Lib.SliceRun
import Derived.RangeFuncNested
import Derived.RangeFuncBound
import Derived.RangeFuncCalls
import Derived.RangeFuncLeaves
import Derived.Shelf.Abstract
import Derived.Shelf.RegionOpen
import Derived.Stop.RegionWithIn
import Derived.Sort.QuietThIn
import Derived.StillTail
import Derived.Conc.SmallLaws
import Derived.Laws.MakeOwn
import Derived.Laws.EntriesVeiled
import Derived.Test.YtolholkjeehamaaDoorChecked
import Derived.ProofKit
import Derived.LaidMore
import Derived.OpenShut
import Derived.Stop.Joined
import Derived.Test.YtolholkjeehamaaDoorTie
import Derived.Test.YtolholkjeehamaaDoorCards
import Derived.Conc.LeavingOf
import Derived.SevenTiedAt
set_option linter.all false
set_option maxRecDepth 100000
set_option maxHeartbeats 4000000
open Go renaming undef → zu
namespace Go.Proofs.YtolholkjeehamaaDoor
open Go.RowKit Go.Con Go.Conc
local instance:Lone:=zcG
section
variable {dst:Option Nat} {ty:TypeId} {pos:String} {af:Array Edge} {x y c:Nat} {w:World} {gd:Option (Nat×Bool)} (e:Operand→Value)
end
theorem zgU {d:Dit} {n:Nat} (h:zbG d n=false):d.Small:=by
 unfold zbG at h
 simp only [Bool.or_eq_false_iff,decide_eq_false_iff_not] at h
 obtain⟨⟨⟨⟨⟨⟨⟨h1,h2⟩,h3⟩,h4⟩,h5⟩,h6⟩,h7⟩,h8⟩:=h
 have mem:∀ (l:List Nat) (x:Nat),x∈l→x≤sumL l:=by
  intro l
  induction l with
  | nil=>intro x hx;cases hx
  | cons y l ih =>
   intro x hx
   simp only [sumL]
   rcases List.mem_cons.1 hx with rfl | hx
   ·omega
   ·have:=ih x hx;omega
 refine⟨by omega,by omega,by omega,by omega,by omega,by omega,fun s hs=>?_,fun p hp=>?_⟩
 ·have:=mem _ _ (List.mem_map.2 ⟨s,hs,rfl⟩:s.length∈d.holders.map (·.length))
  omega
 ·have:=mem _ _ (List.mem_map.2 ⟨p,hp,rfl⟩:p.name.length∈d.plots.map (·.name.length))
  omega
end Go.Proofs.YtolholkjeehamaaDoor

namespace Go.Proofs.YtolholkjeehamaaDoor
open Go.RowKit Go.Con Go.Conc Go.ChangeShapes Go.WideShapes Go.ChangeAt
section
variable {H:Type} {enc:TypeId×Value→H} {W:World}
theorem ybr {v:Value} {dd:DataW H} {p:List MemPlace} {base:Nat} (hv:Value.okWide Tryd.prog W .any base 35 v) (h:DataW.Trod enc Tryd.prog W 0 (fun _=>true) true 35 v dd p) (hfit:Fits 35 dd) :
  ∃ (l:Lg) (al:Option Addr) (cap:Nat),v=.agg #[num l.lo,num l.hi,.slice al l.ops.length cap]∧Sl W (.slice al l.ops.length cap) 3 (l.ops.map three)∧Kind W (.slice al l.ops.length cap)∧l.ops.length≤281474976710656:=by
 simp only [Value.okWide,Tryd.underlying35] at hv
 obtain⟨cs,rfl,hsz,ts,hts,_,hcell⟩:=hv
 rw [show Tryd.prog.cellTypes Tryd.prog.depth 35=some [3,3,33] by kernel_rfl] at hts
 cases hts
 rw [show Tryd.prog.cellsOf 35=3 by kernel_rfl] at hsz
 obtain⟨fuel,hf⟩:=h
 simp only [Value.cells] at hf
 obtain⟨xs,m,_,hyy,_,hx,hg⟩:=DataW.trod_struct Tryd.underlying35 hf
 simp only [Prod.mk.injEq] at hyy
 obtain⟨rfl,rfl⟩:=hyy
 have hwt:(DataW.agg (xs.map (·.1)):DataW H).weights Tryd.prog 35=DataW.weightsEach Tryd.prog [28,33] (xs.map (·.1)):=by
  unfold DataW.weights
  rw [Tryd.underlying35]
  rfl
 unfold Fits at hfit
 rw [hwt] at hfit
 have hx0:∀ (i:Nat) (y:DataW H×List MemPlace) (t:TypeId),xs[i]?=some y→([28,33]:List TypeId)[i]?=some t→Fits t y.1:=fun i y t hy ht m hm=>hfit m (DataW.weights_mem_each ht (by rw [List.getElem?_map,hy];rfl) m hm)
 obtain⟨l⟩:=cs
 simp only [List.size_toArray] at hsz
 match l,hsz with
 | [u0,u1,u2],_ =>
  have c33:Tryd.prog.cellsOf 33=1:=by kernel_rfl
  have c28:Tryd.prog.cellsOf 28=2:=by kernel_rfl
  have g0:=hg 0 ⟨ "Clock",28,0,false,"","",0⟩ rfl
  have g1:=hg 1 ⟨ "Openings",33,2,false,"","",16⟩ rfl
  rw [List.getElem?_eq_getElem (by rw [hx];simp)] at g0 g1
  dsimp only at g0 g1
  rw [c28] at g0
  rw [c33] at g1
  simp only [List.drop_succ_cons,List.drop_zero,List.take_succ_cons,List.take_zero] at g0 g1
  have kc:Cell.okWide Tryd.prog W .any base 33 u2:=by
   obtain⟨t',h1,h2⟩:=hcell 2 u2 rfl
   have h3:([3,3,33]:List TypeId)[2 % 3]?=some 33:=rfl
   have e:t'=33:=by
    have:=h1.symm.trans h3
    exact Option.some.inj this
   rw [e] at h2
   exact h2
  obtain⟨ops,a1,a2,a3,a4,a5⟩:=zfb (en:=three) (ok:=fun _=>True) Tryd.underlying33 (by decide +kernel) (fun n cs' y h hff=>zhy Tryd.underlying59 rfl rfl rfl rfl rfl rfl (by kernel_rfl) h) g1 (hx0 1 _ _ (List.getElem?_eq_getElem _) rfl) kc
  obtain⟨⟨n1,n2⟩,q1,_⟩:=zeK Tryd.underlying28 rfl rfl rfl rfl c28 g0
  simp only [two,List.cons.injEq,and_true] at q1
  obtain⟨rfl,rfl⟩:=q1
  rw [show Tryd.prog.cellsOf 59=3 by kernel_rfl] at a1
  obtain⟨al,cap,e⟩:=a1.cases
  rw [List.length_map] at e
  subst e
  exact⟨⟨n1,n2,ops⟩,al,cap,rfl,a1,a3,Nat.le_trans a4 (by decide)⟩
end
end Go.Proofs.YtolholkjeehamaaDoor

namespace Go.Proofs.YtolholkjeehamaaDoor
open Go.RowKit
theorem zlX (d:Dit) (r:zaR) (h:Int) (w:World) (ht:d.Times) (hh : -1000000000000≤h∧h≤1000000000000) :
  CallsIn FL 0 Tryd.prog 104 #[d.val r,num h] w fun e w'=>e=.returned (num (zb0 d.week d.from_ d.long h))∧Nx w w':=by
 obtain⟨W,hW,n0,hWs,cW⟩:=boxed w d r
 have nWW:Nx W W:=Below.refl _ _
 have c3:W.cell? ⟨w.heap.size,3,none⟩=some (num d.week):=cW _ nWW 3 _ rfl
 have c4:W.cell? ⟨w.heap.size,4,none⟩=some (num d.from_):=cW _ nWW 4 _ rfl
 have c5:W.cell? ⟨w.heap.size,5,none⟩=some (num d.long):=cW _ nWW 5 _ rfl
 have hw:=ht.week
 have hf:=ht.from_
 have hl:=ht.long
 clear cW ht
 gi_enter Tryd.func104,Tryd.ntmps104
 by_cases hz:d.week=0
 ·have HR:Hid (zb0 d.week d.from_ d.long h=0):=by show _=_;simp [zb0,hz]
  rw [hz] at c3
  clear hz
  gi_wp2
  go_ret
  exact⟨by rw [HR.out];rfl,n0⟩
 ·gi_upto_region 3 with fail
  gi_big_quiet_th (fail)
  have h1:=zdK (a:=h.tdiv d.week) (b:=d.long) (m:=1000000000000) (n:=1000) (Nat.le_trans (zcg _ _) (by omega)) (by omega)
  have h2:=zeq h (b:=d.week) (by omega)
  have HA:=Lib.hid (zcO (n:=h.tdiv d.week * d.long) (by omega))
  have HB:=Lib.hid (zcO (n:=h.tmod d.week-d.from_) (by omega))
  have HZ:=Lib.hid hz
  have H1:=Lib.hid h1
  have H2:=Lib.hid h2
  clear h1 h2
  gi_wp2
  all_goals (
   go_ret
   refine⟨congrArg (fun x=>Ending.returned (num x)) ?_,Nx.drewN n0 _⟩
   have h1:=H1.out
   have h2:=H2.out
   have hA:=HA.out
   have hB:=HB.out
   simp only [hB] at *
   unfold zb0
   rw [if_neg HZ.out,hA]
   rw [zcO (by first | omega | (split at *<;>omega))]
   first | omega | (split at *<;>omega))
end Go.Proofs.YtolholkjeehamaaDoor

namespace Go.Proofs.YtolholkjeehamaaDoor
open Go.RowKit
theorem zjH (d:Dit) (r:zaR) (w:World) (hd:DitSl w d r) (hO:d.Ok):CallsIn FL 0 Tryd.prog 44 #[d.val r] w fun e w'=>e=.returned (num d.cyc)∧Nx w w':=by
 obtain⟨W,hW,n0,hWs,cW⟩:=boxed w d r
 obtain⟨at',capt,et⟩:=hd.turns.cases
 rw [List.length_map] at et
 have hv:=hd.turns.nx n0
 rw [et] at hv
 have c1:∀ w1,Nx W w1→w1.cell? ⟨w.heap.size,1,none⟩=some (.slice at' d.turns.length capt):=fun w1 n1=>(cW _ n1 1 r.t rfl).trans (by rw [et])
 have ht:=hO.t12
 have hb:=Lib.hid (fun k hk=>zd1 (fun x hx=>(hO.th x hx).2) k hk)
 clear cW et hO
 gi_enter Tryd.func44,Tryd.ntmps44
 gi_wp2
 gi_loopw [3,4] (fun n i wr=>∃ k:Nat,k≤d.turns.length∧i=num k∧n=num (sumTo d.turns k)∧Nx W wr) (fun _ i _=>d.turns.length-(intOf i).toNat)
 case atStart=>exact⟨0,Nat.zero_le _,rfl,rfl,Below.refl _ _⟩
 case round =>
  obtain⟨k,hk,rfl,rfl,n2⟩:=hrel
  have f1:=c1 _ n2
  have f1' : wr.cell? ⟨w.heap.size,1,none⟩=some (.slice at' d.turns.length capt):=f1
  by_cases hlt:k<d.turns.length
  ·obtain⟨b,off,ha,hbl,hcl⟩:=(hv.nx n2).get (by simp;omega)
   subst ha
   have hx:d.turns[k]?=some d.turns[k]:=List.getElem?_eq_getElem hlt
   have g1:=hcl k 1 (two d.turns[k]) (num d.turns[k].2) (by simp [hlt]) rfl
   have hs:sumTo d.turns (k+1)=sumTo d.turns k+d.turns[k].2:=by simp [sumTo,hx]
   have hb1:=hb.out k hk
   have hb2:=hb.out (k+1) hlt
   rw [hs] at hb2
   have HS:=Lib.hid hs
   generalize d.turns[k].2=x at g1 HS hb2
   generalize sumTo d.turns k=z at HS hb1 hb2 ⊢
   clear hcl hs hx hv
   gi_wp2
   exact⟨⟨k+1,hlt,by simp,by rw [HS.out],n2⟩,by simp [intOf];omega⟩
  ·obtain rfl:k=d.turns.length:=by omega
   clear hv
   gi_wp2
   go_ret
   exact⟨rfl,Nx.trans n0 n2⟩
end Go.Proofs.YtolholkjeehamaaDoor

namespace Go.Proofs.YtolholkjeehamaaDoor
theorem Dit.Ok.oth_len {d:Dit} (hO:d.Ok) (c:Int):(d.oth c).length=d.turns.length:=by
 by_cases hc:c∈d.keys
 ·rw [hO.chg.len c hc]
 ·rw [zoI hc];simp [Dit.us]
end Go.Proofs.YtolholkjeehamaaDoor

namespace Go.Proofs.YtolholkjeehamaaDoor
theorem yas {P:Int→Prop} {l:List Int} (h:∀ x∈l,P x) {v:Int} (hv:P v) (i:Nat):∀ x∈l.set i v,P x:=fun x hx=>by
 rcases List.mem_or_eq_of_mem_set hx with h1 | h1
 ·exact h x h1
 ·rw [h1];exact hv
theorem ya1 {P:Int→Prop} {l:List Int} (h:∀ x∈l,P x) (h0:P 0) (i:Nat):P ((l[i]?).getD 0):=by
 rcases hi:l[i]? with _ | x
 ·exact h0
 ·exact h x (List.mem_of_getElem? hi)
theorem ya2 {P:Int→Prop} (h0:P 0) (x:Int):∀ (sw:List (Int×Int×Int)) (us:List Int),(∀ v∈us,P v)→∀ v∈oth2 us sw x,P v
 | [],_,h=>h
 | s :: sw,us,h=>by
  show ∀ v∈oth2 (if s.1=x then zhD us s.2.1.toNat s.2.2.toNat else us) sw x,P v
  refine ya2 h0 x sw _ ?_
  split
  ·exact yas (yas h (ya1 h h0 _) _) (ya1 h h0 _) _
  ·exact h
theorem ya3 {P:Int→Prop} (x:Int):∀ (lo:List (Int×Int×Int)) (us:List Int),(∀ s∈lo,P s.2.2)→(∀ v∈us,P v)→∀ v∈oth3 us lo x,P v
 | [],_,_,h=>h
 | s :: lo,us,hl,h=>by
  show ∀ v∈oth3 (if s.1=x then us.set s.2.1.toNat s.2.2 else us) lo x,P v
  refine ya3 x lo _ (fun s hs=>hl s (List.mem_cons_of_mem _ hs)) ?_
  split
  ·exact yas h (hl s (List.mem_cons_self ..)) _
  ·exact h
theorem Dit.Ok.oth_all {d:Dit} (hO:d.Ok) (x:Int):∀ v∈d.oth x,0≤v∧v≤(d.holders.length:Int)-1:=by
 have hu:∀ v∈d.us,0≤v∧v≤(d.holders.length:Int)-1:=fun v hv=>by
  obtain⟨y,hy,rfl⟩:=List.mem_map.1 hv
  exact (hO.th y hy).1
 have h0:0≤(0:Int)∧(0:Int)≤(d.holders.length:Int)-1:=by
  rcases ht:d.turns with _ | ⟨y,l⟩
  ·have:=hO.t12;rw [ht] at this;simp at this
  ·have:=(hO.th y (by rw [ht];exact List.mem_cons_self ..)).1;omega
 exact ya3 (P:=fun v=>0≤v∧v≤(d.holders.length:Int)-1) x _ _ (fun s hs=>(hO.lo s hs).2.2) (ya2 h0 x _ _ hu)
theorem Dit.Ok.hour {d:Dit} (hO:d.Ok) {h:Int} (hh:0≤h):(d.owner h=(-1,-1,-1)∧d.ran (h+1)=d.ran h) ∨
  (∃ k c t,d.owner h=(k,c,t)∧(0≤k∧k≤(d.holders.length:Int)-1)∧0≤c∧(0≤t∧t<(d.turns.length:Int))∧d.begin_≤h∧d.ran (h+1)=d.ran h+1):=by
 have hs:=hO.ran_step hh
 by_cases hr:d.runs h=true
 ·have hr0:=hO.ran_nonneg h
  have hT:=hO.cyc_pos
  rw [if_pos hr] at hs
  have hq:0≤(d.ran h).tdiv d.cyc:=Int.tdiv_nonneg hr0 (by omega)
  have htl:=hO.turn_lt (d.ran h)
  have hl:=hO.oth_len ((d.ran h).tdiv d.cyc)
  have ha:=hO.oth_all ((d.ran h).tdiv d.cyc)
  have hw:(if (d.ran h).tdiv d.cyc∈d.keys then d.oth ((d.ran h).tdiv d.cyc) else d.us)=d.oth ((d.ran h).tdiv d.cyc):=by
   split
   ·rfl
   ·rename_i hn;rw [zoI hn]
  have hat:d.at d.ends d.cyc h=((d.ran h).tdiv d.cyc,(zei d.ends ((d.ran h).tmod d.cyc) 12 0:Int)):=by unfold Dit.at;rw [if_neg (by omega)]
  have hb:d.begin_≤h:=by
   rcases Int.lt_or_le h d.begin_ with hlt | hle
   ·have:=zjJ (d:=d) (h:=h) (by omega)
    have:=zjJ (d:=d) (h:=h+1) (by omega)
    omega
   ·exact hle
  refine .inr ⟨_,_,_,rfl,?_,?_,?_,hb,hs⟩
  ·rw [hat]
   unfold whoS
   simp only []
   rw [if_neg (by omega),hw,Int.toNat_natCast]
   generalize zei d.ends ((d.ran h).tmod d.cyc) 12 0=t at htl
   generalize d.oth ((d.ran h).tdiv d.cyc)=l at hl ha
   rw [List.getElem?_eq_getElem (show t<l.length by omega)]
   exact ha _ (List.getElem_mem _)
  ·rw [hat];exact hq
  ·rw [hat];exact⟨by simp,by simpa using htl⟩
 ·rw [if_neg hr] at hs
  have hat:d.at d.ends d.cyc h=(-1,-1):=by unfold Dit.at;rw [if_pos (by omega)]
  refine .inl ⟨?_,by omega⟩
  unfold Dit.owner whoS
  rw [hat]
  simp
end Go.Proofs.YtolholkjeehamaaDoor

namespace Go.Proofs.YtolholkjeehamaaDoor
open Go.RowKit
theorem yak (n:Nat) (a x:Int):x∈ze1 a n↔a≤x∧x<a+n:=by
 unfold ze1
 rw [List.mem_map]
 constructor
 ·rintro ⟨i,hi,rfl⟩
  rw [List.mem_range] at hi
  omega
 ·intro h
  exact⟨(x-a).toNat,List.mem_range.2 (by omega),by omega⟩
theorem yb4 {d:Dit} {holder a b c:Int} (h:a≤b):d.out holder a b c=true↔∃ x,(a+c≤x∧x<b+c)∧(d.owner x).1≠holder:=by
 unfold Dit.out
 rw [List.any_eq_true]
 constructor
 ·rintro ⟨x,hx,h1⟩
  rw [yak] at hx
  exact⟨x,by omega,by simpa using h1⟩
 ·rintro ⟨x,hx,h1⟩
  exact⟨x,(yak ..).2 (by omega),by simpa using h1⟩
def ybf (d:Dit) (l:Lg) (n:Int) (i:Nat):Bool:=match l.ops[i]? with | some o=>d.out o.1 o.2.1 o.2.2 n | none=>false
theorem yae (d:Dit) (l:Lg) (n:Int) (i:Nat):∀ k,cntI (outL d l n k) i=if i<k∧ybf d l n i=true then 1 else 0
 | 0=>by simp [outL,cntI]
 | k+1=>by
  have ih:=yae d l n i k
  have hc:cntI (outL d l n (k+1)) i=cntI (outL d l n k) i+(if ybf d l n k=true∧i=k then 1 else 0):=by
   have e:outL d l n (k+1)=outL d l n k++(match l.ops[k]? with | some o=>if d.out o.1 o.2.1 o.2.2 n then [(k:Int)] else [] | none=>[]):=rfl
   rw [e]
   unfold cntI ybf
   rw [List.count_append]
   cases l.ops[k]? with
   | none=>simp
   | some o =>
    dsimp only
    by_cases ho:d.out o.1 o.2.1 o.2.2 n=true
    ·rw [if_pos ho,List.count_singleton]
     by_cases hik:i=k
     ·subst hik;simp [ho]
     ·have:((k:Int) == (i:Int))=false:=by simp;omega
      simp [this,hik]
    ·rw [if_neg ho]
     simp [ho]
  rw [hc,ih]
  by_cases hik:i=k
  ·subst hik
   simp
  ·have e1:(i<k+1∧ybf d l n i=true)↔(i<k∧ybf d l n i=true):=by
    constructor<;>rintro ⟨a,b⟩<;>exact⟨by omega,b⟩
   rw [if_neg (show ¬ (ybf d l n k=true∧i=k) from fun h=>hik h.2),Int.add_zero]
   simp only [e1]
theorem yal (d:Dit) (l:Lg) (i:Nat):∀ L:List Nat,(zbB d l L i=L.length↔∀ k∈L,cntI (outL d l (l.lo+k) l.ops.length) i=1)∧(zbB d l L i=0↔∀ k∈L,cntI (outL d l (l.lo+k) l.ops.length) i=0)
 | []=>by simp [zbB]
 | k :: L=>by
  obtain⟨h1,h2⟩:=yal d l i L
  have h3:=zkc d l i L
  have h4:=zjN d l (l.lo+k) i l.ops.length
  have h5:0≤cntI (outL d l (l.lo+k) l.ops.length) i∧cntI (outL d l (l.lo+k) l.ops.length) i≤1:=by split at h4<;>omega
  simp only [zbB,List.length_cons,List.forall_mem_cons,← h1,← h2]
  constructor<;>omega
theorem yag:∀ (n k:Nat),k∈kks n↔k<n
 | 0,k=>by simp [kks]
 | n+1,k=>by simp [kks,yag n k];omega
theorem ya4 (all:Int) (f:Nat→Int):∀ (k i:Nat),i<k→(belL all f k)[i]?=some (belS all (f i))
 | k+1,i,h=>by
  have hl:=zhH all f k
  unfold belL
  by_cases e:i=k
  ·subst e
   rw [List.getElem?_append_right (by omega),hl]
   simp
  ·rw [List.getElem?_append_left (by omega)]
   exact ya4 all f k i (by omega)
structure ycj (d:Dit) (l:Lg) (o:Int×Int×Int) (b:Int):Prop where
 one:b=0∨b=1∨b=2
 sure:b=1↔∀ c,l.lo≤c→c≤l.hi→d.out o.1 o.2.1 o.2.2 c=true
 never:b=2↔∀ c,l.lo≤c→c≤l.hi→d.out o.1 o.2.1 o.2.2 c=false
theorem yam {d:Dit} {l:Lg} (h:logS d l=0):(zc9 d l).2=0∧(zc9 d l).1.length=l.ops.length∧∀ (i:Nat) o,l.ops[i]?=some o→∃ b,(zc9 d l).1[i]?=some b∧ycj d l o b:=by
 obtain⟨hL,hcl⟩:=zoD h
 have e:zc9 d l=(belL (capN l) (zbB d l (kks (capN l))) l.ops.length,0):=by unfold zc9;rw [if_neg (by simp [h])]
 rw [e]
 refine⟨rfl,zhH ..,fun i o ho=>⟨_,ya4 _ _ _ _ (List.getElem?_eq_some_iff.1 ho).1,?_⟩⟩
 have hil:=(List.getElem?_eq_some_iff.1 ho).1
 obtain⟨h1,h2⟩:=yal d l i (kks (capN l))
 rw [zfc] at h1
 have hcap:(capN l:Int)=l.hi-l.lo+1:=by unfold capN;omega
 have hi:∀ n,ybf d l n i=d.out o.1 o.2.1 o.2.2 n:=fun n=>by unfold ybf;rw [ho]
 have hk1:zbB d l (kks (capN l)) i=capN l↔∀ c,l.lo≤c→c≤l.hi→d.out o.1 o.2.1 o.2.2 c=true:=by
  rw [h1]
  constructor
  ·intro H c c1 c2
   have:=H (c-l.lo).toNat ((yag ..).2 (by omega))
   rw [yae,show l.lo+((c-l.lo).toNat:Int)=c by omega,hi] at this
   split at this
   ·rename_i g;exact g.2
   ·cases this
  ·intro H k hk
   rw [yag] at hk
   rw [yae,hi,if_pos ⟨hil,H _ (by omega) (by omega)⟩]
 have hk2:zbB d l (kks (capN l)) i=0↔∀ c,l.lo≤c→c≤l.hi→d.out o.1 o.2.1 o.2.2 c=false:=by
  rw [h2]
  constructor
  ·intro H c c1 c2
   have:=H (c-l.lo).toNat ((yag ..).2 (by omega))
   rw [yae,show l.lo+((c-l.lo).toNat:Int)=c by omega,hi] at this
   split at this
   ·cases this
   ·rename_i g
    cases hb:d.out o.1 o.2.1 o.2.2 c with
    | false=>rfl
    | true=>exact absurd ⟨hil,hb⟩ g
  ·intro H k hk
   rw [yag] at hk
   rw [yae,hi,if_neg (by rw [H _ (by omega) (by omega)];simp)]
 generalize zbB d l (kks (capN l)) i=m at hk1 hk2 ⊢
 unfold belS
 refine⟨?_,?_,?_⟩
 ·split
  ·exact .inr (.inl rfl)
  ·split
   ·exact .inr (.inr rfl)
   ·exact .inl rfl
 ·rw [← hk1]
  split
  ·rename_i g;simp [g]
  ·split<;>rename_i g1 g2<;>simp [g1]
 ·rw [← hk2]
  split
  ·rename_i g
   subst g
   constructor
   ·intro h;cases h
   ·intro h;omega
  ·split<;>rename_i g1 g2<;>simp [g2]
end Go.Proofs.YtolholkjeehamaaDoor

namespace Go.Proofs.YtolholkjeehamaaDoor
open Go.RowKit
theorem yaa (d:Dit) (r:zaR) (l:Lg) (v:Value) (w:World) (hd:DitSl w d r) (hs:d.Small) (hl:Sl w v 3 (l.ops.map three)) (hls:l.ops.length≤1000000000) :
  CallsIn FL 0 Tryd.prog 27 #[d.val r,.agg #[num l.lo,num l.hi,v]] w fun e w'=>e=.returned (num (logS d l))∧Nx w w':=by
 obtain⟨a,cap,rfl⟩:=hl.cases
 rw [List.length_map] at hl ⊢
 obtain⟨W,hW,n0,hWs,cW⟩:=boxed w d r
 generalize hY:W.alloc (.cells #[num l.lo,num l.hi,.slice a l.ops.length cap] 35)=Y
 have sY:Y.heap.size=w.heap.size+1+1:=by rw [← hY];simp [hWs]
 have nY:Nx W Y:=by rw [← hY];exact zaG (Below.refl _ _) _
 have nwY:Nx w Y:=Nx.trans n0 nY
 have cq:∀ w1,Nx Y w1→w1.cell? ⟨w.heap.size+1,0,none⟩=some (num l.lo)∧w1.cell? ⟨w.heap.size+1,1,none⟩=some (num l.hi)∧w1.cell? ⟨w.heap.size+1,2,none⟩=some (.slice a l.ops.length cap):=by
  intro w1 n1
  have k:∀ i u,#[num l.lo,num l.hi,.slice a l.ops.length cap][i]?=some u→w1.cell? ⟨w.heap.size+1,i,none⟩=some u:=fun i u h =>
   (n1.cell (p:=⟨w.heap.size+1,i,none⟩) (by show w.heap.size+1<_;omega)).trans (by rw [← hY,← hWs];exact zaw _ _ _ _ _ h)
  exact⟨k 0 _ rfl,k 1 _ rfl,k 2 _ rfl⟩
 obtain⟨c0,c1,c2,c3,c4,c5,c6,c7,c8,c9,c10,c11,c12,c13⟩:=zaS (cW _ nY)
 obtain⟨ah,caph,eh⟩:=hd.holders.cases
 rw [List.length_map] at eh
 have CH:=Lib.hid (show ∀ w2,Nx Y w2→w2.cell? ⟨w.heap.size,0,none⟩=some (.slice ah d.holders.length caph) from fun w2 o=>(cW w2 (Nx.trans nY o) 0 r.h rfl).trans (by rw [eh]))
 have k25:=zgI d r Y (hd.nx nwY) hs
 have hhl:=hs.h
 clear eh
 by_cases hc:zaF d=0
 ·rw [hc] at k25
  by_cases hi : -100≤l.lo∧l.lo≤l.hi∧l.hi≤100
  ·have k70:=fun w1=>zbK (zc0 l.lo l.hi (-100) 100 w1) hi
   by_cases hn:20<l.ops.length
   ·have HA:Hid (logS d l=2):=by show _=_;unfold logS;rw [if_neg (by simp [hc]),if_neg (by simpa using hi),if_pos hn]
    have b1:decide ((l.ops.length:Int) > 20)=true:=by simp;omega
    clear hc cW hl
    gi_enter Tryd.func27,Tryd.ntmps27
    gi_wp2_with (first
     | (gi_at_call 25;refine CallsIn.mono k25 ?_;rintro e w1 ⟨rfl,n1⟩;obtain⟨q0,q1,q2⟩:=cq _ n1)
     | (gi_at_call 70;refine CallsIn.mono (k70 _) ?_;rintro e w2 ⟨rfl,n2⟩;obtain⟨p0,p1,p2⟩:=cq _ (Nx.trans n1 n2))
     | gi_in)
    go_ret
    exact⟨by rw [HA.out];rfl,Nx.trans nwY (Nx.trans n1 n2)⟩
   ·have HL:Hid (logS d l=scan (zjq d.holders.length) 0 l.ops):=by show _=_;unfold logS;rw [if_neg (by simp [hc]),if_neg (by simpa using hi),if_neg hn]
    have b1:decide ((l.ops.length:Int) > 20)=false:=by simp;omega
    clear hc cW
    gi_enter Tryd.func27,Tryd.ntmps27
    gi_upto_region 8 with (first
     | (gi_at_call 25;refine CallsIn.mono k25 ?_;rintro e w1 ⟨rfl,n1⟩;obtain⟨q0,q1,q2⟩:=cq _ n1)
     | (gi_at_call 70;refine CallsIn.mono (k70 _) ?_;rintro e w2 ⟨rfl,n2⟩;obtain⟨p0,p1,p2⟩:=cq _ (Nx.trans n1 n2))
     | gi_in)
    have n12:=Nx.trans n1 n2
    have hl2:Sl w2 (.slice a l.ops.length cap) 3 (l.ops.map three):=hl.nx (Nx.trans nwY n12)
    clear hl q0 q1 q2 p0 p1 p2 k25 k70 c0 c1 c2 c3 c4 c5 c6 c7 c8 c9 c10 c11 c12 c13
    gi_wp2
    gi_loopw [6] (fun i wr=>∃ k:Nat,k≤l.ops.length∧i=num k∧(scan (zjq d.holders.length) 0 l.ops=scan (zjq d.holders.length) k (l.ops.drop k))∧Nx w2 wr) (fun i _=>l.ops.length-(intOf i).toNat)
    case atStart=>exact⟨0,Nat.zero_le _,rfl,rfl,Below.refl _ _⟩
    case round =>
     obtain⟨k,hk,rfl,hsc,nr⟩:=hrel
     obtain⟨q0,q1,q2⟩:=cq _ (Nx.trans n12 nr)
     have ch0:=CH.out _ (Nx.trans n12 nr)
     by_cases hlt:k<l.ops.length
     ·obtain⟨b,off,ha,hbl,hcl⟩:=hl2.get (by simp;omega)
      subst ha
      have hx:l.ops[k]?=some l.ops[k]:=List.getElem?_eq_getElem hlt
      generalize hxk:l.ops[k]=x at hx
      clear hxk
      obtain⟨x1,x2,x3⟩:=x
      obtain⟨g1,g2,g3⟩:=Sl.at3 hcl nr hbl hx
      have HG:=Lib.hid fun h0=>zbL hx h0 hsc
      have HS:=Lib.hid fun h0=>za4 hx h0 hsc
      have nr1:∀ o,Nx w2 (wr.alloc o):=fun o=>zaG nr o
      have ch1:(wr.alloc (.cells #[.int .i64 x1,.int .i64 x2,.int .i64 x3] 59)).cell? ⟨w.heap.size,0,none⟩=some (.slice ah d.holders.length caph):=CH.out _ (Nx.trans n12 (nr1 _))
      have tH:∀ w1,CallsIn FL 0 Tryd.prog 71 #[num x1,num 0,num ((d.holders.length:Int)-1)] w1 _:=fun w1=>zby x1 0 (d.holders.length-1) w1
      have t1:∀ w1,CallsIn FL 0 Tryd.prog 71 #[num x2,num 0,num 999999999] w1 _:=fun w1=>zby x2 0 999999999 w1
      have t2:∀ w1,CallsIn FL 0 Tryd.prog 71 #[num x3,num 0,num 999999999] w1 _:=fun w1=>zby x3 0 999999999 w1
      have hfx:zjq d.holders.length k (x1,x2,x3)=if 0≤x1∧x1≤(d.holders.length:Int)-1 then (if (0≤x2∧x2≤999999999)∧(0≤x3∧x3≤999999999) then (if x3≤x2 then 7 else if x3-x2 > 50 then 8 else 0) else 1) else 6:=rfl
      clear hsc hcl hx hl2 hW hY
      have bad:∀ {c:Int},zjq d.holders.length k (x1,x2,x3)=c→c≠0→Hid (logS d l=c):=fun {c} h h0=>by
       show _=_;rw [HL.out,HS.out (by rw [h];exact h0),h]
      by_cases hh:0≤x1∧x1≤(d.holders.length:Int)-1
      ·have tH:=fun w1=>zbK (tH w1) hh
       rw [if_pos hh] at hfx
       by_cases p1:0≤x2∧x2≤999999999
       ·have t1:=fun w1=>zbK (t1 w1) p1
        by_cases p2:0≤x3∧x3≤999999999
        ·have t2:=fun w1=>zbK (t2 w1) p2
         rw [if_pos ⟨p1,p2⟩] at hfx
         by_cases p3:x3≤x2
         ·rw [if_pos p3] at hfx
          have HF:=bad hfx (by decide)
          have b2:decide (x3≤x2)=true:=decide_eq_true p3
          clear HG HS hfx bad hh
          gi_wp2_with (first
           | (gi_at_call 71;(first | (with_reducible refine CallsIn.mono (tH _) ?_) | (with_reducible refine CallsIn.mono (t1 _) ?_) | (with_reducible refine CallsIn.mono (t2 _) ?_));rintro e w3 ⟨rfl,rfl⟩)
           | gi_in)
          go_ret
          exact⟨by rw [HF.out];rfl,Nx.trans nwY (Nx.trans n12 (nr1 _))⟩
         ·rw [if_neg p3] at hfx
          have b2:decide (x3≤x2)=false:=decide_eq_false p3
          by_cases p4:x3-x2 > 50
          ·rw [if_pos p4] at hfx
           have HF:=bad hfx (by decide)
           have b3:decide (x3-x2 > 50)=true:=decide_eq_true p4
           clear HG HS hfx bad hh
           gi_wp2_with (first
            | (gi_at_call 71;(first | (with_reducible refine CallsIn.mono (tH _) ?_) | (with_reducible refine CallsIn.mono (t1 _) ?_) | (with_reducible refine CallsIn.mono (t2 _) ?_));rintro e w3 ⟨rfl,rfl⟩)
            | gi_in)
           go_ret
           exact⟨by rw [HF.out];rfl,Nx.trans nwY (Nx.trans n12 (nr1 _))⟩
          ·rw [if_neg p4] at hfx
           have hz:=Lib.hid (HG.out hfx)
           have b3:decide (x3-x2 > 50)=false:=decide_eq_false p4
           clear HG HS hfx bad hh
           gi_wp2_with (first
            | (gi_at_call 71;(first | (with_reducible refine CallsIn.mono (tH _) ?_) | (with_reducible refine CallsIn.mono (t1 _) ?_) | (with_reducible refine CallsIn.mono (t2 _) ?_));rintro e w3 ⟨rfl,rfl⟩)
            | gi_in)
           exact⟨⟨k+1,hlt,by simp,hz.out,nr1 _⟩,by simp [intOf];omega⟩
        ·have t2:=fun w1=>zbF (t2 w1) p2
         rw [if_neg fun h=>p2 h.2] at hfx
         have HF:=bad hfx (by decide)
         clear HG HS hfx bad hh
         gi_wp2_with (first
          | (gi_at_call 71;(first | (with_reducible refine CallsIn.mono (tH _) ?_) | (with_reducible refine CallsIn.mono (t1 _) ?_) | (with_reducible refine CallsIn.mono (t2 _) ?_));rintro e w3 ⟨rfl,rfl⟩)
          | gi_in)
         go_ret
         exact⟨by rw [HF.out];rfl,Nx.trans nwY (Nx.trans n12 (nr1 _))⟩
       ·have t1:=fun w1=>zbF (t1 w1) p1
        rw [if_neg fun h=>p1 h.1] at hfx
        have HF:=bad hfx (by decide)
        clear HG HS hfx bad hh
        gi_wp2_with (first
         | (gi_at_call 71;(first | (with_reducible refine CallsIn.mono (tH _) ?_) | (with_reducible refine CallsIn.mono (t1 _) ?_) | (with_reducible refine CallsIn.mono (t2 _) ?_));rintro e w3 ⟨rfl,rfl⟩)
         | gi_in)
        go_ret
        exact⟨by rw [HF.out];rfl,Nx.trans nwY (Nx.trans n12 (nr1 _))⟩
      ·have tH:=fun w1=>zbF (tH w1) hh
       rw [if_neg hh] at hfx
       have HF:=bad hfx (by decide)
       clear HG HS hfx bad
       gi_wp2_with (first
        | (gi_at_call 71;(first | (with_reducible refine CallsIn.mono (tH _) ?_) | (with_reducible refine CallsIn.mono (t1 _) ?_) | (with_reducible refine CallsIn.mono (t2 _) ?_));rintro e w3 ⟨rfl,rfl⟩)
        | gi_in)
       go_ret
       exact⟨by rw [HF.out];rfl,Nx.trans nwY (Nx.trans n12 (nr1 _))⟩
     ·obtain rfl:k=l.ops.length:=by omega
      have hz:=Lib.hid (zbi hsc)
      clear hl2 hsc
      gi_wp2
      go_ret
      exact⟨by rw [HL.out,hz.out];rfl,Nx.trans nwY (Nx.trans n12 nr)⟩
  ·have HA:Hid (logS d l=1):=by show _=_;unfold logS;rw [if_neg (by simp [hc]),if_pos hi]
   have k70:=fun w1=>zbF (zc0 l.lo l.hi (-100) 100 w1) hi
   clear hc cW hl hi
   gi_enter Tryd.func27,Tryd.ntmps27
   gi_wp2_with (first
    | (gi_at_call 25;refine CallsIn.mono k25 ?_;rintro e w1 ⟨rfl,n1⟩;obtain⟨q0,q1,q2⟩:=cq _ n1)
    | (gi_at_call 70;refine CallsIn.mono (k70 _) ?_;rintro e w2 ⟨rfl,n2⟩)
    | gi_in)
   go_ret
   exact⟨by rw [HA.out];rfl,Nx.trans nwY (Nx.trans n1 n2)⟩
 ·have HA:Hid (logS d l=zaF d):=by show _=_;unfold logS;rw [if_pos hc]
  have hb:(zaF d != 0)=true:=by simpa using hc
  generalize zaF d=ck at *
  clear hc cW hl
  gi_enter Tryd.func27,Tryd.ntmps27
  gi_wp2_with (first
   | (gi_at_call 25;refine CallsIn.mono k25 ?_;rintro e w1 ⟨rfl,n1⟩)
   | gi_in)
  go_ret
  exact⟨by rw [HA.out];rfl,Nx.trans nwY n1⟩
end Go.Proofs.YtolholkjeehamaaDoor

namespace Go.Proofs.YtolholkjeehamaaDoor
open Go.RowKit
def ycd (d:Dit) (holder:Int) (l:List Int):Bool:=l.any fun h=>decide ((d.owner h).1≠holder)
end Go.Proofs.YtolholkjeehamaaDoor

namespace Go.Proofs.YtolholkjeehamaaDoor
open Go.RowKit
section
variable {F:Fence} {n:Nat} {ops:Array Oper} {C:World→Prop} {a:Act} {dst:Option Nat} {ty:TypeId} {pos:String} {af:Array Edge}
theorem zks {s B:Nat} (h:a.eval (.tmp s)=.pointer (some ⟨B,0,none⟩)):YieldsC F n Tryd.prog ops C ⟨dst,.fieldAddr 31 (.tmp s) 2,ty,pos,af,none⟩ (.pointer (some ⟨B,2,none⟩)) a :=
 yC rfl (fun _=>rfl) fun x _=>by generalize a.eval=ρ at h ⊢;simp [execOp,go_sem,h]
theorem zpI {s i:Nat} {x y:Int} (h:a.eval (.tmp s)=num x) (hi:a.eval (.tmp i)=num y) (hy:0<y) (hb : -9223372036854775808≤x.tdiv y∧x.tdiv y≤9223372036854775807):YieldsC F n Tryd.prog ops C ⟨dst,.binOp .quo 3 (.tmp s) (.tmp i) 3,ty,pos,af,none⟩ (num (x.tdiv y)) a :=
 yC rfl (fun _=>rfl) fun w _=>by
  have hy0:y≠0:=by omega
  generalize a.eval=ρ at h hi ⊢
  simp [execOp,go_sem,h,hi,hy0]
  exact IntWalk.i64_in _ hb
theorem zpP {s i:Nat} {x y:Int} (h:a.eval (.tmp s)=num x) (hi:a.eval (.tmp i)=num y) (hy:0<y) (hb : -9223372036854775808≤x.tmod y∧x.tmod y≤9223372036854775807):YieldsC F n Tryd.prog ops C ⟨dst,.binOp .rem 3 (.tmp s) (.tmp i) 3,ty,pos,af,none⟩ (num (x.tmod y)) a :=
 yC rfl (fun _=>rfl) fun w _=>by
  have hy0:y≠0:=by omega
  generalize a.eval=ρ at h hi ⊢
  simp [execOp,go_sem,h,hi,hy0]
theorem zc8 {s b:Nat} {d:Dit} {r:zaR} (h:a.eval (.tmp s)=.pointer (some ⟨b,0,none⟩)) (hc:∀ x,C x→∀ i v,(d.cellsA r)[i]?=some v→x.cell? ⟨b,i,none⟩=some v):YieldsC F n Tryd.prog ops C ⟨dst,.load 31 (.tmp s),ty,pos,af,none⟩ (d.val r) a :=
 yC rfl (fun _=>rfl) fun x hx=>by
  obtain⟨c0,c1,c2,c3,c4,c5,c6,c7,c8,c9,c10,c11,c12,c13⟩:=zaS (hc x hx)
  clear hc
  generalize a.eval=ρ at h ⊢
  simp [execOp,go_sem,h,c0,c1,c2,c3,c4,c5,c6,c7,c8,c9,c10,c11,c12,c13]
end
end Go.Proofs.YtolholkjeehamaaDoor

namespace Go.Proofs.YtolholkjeehamaaDoor
open Go.RowKit
theorem zhN (d:Dit) (r:zaR) (h:Int) (w:World) (hd:DitSl w d r) (ht:d.Times) (hh : -1000000000000≤h∧h≤1000000000000) :
  CallsIn FL 0 Tryd.prog 80 #[d.val r,num h] w fun e w'=>e=.returned (num (d.ran h))∧Nx w w':=by
 obtain⟨W,hW,n0,hWs,cW⟩:=boxed w d r
 obtain⟨af,cap,ef⟩:=hd.feasts.cases
 rw [List.length_map] at ef
 have hv:=hd.feasts.nx n0
 rw [ef] at hv
 have nWW:Nx W W:=Below.refl _ _
 have c2:∀ x,Nx W x→x.cell? ⟨w.heap.size,2,none⟩=some (num d.begin_):=fun x hx=>cW x hx 2 _ rfl
 have c6:∀ x,Nx W x→x.cell? ⟨w.heap.size,6,none⟩=some (.slice af d.feasts.length cap):=fun x hx=>(cW x hx 6 r.f rfl).trans (by rw [ef])
 have hb0:=ht.begin_
 have hb1 : -1000000000000≤d.begin_∧d.begin_≤1000000000000:=by omega
 have k104:∀ (y:Int) (x:World),-1000000000000≤y∧y≤1000000000000→Nx W x→CallsIn FL 0 Tryd.prog 104 #[d.val r,num y] x fun e w'=>e=.returned (num (zb0 d.week d.from_ d.long y))∧Nx W w' :=
  fun y x hy hx=>(zlX d r y x ht hy).mono fun e w' ⟨p,q⟩=>⟨p,Nx.trans hx q⟩
 have rbd:=fun (y:Int) hy=>zgq (hour:=y) ht.week ht.from_ ht.long hy
 have f2:=c2 _ nWW
 gi_enter Tryd.func80,Tryd.ntmps80
 by_cases hle:h≤d.begin_
 ·have HZ:=Lib.hid (zjJ hle)
  clear cW hv c2 c6 k104 rbd
  gi_wp2
  go_ret
  exact⟨by rw [HZ.out];rfl,n0⟩
 ·gi_upto_region 3 with fail
  have nd:Nx W W.drew:=Below.drew nWW
  have kA:=fun x hx=>k104 h x hh hx
  have kB:=fun x hx=>k104 d.begin_ x hb1 hx
  have rA:=rbd h hh
  have rB:=rbd d.begin_ hb1
  have H0:=Lib.hid (show d.ranTo h 0=h-d.begin_-(zb0 d.week d.from_ d.long h-zb0 d.week d.from_ d.long d.begin_) by rw [d.ranTo_zero];unfold Dit.work zcZ;rw [if_neg (by omega)];omega)
  generalize zb0 d.week d.from_ d.long h=Rh at kA rA H0
  generalize zb0 d.week d.from_ d.long d.begin_=Rb at kB rB H0
  refine zbg (fun x=>Nx W x) (by kernel_rfl) ?_
  change wpAnyC _ _ _ _ _ _ _ 14 #[false,false,false,false,false,false,false,false,false,false,false,false,false,false] _ _
  refine zah (i:=0) (oi:=⟨some 13,.move (.tmp 1),_,_,_,none⟩) (v:=num h) (zaj (by kernel_rfl)) rfl (by kernel_rfl) (by kernel_rfl) (by kernel_rfl) (fun _ _ _ h=>h) (zaN rfl) ?_
  simp only [Act.put,List.setIfInBounds_toArray,List.set_cons_succ,List.set_cons_zero]
  refine zah (i:=1) (oi:=⟨some 14,.fieldAddr 31 (.tmp 2) 2,_,_,_,none⟩) (v:=.pointer (some ⟨w.heap.size,2,none⟩)) (zaj (by kernel_rfl)) rfl (by kernel_rfl) (by kernel_rfl) (by kernel_rfl) (fun _ _ _ h=>h) (zks rfl) ?_
  simp only [Act.put,List.setIfInBounds_toArray,List.set_cons_succ,List.set_cons_zero]
  refine zah (i:=2) (oi:=⟨some 15,.load 3 (.tmp 14),_,_,_,none⟩) (v:=num d.begin_) (zaj (by kernel_rfl)) rfl (by kernel_rfl) (by kernel_rfl) (by kernel_rfl) (fun _ _ _ h=>h) (zdq rfl (fun x hx=>c2 x hx)) ?_
  simp only [Act.put,List.setIfInBounds_toArray,List.set_cons_succ,List.set_cons_zero]
  refine zah (i:=3) (oi:=⟨some 16,.binOp .sub 3 (.tmp 13) (.tmp 15) 3,_,_,_,none⟩) (v:=num (h-d.begin_)) (zaj (by kernel_rfl)) rfl (by kernel_rfl) (by kernel_rfl) (by kernel_rfl) (fun _ _ _ h=>h) (zeE rfl rfl (by omega)) ?_
  simp only [Act.put,List.setIfInBounds_toArray,List.set_cons_succ,List.set_cons_zero]
  refine zah (i:=4) (oi:=⟨some 17,.load 31 (.tmp 2),_,_,_,none⟩) (v:=d.val r) (zaj (by kernel_rfl)) rfl (by kernel_rfl) (by kernel_rfl) (by kernel_rfl) (fun _ _ _ h=>h) (zc8 rfl (fun x hx=>cW x hx)) ?_
  simp only [Act.put,List.setIfInBounds_toArray,List.set_cons_succ,List.set_cons_zero]
  refine zah (i:=5) (oi:=⟨some 18,.move (.tmp 1),_,_,_,none⟩) (v:=num h) (zaj (by kernel_rfl)) rfl (by kernel_rfl) (by kernel_rfl) (by kernel_rfl) (fun _ _ _ h=>h) (zaN rfl) ?_
  simp only [Act.put,List.setIfInBounds_toArray,List.set_cons_succ,List.set_cons_zero]
  refine zah (i:=7) (oi:=⟨some 20,.load 31 (.tmp 2),_,_,_,none⟩) (v:=d.val r) (zaj (by kernel_rfl)) rfl (by kernel_rfl) (by kernel_rfl) (by kernel_rfl) (fun _ _ _ h=>h) (zc8 rfl (fun x hx=>cW x hx)) ?_
  simp only [Act.put,List.setIfInBounds_toArray,List.set_cons_succ,List.set_cons_zero]
  refine zah (i:=8) (oi:=⟨some 21,.fieldAddr 31 (.tmp 2) 2,_,_,_,none⟩) (v:=.pointer (some ⟨w.heap.size,2,none⟩)) (zaj (by kernel_rfl)) rfl (by kernel_rfl) (by kernel_rfl) (by kernel_rfl) (fun _ _ _ h=>h) (zks rfl) ?_
  simp only [Act.put,List.setIfInBounds_toArray,List.set_cons_succ,List.set_cons_zero]
  refine zah (i:=9) (oi:=⟨some 22,.load 3 (.tmp 21),_,_,_,none⟩) (v:=num d.begin_) (zaj (by kernel_rfl)) rfl (by kernel_rfl) (by kernel_rfl) (by kernel_rfl) (fun _ _ _ h=>h) (zdq rfl (fun x hx=>c2 x hx)) ?_
  simp only [Act.put,List.setIfInBounds_toArray,List.set_cons_succ,List.set_cons_zero]
  refine zau (i:=6) (o:=⟨some 19,.call { callee:=.value (.func 104),args:=#[.tmp 17,.tmp 18],argTypes:=#[31,3] },_,_,_,none⟩) (by kernel_rfl) rfl rfl (nd) ?_
  intro K hK
  go_simp
  refine CallsIn.mono (kA _ (nd)) ?_
  rintro e v6 ⟨rfl,n6⟩
  refine hK _ _ ?_
  refine zau (i:=10) (o:=⟨some 23,.call { callee:=.value (.func 104),args:=#[.tmp 20,.tmp 22],argTypes:=#[31,3] },_,_,_,none⟩) (by kernel_rfl) rfl rfl (n6) ?_
  intro K hK
  go_simp
  refine CallsIn.mono (kB _ (n6)) ?_
  rintro e v10 ⟨rfl,n10⟩
  refine hK _ _ ?_
  refine zah (i:=11) (oi:=⟨some 24,.binOp .sub 3 (.tmp 19) (.tmp 23) 3,_,_,_,none⟩) (v:=num (Rh-Rb)) (zaj (by kernel_rfl)) rfl (by kernel_rfl) (by kernel_rfl) (by kernel_rfl) (fun _ _ _ h=>h) (zeE rfl rfl (by omega)) ?_
  simp only [Act.put,List.setIfInBounds_toArray,List.set_cons_succ,List.set_cons_zero]
  refine zah (i:=12) (oi:=⟨some 25,.binOp .sub 3 (.tmp 16) (.tmp 24) 3,_,_,_,none⟩) (v:=num ((h-d.begin_)-(Rh-Rb))) (zaj (by kernel_rfl)) rfl (by kernel_rfl) (by kernel_rfl) (by kernel_rfl) (fun _ _ _ h=>h) (zeE rfl rfl (by omega)) ?_
  simp only [Act.put,List.setIfInBounds_toArray,List.set_cons_succ,List.set_cons_zero]
  refine zah (i:=13) (oi:=⟨some 5,.assign (.tmp 25),_,_,_,none⟩) (v:=num ((h-d.begin_)-(Rh-Rb))) (zaj (by kernel_rfl)) rfl (by kernel_rfl) (by kernel_rfl) (by kernel_rfl) (fun _ _ _ h=>h) (zdN rfl) ?_
  simp only [Act.put,List.setIfInBounds_toArray,List.set_cons_succ,List.set_cons_zero]
  refine zbk (by kernel_rfl) (n10) ?_
  clear kA kB f2
  gi_wp2
  gi_loopw [5,6] (fun n i wr=>∃ k:Nat,k≤d.feasts.length∧i=num k∧n=num (d.ranTo h k)∧Nx W wr) (fun _ i _=>d.feasts.length-(intOf i).toNat)
  case atStart=>exact⟨0,Nat.zero_le _,rfl,by rw [H0.out],n10⟩
  case round =>
   obtain⟨k,hk,rfl,rfl,n2⟩:=hrel
   have f2:=c2 _ n2
   have f6:=c6 _ n2
   by_cases hlt:k<d.feasts.length
   ·obtain⟨b,off,ha,hbl,hcl⟩:=hv.get (by simp;omega)
    subst ha
    have hx:d.feasts[k]?=some d.feasts[k]:=List.getElem?_eq_getElem hlt
    have hxb:=ht.feasts d.feasts[k] (List.getElem_mem _)
    generalize d.feasts[k]=x at hx hxb
    obtain⟨x1,x2⟩:=x
    dsimp only at hxb
    obtain⟨g1,g2⟩:=Sl.at2 hcl n2 hbl hx
    have hs:=d.ranTo_succ h hx
    have hbd:=ht.ranTo_bd hh (k+1) hlt
    have hbd0:=ht.ranTo_bd hh k hk
    have hmany:=ht.many
    dsimp only at hs
    have HS:=Lib.hid hs
    have HB:=Lib.hid hbd
    have HB0:=Lib.hid hbd0
    have HC:=Lib.hid hcl
    have HV:=Lib.hid hv
    have HR:=Lib.hid rbd
    have HK:=Lib.hid k104
    have HW:=Lib.hid cW
    have H2:=Lib.hid c2
    clear hs hbd hbd0 hcl hv rbd k104 cW c2 c6 rA rB hx
    gi_upto_region 7 with fail
    gi_big_quiet_th (fail)
    simp only [zoF,zio]
    have n3:Nx W (wr.drewN nq):=Nx.drewN n2 nq
    generalize wr.drewN nq=W3 at n3 ⊢
    have bA : -1000000000000≤max d.begin_ x1∧max d.begin_ x1≤1000000000000:=by omega
    have bE : -1000000000000≤min h (x2+1)∧min h (x2+1)≤1000000000000:=by omega
    clear f2 f6 g1 g2
    generalize max d.begin_ x1=A at HS bA ⊢
    generalize min h (x2+1)=E at HS bE ⊢
    by_cases hlt2:A<E
    ·gi_upto_region 9 with fail
     have nd9:Nx W W3.drew:=Below.drew n3
     have c2:=H2.out
     have cW:=HW.out
     have kA:=fun x hx=>HK.out A x bA hx
     have kE:=fun x hx=>HK.out E x bE hx
     have rA:=HR.out A bA
     have rE:=HR.out E bE
     have hs:d.ranTo h (k+1)=d.ranTo h k-(E-A-(zb0 d.week d.from_ d.long E-zb0 d.week d.from_ d.long A)):=by
      rw [HS.out];unfold Dit.work zcZ;rw [if_neg (by omega)];omega
     generalize zb0 d.week d.from_ d.long A=Ra at kA rA hs
     generalize zb0 d.week d.from_ d.long E=Re at kE rE hs
     have hz:=HB0.out
     generalize d.ranTo h k=z at hs hz ⊢
     refine zbg (fun x=>Nx W x) (by kernel_rfl) ?_
     change wpAnyC _ _ _ _ _ _ _ 14 #[false,false,false,false,false,false,false,false,false,false,false,false,false,false] _ _
     refine zah (i:=0) (oi:=⟨some 54,.move (.tmp 5),_,_,_,none⟩) (v:=num z) (zaj (by kernel_rfl)) rfl (by kernel_rfl) (by kernel_rfl) (by kernel_rfl) (fun _ _ _ h=>h) (zaN rfl) ?_
     simp only [Act.put,List.setIfInBounds_toArray,List.set_cons_succ,List.set_cons_zero]
     refine zah (i:=1) (oi:=⟨some 55,.move (.tmp 8),_,_,_,none⟩) (v:=num E) (zaj (by kernel_rfl)) rfl (by kernel_rfl) (by kernel_rfl) (by kernel_rfl) (fun _ _ _ h=>h) (zaN rfl) ?_
     simp only [Act.put,List.setIfInBounds_toArray,List.set_cons_succ,List.set_cons_zero]
     refine zah (i:=2) (oi:=⟨some 56,.move (.tmp 7),_,_,_,none⟩) (v:=num A) (zaj (by kernel_rfl)) rfl (by kernel_rfl) (by kernel_rfl) (by kernel_rfl) (fun _ _ _ h=>h) (zaN rfl) ?_
     simp only [Act.put,List.setIfInBounds_toArray,List.set_cons_succ,List.set_cons_zero]
     refine zah (i:=3) (oi:=⟨some 57,.binOp .sub 3 (.tmp 55) (.tmp 56) 3,_,_,_,none⟩) (v:=num (E-A)) (zaj (by kernel_rfl)) rfl (by kernel_rfl) (by kernel_rfl) (by kernel_rfl) (fun _ _ _ h=>h) (zeE rfl rfl (by omega)) ?_
     simp only [Act.put,List.setIfInBounds_toArray,List.set_cons_succ,List.set_cons_zero]
     refine zah (i:=4) (oi:=⟨some 58,.load 31 (.tmp 2),_,_,_,none⟩) (v:=d.val r) (zaj (by kernel_rfl)) rfl (by kernel_rfl) (by kernel_rfl) (by kernel_rfl) (fun _ _ _ h=>h) (zc8 rfl (fun x hx=>cW x hx)) ?_
     simp only [Act.put,List.setIfInBounds_toArray,List.set_cons_succ,List.set_cons_zero]
     refine zah (i:=5) (oi:=⟨some 59,.move (.tmp 8),_,_,_,none⟩) (v:=num E) (zaj (by kernel_rfl)) rfl (by kernel_rfl) (by kernel_rfl) (by kernel_rfl) (fun _ _ _ h=>h) (zaN rfl) ?_
     simp only [Act.put,List.setIfInBounds_toArray,List.set_cons_succ,List.set_cons_zero]
     refine zah (i:=7) (oi:=⟨some 61,.load 31 (.tmp 2),_,_,_,none⟩) (v:=d.val r) (zaj (by kernel_rfl)) rfl (by kernel_rfl) (by kernel_rfl) (by kernel_rfl) (fun _ _ _ h=>h) (zc8 rfl (fun x hx=>cW x hx)) ?_
     simp only [Act.put,List.setIfInBounds_toArray,List.set_cons_succ,List.set_cons_zero]
     refine zah (i:=8) (oi:=⟨some 62,.move (.tmp 7),_,_,_,none⟩) (v:=num A) (zaj (by kernel_rfl)) rfl (by kernel_rfl) (by kernel_rfl) (by kernel_rfl) (fun _ _ _ h=>h) (zaN rfl) ?_
     simp only [Act.put,List.setIfInBounds_toArray,List.set_cons_succ,List.set_cons_zero]
     refine zau (i:=6) (o:=⟨some 60,.call { callee:=.value (.func 104),args:=#[.tmp 58,.tmp 59],argTypes:=#[31,3] },_,_,_,none⟩) (by kernel_rfl) rfl rfl (nd9) ?_
     intro K hK
     go_simp
     refine CallsIn.mono (kE _ (nd9)) ?_
     rintro e v6 ⟨rfl,m6⟩
     refine hK _ _ ?_
     refine zau (i:=9) (o:=⟨some 63,.call { callee:=.value (.func 104),args:=#[.tmp 61,.tmp 62],argTypes:=#[31,3] },_,_,_,none⟩) (by kernel_rfl) rfl rfl (m6) ?_
     intro K hK
     go_simp
     refine CallsIn.mono (kA _ (m6)) ?_
     rintro e v9 ⟨rfl,m9⟩
     refine hK _ _ ?_
     refine zah (i:=10) (oi:=⟨some 64,.binOp .sub 3 (.tmp 60) (.tmp 63) 3,_,_,_,none⟩) (v:=num (Re-Ra)) (zaj (by kernel_rfl)) rfl (by kernel_rfl) (by kernel_rfl) (by kernel_rfl) (fun _ _ _ h=>h) (zeE rfl rfl (by omega)) ?_
     simp only [Act.put,List.setIfInBounds_toArray,List.set_cons_succ,List.set_cons_zero]
     refine zah (i:=11) (oi:=⟨some 65,.binOp .sub 3 (.tmp 57) (.tmp 64) 3,_,_,_,none⟩) (v:=num ((E-A)-(Re-Ra))) (zaj (by kernel_rfl)) rfl (by kernel_rfl) (by kernel_rfl) (by kernel_rfl) (fun _ _ _ h=>h) (zeE rfl rfl (by omega)) ?_
     simp only [Act.put,List.setIfInBounds_toArray,List.set_cons_succ,List.set_cons_zero]
     refine zah (i:=12) (oi:=⟨some 66,.binOp .sub 3 (.tmp 54) (.tmp 65) 3,_,_,_,none⟩) (v:=num (z-((E-A)-(Re-Ra)))) (zaj (by kernel_rfl)) rfl (by kernel_rfl) (by kernel_rfl) (by kernel_rfl) (fun _ _ _ h=>h) (zeE rfl rfl (by omega)) ?_
     simp only [Act.put,List.setIfInBounds_toArray,List.set_cons_succ,List.set_cons_zero]
     refine zah (i:=13) (oi:=⟨some 5,.assign (.tmp 66),_,_,_,none⟩) (v:=num (z-((E-A)-(Re-Ra)))) (zaj (by kernel_rfl)) rfl (by kernel_rfl) (by kernel_rfl) (by kernel_rfl) (fun _ _ _ h=>h) (zdN rfl) ?_
     simp only [Act.put,List.setIfInBounds_toArray,List.set_cons_succ,List.set_cons_zero]
     refine zbk (by kernel_rfl) (m9) ?_
     clear kA kE c2 cW
     gi_wp2
     exact⟨⟨k+1,hlt,by simp,by rw [hs],m9⟩,by simp [intOf];omega⟩
    ·have hs:d.ranTo h (k+1)=d.ranTo h k:=by rw [HS.out];unfold Dit.work zcZ;rw [if_pos (by omega)];omega
     gi_wp2
     exact⟨⟨k+1,hlt,by simp,by rw [hs],n3⟩,by simp [intOf];omega⟩
   ·obtain rfl:k=d.feasts.length:=by omega
    clear hv rbd k104 cW c2 c6
    gi_wp2
    go_ret
    exact⟨by rw [d.ranTo_all];rfl,Nx.trans n0 n2⟩
end Go.Proofs.YtolholkjeehamaaDoor

namespace Go.Proofs.YtolholkjeehamaaDoor
open Go.RowKit
theorem zlN {w:World} {base n:Nat} {v:Value} {xs:List Value} (h:w.ownsRow base 3 1 v n xs):∀ g,v.ownBlock=some g→base≤g:=by
 intro g e
 obtain⟨_,⟨rfl,_⟩ | ⟨g',cap,cur,rfl,hb,_⟩⟩:=h
 ·cases e
 ·simp only [Value.ownBlock,Option.some.injEq] at e;omega
theorem zgR {w:World} {base:Nat} {v:Value} {l:List Int} (h:w.ownsRow base 3 1 v l.length (l.map num)) (hl:0<l.length):∃ g cap,v=.slice (some ⟨g,0,none⟩) l.length cap∧base≤g:=by
 obtain⟨_,⟨_,h0⟩ | ⟨g',cap',cur',e,hb,_⟩⟩:=h
 ·omega
 ·exact⟨g',cap',e,hb⟩
theorem zeP {w:World} {base n g cap:Nat} {l:List Int} (h:w.ownsRow base 3 1 (.slice (some ⟨g,0,none⟩) n cap) l.length (l.map num)) {i:Nat} {x:Int} (hx:l[i]?=some x) :
  w.cell? ⟨g,i,none⟩=some (num x)∧w.frozen? ⟨g,i,none⟩=false:=by
 have hsl:=zb7 (w:=w) (base:=base) (v:=.slice (some ⟨g,0,none⟩) n cap) (l:=l) h
 refine⟨?_,?_⟩
 ·obtain⟨cap',hn | ⟨b,off,e,hb,hcs⟩⟩:=hsl
  ·cases hn.2
  ·simp only [Value.slice.injEq,Option.some.injEq,Addr.mk.injEq] at e
   obtain⟨⟨rfl,rfl,_⟩,_⟩:=e
   have:=hcs i 0 [num x] (num x) (by simp [hx]) rfl
   simpa using this
 ·obtain⟨_,⟨h1,_⟩ | ⟨g',cap',cur,h1,h2,h3,h4,h5,h6,h7⟩⟩:=h
  ·cases h1
  ·simp only [Value.slice.injEq,Option.some.injEq,Addr.mk.injEq] at h1
   obtain⟨⟨rfl,_⟩,_⟩:=h1
   exact frozen_of_row _ _ _ _ _ h3
theorem zdY {w:World} {base n:Nat} {v:Value} {xs:List Value} (h:w.ownsRow base 3 1 v n xs) (o:Obj):(w.alloc o).ownsRow base 3 1 v n xs:=by
 refine h.kept (World.grownBy_alloc w o none) ?_
 cases hob:v.ownBlock with
 | none=>exact .inl rfl
 | some b=>exact .inr (by simp)
theorem zgW (d:Dit) (r:zaR) (c:Int) (w:World) (hd:DitSl w d r) (hO:d.Ok) :
  CallsIn FL 0 Tryd.prog 102 #[d.val r,num c] w fun e w'=>∃ g cap,e=.returned (.slice (some ⟨g,0,none⟩) d.turns.length cap)∧Nx w w'∧Sl w' (.slice (some ⟨g,0,none⟩) d.turns.length cap) 1 ((d.oth c).map fun x=>[num x]):=by
 obtain⟨W,hW,n0,hWs,cW⟩:=boxed w d r
 obtain⟨at',capt,et⟩:=hd.turns.cases
 obtain⟨as',caps,es⟩:=hd.swaps.cases
 obtain⟨al',capl,el⟩:=hd.loans.cases
 rw [List.length_map] at et es el
 have hvt:=hd.turns.nx n0
 have hvs:=hd.swaps.nx n0
 have hvl:=hd.loans.nx n0
 rw [et] at hvt
 rw [es] at hvs
 rw [el] at hvl
 have nWW:Nx W W:=Below.refl _ _
 have c1:∀ x,Nx W x→x.cell? ⟨w.heap.size,1,none⟩=some (.slice at' d.turns.length capt):=fun x hx=>(cW x hx 1 r.t rfl).trans (by rw [et])
 have c7:∀ x,Nx W x→x.cell? ⟨w.heap.size,7,none⟩=some (.slice as' d.swaps.length caps):=fun x hx=>(cW x hx 7 r.s rfl).trans (by rw [es])
 have c8:∀ x,Nx W x→x.cell? ⟨w.heap.size,8,none⟩=some (.slice al' d.loans.length capl):=fun x hx=>(cW x hx 8 r.l rfl).trans (by rw [el])
 have ht12:=hO.t12
 have hs8:=hO.s8
 have hl8:=hO.l8
 have husl:d.us.length=d.turns.length:=by simp [Dit.us]
 have husl0:=husl
 clear cW et es el hd
 gi_enter Tryd.func102,Tryd.ntmps102
 gi_wp2
 gi_loopw [5,6] (fun l i wr=>∃ k:Nat,k≤d.turns.length∧i=num k∧wr.ownsRow W.heap.size 3 1 l (d.us.take k).length ((d.us.take k).map num)∧Nx W wr) (fun _ i _=>d.turns.length-(intOf i).toNat)
 case atStart=>exact⟨0,Nat.zero_le _,rfl,by simpa using World.ownsRow_nil W W.heap.size 3 1,nWW⟩
 case round =>
  obtain⟨k,hk,rfl,hown,n2⟩:=hrel
  have f1:=c1 _ n2
  by_cases hlt:k<d.turns.length
  ·obtain⟨b,off,ha,hbl,hcl⟩:=hvt.get (by simp;omega)
   subst ha
   have hx:d.turns[k]?=some d.turns[k]:=List.getElem?_eq_getElem hlt
   generalize d.turns[k]=x at hx
   obtain⟨x1,x2⟩:=x
   obtain⟨g1,g2⟩:=Sl.at2 hcl n2 hbl hx
   have htk:d.us.take (k+1)=d.us.take k++[x1]:=by
    unfold Dit.us
    rw [List.take_add_one,List.getElem?_map,hx];rfl
   have hownA:=zdY hown (.cells #[num x1] 3)
   have hnews:∀ (j:Nat) (x:Int),[x1][j]?=some x→(wr.alloc (.cells #[num x1] 3)).cell? ((⟨wr.heap.size,0,none⟩:Addr).add j)=some (num x):=by
    intro j x hj
    cases j with
    | zero=>simp at hj;subst hj;exact zaw wr _ _ _ _ rfl
    | succ j=>simp at hj
   have nA:Nx W (wr.alloc (.cells #[num x1] 3)):=n2.alloc (by exact n2.size) _
   have hge:=zlN hown
   have hsz:=n2.size
   have HT:=Lib.hid htk
   have HGE:=Lib.hid hge
   have HN:=Lib.hid hnews
   clear hx hcl hvt hvs hvl htk hown c1 c7 c8 hge hnews
   gi_wp2_with (first | (gi_at_builtin;refine ze0 rfl _ _ rfl W.heap.size _ (d.us.take k) rfl hownA ⟨wr.heap.size,0,none⟩ 1 1 [x1] rfl rfl HN.out (by simp;omega) (by simp;omega) ?_;intro v' w' r1 r2 r3 r4) | gi_in)
   exact⟨⟨k+1,hlt,by simp,by rw [HT.out];exact r1,nA.grown r2 (fun q e=>HGE.out q e)⟩,by simp [intOf];omega⟩
  ·obtain rfl:k=d.turns.length:=by omega
   rw [show d.us.take d.turns.length=d.us by rw [← husl,List.take_length]] at hown
   obtain⟨g,cap,rfl,hgb⟩:=zgR hown (by omega)
   rw [husl] at hown ⊢
   generalize wr=W2 at *
   have f7:=c7 _ n2
   have ho2:W2.ownsRow W.heap.size 3 1 (.slice (some ⟨g,0,none⟩) d.turns.length cap) (oth2 d.us (d.swaps.take 0) c).length ((oth2 d.us (d.swaps.take 0) c).map num):=by
    show W2.ownsRow _ _ _ (.slice (some ⟨g,0,none⟩) d.turns.length cap) d.us.length (d.us.map num)
    rw [husl];exact hown
   clear hvt hown c1
   gi_wp2
   gi_loopw [7] (fun i wr=>∃ k:Nat,k≤d.swaps.length∧i=num k∧wr.ownsRow W.heap.size 3 1 (.slice (some ⟨g,0,none⟩) d.turns.length cap) (oth2 d.us (d.swaps.take k) c).length ((oth2 d.us (d.swaps.take k) c).map num)∧Nx W wr) (fun i _=>d.swaps.length-(intOf i).toNat)
   case atStart=>exact⟨0,Nat.zero_le _,rfl,ho2,n2⟩
   case round =>
    obtain⟨k,hk,rfl,hown,n3⟩:=hrel
    have f7:=c7 _ n3
    by_cases hlt:k<d.swaps.length
    ·obtain⟨b,off,ha,hbl,hcl⟩:=hvs.get (by simp;omega)
     subst ha
     have hx:d.swaps[k]?=some d.swaps[k]:=List.getElem?_eq_getElem hlt
     have hxm:=hO.sw _ (List.getElem_mem hlt)
     generalize d.swaps[k]=x at hx hxm
     obtain⟨x1,x2,x3⟩:=x
     obtain⟨g1,g2,g3⟩:=Sl.at3 hcl n3 hbl hx
     dsimp only at hxm
     obtain⟨hc1,hc2,hc3⟩:=hxm
     obtain⟨p,rfl⟩:=Int.eq_ofNat_of_zero_le hc2.1
     obtain⟨q,rfl⟩:=Int.eq_ofNat_of_zero_le hc3.1
     have hlen:(oth2 d.us (d.swaps.take k) c).length=d.turns.length:=(zd6 d.us c (d.swaps.take k)).trans husl0
     obtain⟨ra,hra⟩:∃ v,(oth2 d.us (d.swaps.take k) c)[p]?=some v:=⟨_,List.getElem?_eq_getElem (by omega)⟩
     obtain⟨rb,hrb⟩:∃ v,(oth2 d.us (d.swaps.take k) c)[q]?=some v:=⟨_,List.getElem?_eq_getElem (by omega)⟩
     have hs1:=ziz (us:=d.us) hx c
     dsimp only at hs1
     generalize hV:wr.alloc (.cells #[num x1,num p,num q] 49)=V
     have nV:Nx W V:=by rw [← hV];exact n3.alloc (by exact n3.size) _
     have hownV:V.ownsRow W.heap.size 3 1 (.slice (some ⟨g,0,none⟩) d.turns.length cap) (oth2 d.us (d.swaps.take k) c).length ((oth2 d.us (d.swaps.take k) c).map num):=by rw [← hV];exact zdY hown _
     have ct0:V.cell? ⟨wr.heap.size,0,none⟩=some (num x1):=by rw [← hV];exact zaw _ _ _ _ _ rfl
     have ct1:V.cell? ⟨wr.heap.size,1,none⟩=some (num p):=by rw [← hV];exact zaw _ _ _ _ _ rfl
     have ct2:V.cell? ⟨wr.heap.size,2,none⟩=some (num q):=by rw [← hV];exact zaw _ _ _ _ _ rfl
     have hgw:g<wr.heap.size:=by
      obtain⟨_,⟨h1,_⟩ | ⟨g',cap',cur,h1,h2,h3,_⟩⟩:=hown
      ·cases h1
      ·simp only [Value.slice.injEq,Option.some.injEq,Addr.mk.injEq] at h1
       obtain⟨⟨rfl,_⟩,_⟩:=h1
       exact (Array.getElem?_eq_some_iff.1 h3).1
     obtain⟨k1,k2⟩:=zeP hownV hra
     obtain⟨k3,k4⟩:=zeP hownV hrb
     have hgne:g≠wr.heap.size:=by omega
     have hp12:p<d.turns.length:=by omega
     have hq12:q<d.turns.length:=by omega
     clear hcl hx hvs hvl hown c7 c8
     by_cases hxc:x1=c
     ·have hb:(x1 == c)=true:=by simpa using hxc
      rw [if_pos hxc] at hs1
      have hset:∀ (z:World),z=((V.setCell ⟨g,p,none⟩ (num rb)).setCell ⟨g,q,none⟩ (num ra))→z.drew.ownsRow W.heap.size 3 1 (.slice (some ⟨g,0,none⟩) d.turns.length cap) (oth2 d.us (d.swaps.take (k+1)) c).length ((oth2 d.us (d.swaps.take (k+1)) c).map num)∧Nx W z.drew:=by
       rintro z rfl
       have h1:=zdy (v:=.nilIface) (zdy (v:=.nilIface) hownV (i:=p) (by omega) rb) (i:=q) (by simp;omega) ra
       refine⟨?_,Below.drew (((nV.setCell (p:=⟨g,p,none⟩) hgb _)).setCell (p:=⟨g,q,none⟩) hgb _)⟩
       rw [hs1]
       have he:zhD (oth2 d.us (d.swaps.take k) c) (p:Int).toNat (q:Int).toNat=((oth2 d.us (d.swaps.take k) c).set p rb).set q ra:=by
        simp [zhD,hra,hrb]
       rw [he]
       exact h1
      have HSET:=Lib.hid hset
      clear hset hs1 hlen hxc hownV
      by_cases hpq:p=q
      ·subst hpq
       obtain rfl:rb=ra:=by rw [hrb] at hra;exact Option.some.inj hra
       gi_upto_region 11 with fail
       clear hV
       gi_region
       obtain⟨z1,z2⟩:=HSET.out _ rfl
       gi_wp2
       exact⟨⟨k+1,hlt,by simp,z1,z2⟩,by simp [intOf];omega⟩
      ·gi_upto_region 11 with fail
       gi_region
       obtain⟨z1,z2⟩:=HSET.out _ rfl
       gi_wp2
       exact⟨⟨k+1,hlt,by simp,z1,z2⟩,by simp [intOf];omega⟩
     ·have hb:(x1 == c)=false:=by simpa using hxc
      rw [if_neg hxc] at hs1
      have HR:Hid (V.ownsRow W.heap.size 3 1 (.slice (some ⟨g,0,none⟩) d.turns.length cap) (oth2 d.us (d.swaps.take (k+1)) c).length ((oth2 d.us (d.swaps.take (k+1)) c).map num)):=by
       show World.ownsRow _ _ _ _ _ _ _
       rw [hs1];exact hownV
      clear hs1 hlen hxc hownV
      gi_wp2
      exact⟨⟨k+1,hlt,by simp,HR.out,nV⟩,by simp [intOf];omega⟩
    ·obtain rfl:k=d.swaps.length:=by omega
     rw [List.take_length] at hown
     generalize wr=W3 at *
     have f8:=c8 _ n3
     have ho3:W3.ownsRow W.heap.size 3 1 (.slice (some ⟨g,0,none⟩) d.turns.length cap) (oth3 (oth2 d.us d.swaps c) (d.loans.take 0) c).length ((oth3 (oth2 d.us d.swaps c) (d.loans.take 0) c).map num):=hown
     clear hvs hown ho2 c7
     gi_wp2
     gi_loopw [9] (fun i wr=>∃ k:Nat,k≤d.loans.length∧i=num k∧wr.ownsRow W.heap.size 3 1 (.slice (some ⟨g,0,none⟩) d.turns.length cap) (oth3 (oth2 d.us d.swaps c) (d.loans.take k) c).length ((oth3 (oth2 d.us d.swaps c) (d.loans.take k) c).map num)∧Nx W wr) (fun i _=>d.loans.length-(intOf i).toNat)
     case atStart=>exact⟨0,Nat.zero_le _,rfl,ho3,n3⟩
     case round =>
      obtain⟨k,hk,rfl,hown,n4⟩:=hrel
      have f8:=c8 _ n4
      by_cases hlt:k<d.loans.length
      ·obtain⟨b,off,ha,hbl,hcl⟩:=hvl.get (by simp;omega)
       subst ha
       have hx:d.loans[k]?=some d.loans[k]:=List.getElem?_eq_getElem hlt
       have hxm:=hO.lo _ (List.getElem_mem hlt)
       generalize d.loans[k]=x at hx hxm
       obtain⟨x1,x2,x3⟩:=x
       obtain⟨g1,g2,g3⟩:=Sl.at3 hcl n4 hbl hx
       dsimp only at hxm
       obtain⟨hc1,hc2,hc3⟩:=hxm
       obtain⟨p,rfl⟩:=Int.eq_ofNat_of_zero_le hc2.1
       have hlen:(oth3 (oth2 d.us d.swaps c) (d.loans.take k) c).length=d.turns.length:=by rw [zfP,zd6];exact husl0
       obtain⟨ra,hra⟩:∃ v,(oth3 (oth2 d.us d.swaps c) (d.loans.take k) c)[p]?=some v:=⟨_,List.getElem?_eq_getElem (by omega)⟩
       have hs1:=zi7 (l:=oth2 d.us d.swaps c) hx c
       dsimp only at hs1
       generalize hV:wr.alloc (.cells #[num x1,num p,num x3] 51)=V
       have nV:Nx W V:=by rw [← hV];exact n4.alloc (by exact n4.size) _
       have hownV:V.ownsRow W.heap.size 3 1 (.slice (some ⟨g,0,none⟩) d.turns.length cap) (oth3 (oth2 d.us d.swaps c) (d.loans.take k) c).length ((oth3 (oth2 d.us d.swaps c) (d.loans.take k) c).map num):=by rw [← hV];exact zdY hown _
       have ct0:V.cell? ⟨wr.heap.size,0,none⟩=some (num x1):=by rw [← hV];exact zaw _ _ _ _ _ rfl
       have ct1:V.cell? ⟨wr.heap.size,1,none⟩=some (num p):=by rw [← hV];exact zaw _ _ _ _ _ rfl
       have ct2:V.cell? ⟨wr.heap.size,2,none⟩=some (num x3):=by rw [← hV];exact zaw _ _ _ _ _ rfl
       obtain⟨k1,k2⟩:=zeP hownV hra
       have hp12:p<d.turns.length:=by omega
       clear hcl hx hvl hown c8
       by_cases hxc:x1=c
       ·have hb:(x1 == c)=true:=by simpa using hxc
        rw [if_pos hxc] at hs1
        have HR:Hid ((V.setCell ⟨g,p,none⟩ (num x3)).ownsRow W.heap.size 3 1 (.slice (some ⟨g,0,none⟩) d.turns.length cap) (oth3 (oth2 d.us d.swaps c) (d.loans.take (k+1)) c).length ((oth3 (oth2 d.us d.swaps c) (d.loans.take (k+1)) c).map num)∧Nx W (V.setCell ⟨g,p,none⟩ (num x3))):=by
         refine⟨?_,nV.setCell (p:=⟨g,p,none⟩) hgb _⟩
         rw [hs1]
         exact zdy (v:=.nilIface) hownV (i:=p) (by omega) x3
        clear hs1 hlen hxc hownV
        gi_wp2
        exact⟨⟨k+1,hlt,by simp,HR.out.1,HR.out.2⟩,by simp [intOf];omega⟩
       ·have hb:(x1 == c)=false:=by simpa using hxc
        rw [if_neg hxc] at hs1
        have HR:Hid (V.ownsRow W.heap.size 3 1 (.slice (some ⟨g,0,none⟩) d.turns.length cap) (oth3 (oth2 d.us d.swaps c) (d.loans.take (k+1)) c).length ((oth3 (oth2 d.us d.swaps c) (d.loans.take (k+1)) c).map num)):=by
         show World.ownsRow _ _ _ _ _ _ _
         rw [hs1];exact hownV
        clear hs1 hlen hxc hownV
        gi_wp2
        exact⟨⟨k+1,hlt,by simp,HR.out,nV⟩,by simp [intOf];omega⟩
      ·obtain rfl:k=d.loans.length:=by omega
       rw [List.take_length] at hown
       have HR:=Lib.hid (zb7 hown)
       clear hvl hown c8 ho3
       gi_wp2
       go_ret
       exact⟨_,_,rfl,Nx.trans n0 n4,HR.out⟩
end Go.Proofs.YtolholkjeehamaaDoor

namespace Go.Proofs.YtolholkjeehamaaDoor
open Go.RowKit
section
variable {F:Fence} {n:Nat} {ops:Array Oper} {C:World→Prop} {a:Act} {dst:Option Nat} {ty:TypeId} {pos:String} {af:Array Edge}
theorem yG {op:Op} {v:Value} {gd:Option (Nat×Bool)} (h:YieldsC F n Tryd.prog ops C ⟨dst,op,ty,pos,af,none⟩ v a) (hw:Region.wanted ⟨dst,op,ty,pos,af,gd⟩ (yielded ops a.tmps)=true):YieldsC F n Tryd.prog ops C ⟨dst,op,ty,pos,af,gd⟩ v a:=by
 refine⟨h.1,.inl ⟨hw,?_⟩⟩
 rcases h.2 with ⟨_,h2⟩ | ⟨h2,_⟩
 ·exact h2
 ·simp [Region.wanted] at h2
theorem yb5 {s:Nat} {x m:Int} (h:a.eval (.tmp s)=num x) (hk:a.eval (.const (.int .i64 m))=num m) (hx:m≤x):YieldsC F n Tryd.prog ops C ⟨dst,.binOp .geq 3 (.tmp s) (.const (.int .i64 m)) 3,ty,pos,af,none⟩ (.bool true) a :=
 yC rfl (fun _=>rfl) fun w _=>by
  generalize a.eval=ρ at h hk ⊢
  simp [execOp,go_sem,h,hk,hx]
theorem yck {s i:Nat} {x y:Int} (h:a.eval (.tmp s)=num x) (hi:a.eval (.tmp i)=num y):YieldsC F n Tryd.prog ops C ⟨dst,.binOp .gtr 3 (.tmp s) (.tmp i) 3,ty,pos,af,none⟩ (.bool (decide (x > y))) a :=
 yC rfl (fun _=>rfl) fun w _=>by
  generalize a.eval=ρ at h hi ⊢
  simp [execOp,go_sem,h,hi]
theorem ybs {c s:Nat} {v:Value} (h:a.eval (.tmp c)=.bool true) (h2:a.eval (.tmp s)=v):YieldsC F n Tryd.prog ops C ⟨dst,.pick (.tmp c) (.tmp s) (.const (.bool false)),ty,pos,af,none⟩ v a :=
 yC rfl (fun _=>rfl) fun w _=>by
  generalize a.eval=ρ at h h2 ⊢
  simp [execOp,go_sem,h,h2]
end
theorem yb6 {w:World} {g m cap:Nat} {l:List Int} (h:Sl w (.slice (some ⟨g,0,none⟩) m cap) 1 (l.map fun x=>[num x])) {j:Nat} {x:Int} (hj:l[j]?=some x):w.cell? ⟨g,j,none⟩=some (num x):=by
 have hlt:=(List.getElem?_eq_some_iff.1 hj).1
 obtain⟨b,off,e,hb,hc⟩:=h.get (by simp;omega)
 cases e
 have:=Sl.one hc hj
 simpa using this
theorem ybt {d:Dit} (hO:d.Ok) {r:Int} {t:Nat} (h0:0≤r) (h1:r<d.cyc) (ht:t<d.turns.length) (h2:sumTo d.turns t≤r) (h3:r<sumTo d.turns (t+1)):d.turn r=t:=by
 obtain⟨g1,g2,g3⟩:=hO.turn_at h0 h1
 have hth:=fun x hx=>(hO.th x hx).2
 rcases Nat.lt_trichotomy (d.turn r) t with h | h | h
 ·have:=sumTo_le hth (show d.turn r+1≤t by omega);omega
 ·exact h
 ·have:=sumTo_le hth (show t+1≤d.turn r by omega);omega
theorem yat (d:Dit) (r:zaR) (x:Int) (w:World) (hd:DitSl w d r) (hO:d.Ok) (hx:0≤x∧x<d.cyc):CallsIn FL 0 Tryd.prog 101 #[d.val r,num x] w fun e w'=>e=.returned (num (d.turn x:Int))∧Nx w w':=by
 obtain⟨W,hW,n0,hWs,cW⟩:=boxed w d r
 obtain⟨at',capt,et⟩:=hd.turns.cases
 rw [List.length_map] at et
 have hv:=hd.turns.nx n0
 rw [et] at hv
 have c1:∀ w1,Nx W w1→w1.cell? ⟨w.heap.size,1,none⟩=some (.slice at' d.turns.length capt):=fun w1 n1=>(cW _ n1 1 r.t rfl).trans (by rw [et])
 have ht:=hO.t12
 have hth:=Lib.hid (fun y hy=>(hO.th y hy).2)
 have hbd:=Lib.hid (fun k hk=>zd1 (fun x hx=>(hO.th x hx).2) k hk)
 have hcy:d.cyc≤1200:=by have:=(zd1 (fun x hx=>(hO.th x hx).2) d.turns.length (Nat.le_refl _)).2;show sumTo d.turns d.turns.length≤_;omega
 have hcs:d.cyc=sumTo d.turns d.turns.length:=rfl
 have HO:=Lib.hid hO
 clear cW et hO
 gi_enter Tryd.func101,Tryd.ntmps101
 gi_wp2
 gi_loopw [1,5] (fun y i wr=>∃ k:Nat,k<d.turns.length∧i=num k∧y=num (x-sumTo d.turns k)∧sumTo d.turns k≤x∧Nx W wr) (fun _ i _=>d.turns.length-(intOf i).toNat)
 case atStart=>exact⟨0,by omega,rfl,by simp [sumTo],by simpa [sumTo] using hx.1,Below.refl _ _⟩
 case round =>
  obtain⟨k,hk,rfl,rfl,hle,n2⟩:=hrel
  have f1:wr.cell? ⟨w.heap.size,1,none⟩=some (.slice at' d.turns.length capt):=c1 _ n2
  obtain⟨b,off,ha,hbl,hcl⟩:=(hv.nx n2).get (by simp;omega)
  subst ha
  have hxx:d.turns[k]?=some d.turns[k]:=List.getElem?_eq_getElem hk
  have g1:=hcl k 1 (two d.turns[k]) (num d.turns[k].2) (by simp [hk]) rfl
  have hs:sumTo d.turns (k+1)=sumTo d.turns k+d.turns[k].2:=by simp [sumTo,hxx]
  have hb1:=hbd.out k (by omega)
  have hb2:=hth.out d.turns[k] (List.getElem_mem _)
  have HS:=Lib.hid hs
  generalize d.turns[k].2=z at g1 HS hb2 hs
  clear hcl hxx hv
  by_cases hge:x<sumTo d.turns (k+1)
  ·have b1:decide (z≤x-sumTo d.turns k)=false:=decide_eq_false (by omega)
   have b2:decide (x-sumTo d.turns k≥z)=false:=decide_eq_false (by omega)
   have HR:=Lib.hid (ybt HO.out hx.1 hx.2 hk hle hge)
   clear hs hge
   gi_wp2
   go_ret
   exact⟨by rw [HR.out];rfl,Nx.trans n0 n2⟩
  ·have b1:decide (z≤x-sumTo d.turns k)=true:=decide_eq_true (by omega)
   have b2:decide (x-sumTo d.turns k≥z)=true:=decide_eq_true (by omega)
   have hlt:k+1<d.turns.length:=by
    rcases Nat.lt_or_ge (k+1) d.turns.length with h | h
    ·exact h
    ·have e:k+1=d.turns.length:=by omega
     rw [e] at hge
     omega
   have hge2:sumTo d.turns (k+1)≤x:=by omega
   clear hs hge
   gi_wp2
   exact⟨⟨k+1,hlt,by simp,by rw [HS.out];congr 1;omega,hge2,n2⟩,by simp [intOf];omega⟩
theorem yau (d:Dit) (r:zaR) (h:Int) (w:World) (hd:DitSl w d r) (ht:d.Times) (hh : -1000000000≤h∧h≤100000000000) :
  CallsIn FL 0 Tryd.prog 100 #[d.val r,num h] w fun e w'=>e=.returned (.bool (decide (0≤h) && decide (d.ran (h+1) > d.ran h)))∧Nx w w':=by
 obtain⟨W,hW,n0,hWs,cW⟩:=boxed w d r
 have nWW:Nx W W:=Below.refl _ _
 have kA:=fun x (hx:Nx W x)=>(zhN d r h x ((hd.nx n0).nx hx) ht (by omega)).mono fun e w' ⟨p,q⟩=>(⟨p,Nx.trans hx q⟩:e=Ending.returned (num (d.ran h))∧Nx W w')
 have kB:=fun x (hx:Nx W x)=>(zhN d r (h+1) x ((hd.nx n0).nx hx) ht (by omega)).mono fun e w' ⟨p,q⟩=>(⟨p,Nx.trans hx q⟩:e=Ending.returned (num (d.ran (h+1)))∧Nx W w')
 have nd:Nx W W.drew:=Below.drew nWW
 clear hd ht
 gi_enter Tryd.func100,Tryd.ntmps100
 by_cases hh0:0≤h
 ·gi_upto_region 1 with fail
  refine zbg (fun x=>Nx W x) (by kernel_rfl) ?_
  change wpAnyC _ _ _ _ _ _ _ 13 #[false,false,false,false,false,false,false,false,false,false,false,false,false] _ _
  refine zah (i:=0) (oi:=⟨some 5,.move (.tmp 1),_,_,_,none⟩) (v:=num h) (zaj (by kernel_rfl)) rfl (by kernel_rfl) (by kernel_rfl) (by kernel_rfl) (fun _ _ _ h=>h) (zaN rfl) ?_
  simp only [Act.put,List.setIfInBounds_toArray,List.set_cons_succ,List.set_cons_zero]
  refine zah (i:=1) (oi:=⟨some 6,.binOp .geq 3 (.tmp 5) (.const (.int .i64 0)) 3,_,_,_,none⟩) (v:=.bool true) (zaj (by kernel_rfl)) rfl (by kernel_rfl) (by kernel_rfl) (by kernel_rfl) (fun _ _ _ h=>h) (yb5 rfl rfl (hh0)) ?_
  simp only [Act.put,List.setIfInBounds_toArray,List.set_cons_succ,List.set_cons_zero]
  refine zah (i:=2) (oi:=⟨some 7,.move (.tmp 6),_,_,_,none⟩) (v:=.bool true) (zaj (by kernel_rfl)) rfl (by kernel_rfl) (by kernel_rfl) (by kernel_rfl) (fun _ _ _ h=>h) (zaN rfl) ?_
  simp only [Act.put,List.setIfInBounds_toArray,List.set_cons_succ,List.set_cons_zero]
  refine zah (i:=3) (oi:=⟨some 8,.load 31 (.tmp 2),_,_,_,some (2,true)⟩) (v:=d.val r) (zaj (by kernel_rfl)) rfl (by kernel_rfl) (by kernel_rfl) (by kernel_rfl) (fun _ _ _ h=>h) (yG (zc8 rfl (fun x hx=>cW x hx)) rfl) ?_
  simp only [Act.put,List.setIfInBounds_toArray,List.set_cons_succ,List.set_cons_zero]
  refine zah (i:=4) (oi:=⟨some 9,.move (.tmp 1),_,_,_,some (2,true)⟩) (v:=num h) (zaj (by kernel_rfl)) rfl (by kernel_rfl) (by kernel_rfl) (by kernel_rfl) (fun _ _ _ h=>h) (yG (zaN rfl) rfl) ?_
  simp only [Act.put,List.setIfInBounds_toArray,List.set_cons_succ,List.set_cons_zero]
  refine zah (i:=5) (oi:=⟨some 10,.binOp .add 3 (.tmp 9) (.const (.int .i64 1)) 3,_,_,_,some (2,true)⟩) (v:=num (h+1)) (zaj (by kernel_rfl)) rfl (by kernel_rfl) (by kernel_rfl) (by kernel_rfl) (fun _ _ _ h=>h) (yG (zpD rfl (by omega)) rfl) ?_
  simp only [Act.put,List.setIfInBounds_toArray,List.set_cons_succ,List.set_cons_zero]
  refine zah (i:=7) (oi:=⟨some 12,.load 31 (.tmp 2),_,_,_,some (2,true)⟩) (v:=d.val r) (zaj (by kernel_rfl)) rfl (by kernel_rfl) (by kernel_rfl) (by kernel_rfl) (fun _ _ _ h=>h) (yG (zc8 rfl (fun x hx=>cW x hx)) rfl) ?_
  simp only [Act.put,List.setIfInBounds_toArray,List.set_cons_succ,List.set_cons_zero]
  refine zah (i:=8) (oi:=⟨some 13,.move (.tmp 1),_,_,_,some (2,true)⟩) (v:=num h) (zaj (by kernel_rfl)) rfl (by kernel_rfl) (by kernel_rfl) (by kernel_rfl) (fun _ _ _ h=>h) (yG (zaN rfl) rfl) ?_
  simp only [Act.put,List.setIfInBounds_toArray,List.set_cons_succ,List.set_cons_zero]
  refine zau (i:=6) (o:=⟨some 11,.call { callee:=.value (.func 80),args:=#[.tmp 8,.tmp 10],argTypes:=#[31,3] },_,_,_,some (2,true)⟩) (by kernel_rfl) rfl rfl (nd) ?_
  intro K hK
  go_simp
  refine CallsIn.mono (kB _ (nd)) ?_
  rintro e v6 ⟨rfl,n6⟩
  refine hK _ _ ?_
  refine zau (i:=9) (o:=⟨some 14,.call { callee:=.value (.func 80),args:=#[.tmp 12,.tmp 13],argTypes:=#[31,3] },_,_,_,some (2,true)⟩) (by kernel_rfl) rfl rfl (n6) ?_
  intro K hK
  go_simp
  refine CallsIn.mono (kA _ (n6)) ?_
  rintro e v9 ⟨rfl,n9⟩
  refine hK _ _ ?_
  refine zah (i:=10) (oi:=⟨some 15,.binOp .gtr 3 (.tmp 11) (.tmp 14) 3,_,_,_,some (2,true)⟩) (v:=.bool (decide ((d.ran (h+1)) > (d.ran h)))) (zaj (by kernel_rfl)) rfl (by kernel_rfl) (by kernel_rfl) (by kernel_rfl) (fun _ _ _ h=>h) (yG (yck rfl rfl) rfl) ?_
  simp only [Act.put,List.setIfInBounds_toArray,List.set_cons_succ,List.set_cons_zero]
  refine zah (i:=11) (oi:=⟨some 16,.pick (.tmp 7) (.tmp 15) (.const (.bool false)),_,_,_,none⟩) (v:=.bool (decide ((d.ran (h+1)) > (d.ran h)))) (zaj (by kernel_rfl)) rfl (by kernel_rfl) (by kernel_rfl) (by kernel_rfl) (fun _ _ _ h=>h) (ybs rfl rfl) ?_
  simp only [Act.put,List.setIfInBounds_toArray,List.set_cons_succ,List.set_cons_zero]
  refine zah (i:=12) (oi:=⟨some 4,.assign (.tmp 16),_,_,_,none⟩) (v:=.bool (decide ((d.ran (h+1)) > (d.ran h)))) (zaj (by kernel_rfl)) rfl (by kernel_rfl) (by kernel_rfl) (by kernel_rfl) (fun _ _ _ h=>h) (zdN rfl) ?_
  simp only [Act.put,List.setIfInBounds_toArray,List.set_cons_succ,List.set_cons_zero]
  refine zbk (by kernel_rfl) (n9) ?_
  clear kA kB cW
  gi_wp2
  go_ret
  exact⟨by rw [decide_eq_true hh0,Bool.true_and];rfl,Nx.trans n0 n9⟩
 ·have b1:decide (h≥0)=false:=decide_eq_false (by omega)
  have b2:decide (0≤h)=false:=decide_eq_false hh0
  clear kA kB cW
  gi_upto_region 1 with fail
  gi_big_quiet_th (fail)
  gi_wp2
  go_ret
  exact⟨rfl,Nx.drewN n0 _⟩
theorem yav (d:Dit) (r:zaR) (h:Int) (w:World) (hd:DitSl w d r) (hO:d.Ok) (hh : -1000000000≤h∧h≤100000000000) :
  CallsIn FL 0 Tryd.prog 76 #[d.val r,num h] w fun e w'=>e=.returned (.tuple #[num (d.owner h).1,num (d.owner h).2.1,num (d.owner h).2.2])∧Nx w w':=by
 obtain⟨W,hW,n0,hWs,cW⟩:=boxed w d r
 have nWW:Nx W W:=Below.refl _ _
 have k100:=yau d r h W (hd.nx n0) hO.times hh
 have CO:=Lib.hid cW
 have HD:=Lib.hid (hd.nx n0)
 have HO:=Lib.hid hO
 obtain⟨c0,c1,c2,c3,c4,c5,c6,c7,c8,c9,c10,c11,c12,c13⟩:=zaS (cW _ nWW)
 have CL:=Lib.hid cW
 have hran:=hO.ran_nonneg h
 have hT:=hO.cyc_pos
 have hcb:=hO.cyc.size
 have hown:(decide (0≤h) && decide (d.ran (h+1) > d.ran h))=false→d.owner h=(-1,-1,-1):=fun e=>by
  have hat:d.at d.ends d.cyc h=(-1,-1):=by
   unfold Dit.at
   refine if_pos ?_
   by_cases h0:h<0
   ·exact .inl h0
   ·have hs:=hO.ran_step (h:=h) (by omega)
    have:¬ d.ran (h+1) > d.ran h:=by rw [decide_eq_true (by omega:0≤h),Bool.true_and] at e;exact of_decide_eq_false e
    right;split at hs<;>omega
  unfold Dit.owner whoS
  rw [hat]
  simp
 have hown2:(decide (0≤h) && decide (d.ran (h+1) > d.ran h))=true→∃ l:List Int,l=d.oth ((d.ran h).tdiv d.cyc)∧l.length=d.turns.length∧d.turn ((d.ran h).tmod d.cyc)<d.turns.length∧d.owner h=((l[d.turn ((d.ran h).tmod d.cyc)]?).getD 0,(d.ran h).tdiv d.cyc,(d.turn ((d.ran h).tmod d.cyc):Int)):=fun e=>by
  simp only [Bool.and_eq_true,decide_eq_true_eq] at e
  have hq:0≤(d.ran h).tdiv d.cyc:=Int.tdiv_nonneg hran (by omega)
  refine⟨_,rfl,hO.oth_len _,hO.turn_lt (d.ran h),?_⟩
  have hw:(if (d.ran h).tdiv d.cyc∈d.keys then d.oth ((d.ran h).tdiv d.cyc) else d.us)=d.oth ((d.ran h).tdiv d.cyc):=by
   split
   ·rfl
   ·rename_i hn;rw [zoI hn]
  have hat:d.at d.ends d.cyc h=((d.ran h).tdiv d.cyc,(zei d.ends ((d.ran h).tmod d.cyc) 12 0:Int)):=by unfold Dit.at;rw [if_neg (by omega)]
  unfold Dit.owner whoS
  rw [hat]
  simp only []
  rw [if_neg (by omega),hw,Int.toNat_natCast]
  rfl
 clear hd hO cW
 gi_enter Tryd.func76,Tryd.ntmps76
 cases hb:(decide (0≤h) && decide (d.ran (h+1) > d.ran h)) with
 | false =>
  rw [hb] at k100
  have hz:=hown hb
  have HZ:=Lib.hid hz
  clear hown hown2 hb hz
  gi_wp2_with (first
   | (gi_at_call 100;refine CallsIn.mono k100 ?_;rintro e w1 ⟨rfl,n1⟩)
   | gi_in)
  refine bodyPost_ret (v:=.tuple #[num (-1),num (-1),num (-1)]) (by simp [results,Tryd.results76,go_sem]) rfl ?_
  exact⟨by rw [HZ.out]<;>rfl,Nx.trans n0 n1⟩
 | true =>
  rw [hb] at k100
  obtain⟨l,hl,hll,htt,hz⟩:=hown2 hb
  have HZ:=Lib.hid hz
  clear hown hown2 hb hz
  gi_upto_region 3 with (first
   | (gi_at_call 100;refine CallsIn.mono k100 ?_;rintro e w1 ⟨rfl,n1⟩)
   | gi_in)
  clear k100 c0 c1 c2 c3 c4 c5 c6 c7 c8 c9 c10 c11 c12 c13
  obtain⟨c0,c1,c2,c3,c4,c5,c6,c7,c8,c9,c10,c11,c12,c13⟩:=zaS (CO.out w1 n1)
  have k80:=zhN d r h w1 (HD.out.nx n1) HO.out.times (by omega)
  gi_upto_region 4 with (first
   | (gi_at_call 80;refine CallsIn.mono k80 ?_;rintro e w2 ⟨rfl,n2⟩)
   | gi_in)
  clear k80 c0 c1 c2 c3 c4 c5 c6 c7 c8 c9 c10 c11 c12 c13
  have n3:=Nx.trans n1 n2
  have nd:Nx W w2.drew:=Below.drew n3
  have cW:=CO.out
  have hq : -9223372036854775808≤(d.ran h).tdiv d.cyc∧(d.ran h).tdiv d.cyc≤9223372036854775807:=by
   have h1:0≤(d.ran h).tdiv d.cyc:=Int.tdiv_nonneg hran (by omega)
   have h2:=zf2 HO.out.times (fun _=>by have:=HO.out.room;omega) (h:=h) (by omega)
   have h3:(d.ran h).tdiv d.cyc≤d.ran h:=Int.tdiv_le_self _ hran
   omega
  have hm:0≤(d.ran h).tmod d.cyc∧(d.ran h).tmod d.cyc<d.cyc:=⟨Int.tmod_nonneg _ hran,Int.tmod_lt_of_pos _ hT⟩
  have hr : -9223372036854775808≤(d.ran h).tmod d.cyc∧(d.ran h).tmod d.cyc≤9223372036854775807:=by omega
  have k44:=fun x (hx:Nx W x)=>(zjH d r x (HD.out.nx hx) HO.out).mono fun e w' ⟨p,q⟩=>(⟨p,Nx.trans hx q⟩:e=Ending.returned (num d.cyc)∧Nx W w')
  have k101:=fun x (hx:Nx W x)=>(yat d r ((d.ran h).tmod d.cyc) x (HD.out.nx hx) HO.out hm).mono fun e w' ⟨p,q⟩=>(⟨p,Nx.trans hx q⟩:e=Ending.returned (num (d.turn ((d.ran h).tmod d.cyc):Int))∧Nx W w')
  have k102:=fun x (hx:Nx W x)=>zgW d r ((d.ran h).tdiv d.cyc) x (HD.out.nx hx) HO.out
  generalize d.turn ((d.ran h).tmod d.cyc)=t at HZ htt k101
  generalize d.ran h=x at *
  have HM:=Lib.hid hm
  have HQ:=Lib.hid hq
  clear hm
  refine zbg (fun x=>Nx W x) (by kernel_rfl) ?_
  change wpAnyC _ _ _ _ _ _ _ 12 #[false,false,false,false,false,false,false,false,false,false,false,false] _ _
  refine zah (i:=0) (oi:=⟨some 17,.move (.tmp 7),_,_,_,none⟩) (v:=num x) (zaj (by kernel_rfl)) rfl (by kernel_rfl) (by kernel_rfl) (by kernel_rfl) (fun _ _ _ h=>h) (zaN rfl) ?_
  simp only [Act.put,List.setIfInBounds_toArray,List.set_cons_succ,List.set_cons_zero]
  refine zah (i:=1) (oi:=⟨some 18,.load 31 (.tmp 2),_,_,_,none⟩) (v:=d.val r) (zaj (by kernel_rfl)) rfl (by kernel_rfl) (by kernel_rfl) (by kernel_rfl) (fun _ _ _ h=>h) (zc8 rfl (fun x hx=>cW x hx)) ?_
  simp only [Act.put,List.setIfInBounds_toArray,List.set_cons_succ,List.set_cons_zero]
  refine zah (i:=4) (oi:=⟨some 21,.load 31 (.tmp 2),_,_,_,none⟩) (v:=d.val r) (zaj (by kernel_rfl)) rfl (by kernel_rfl) (by kernel_rfl) (by kernel_rfl) (fun _ _ _ h=>h) (zc8 rfl (fun x hx=>cW x hx)) ?_
  simp only [Act.put,List.setIfInBounds_toArray,List.set_cons_succ,List.set_cons_zero]
  refine zah (i:=5) (oi:=⟨some 22,.move (.tmp 7),_,_,_,none⟩) (v:=num x) (zaj (by kernel_rfl)) rfl (by kernel_rfl) (by kernel_rfl) (by kernel_rfl) (fun _ _ _ h=>h) (zaN rfl) ?_
  simp only [Act.put,List.setIfInBounds_toArray,List.set_cons_succ,List.set_cons_zero]
  refine zah (i:=6) (oi:=⟨some 23,.load 31 (.tmp 2),_,_,_,none⟩) (v:=d.val r) (zaj (by kernel_rfl)) rfl (by kernel_rfl) (by kernel_rfl) (by kernel_rfl) (fun _ _ _ h=>h) (zc8 rfl (fun x hx=>cW x hx)) ?_
  simp only [Act.put,List.setIfInBounds_toArray,List.set_cons_succ,List.set_cons_zero]
  refine zau (i:=2) (o:=⟨some 19,.call { callee:=.value (.func 44),args:=#[.tmp 18],argTypes:=#[31] },_,_,_,none⟩) (by kernel_rfl) rfl rfl (nd) ?_
  intro K hK
  go_simp
  refine CallsIn.mono (k44 _ (nd)) ?_
  rintro e v2 ⟨rfl,n2⟩
  refine hK _ _ ?_
  refine zah (i:=3) (oi:=⟨some 20,.binOp .quo 3 (.tmp 17) (.tmp 19) 3,_,_,_,none⟩) (v:=num (x.tdiv d.cyc)) (zaj (by kernel_rfl)) rfl (by kernel_rfl) (by kernel_rfl) (by kernel_rfl) (fun _ _ _ h=>h) (zpI rfl rfl hT hq) ?_
  simp only [Act.put,List.setIfInBounds_toArray,List.set_cons_succ,List.set_cons_zero]
  refine zau (i:=7) (o:=⟨some 24,.call { callee:=.value (.func 44),args:=#[.tmp 23],argTypes:=#[31] },_,_,_,none⟩) (by kernel_rfl) rfl rfl (n2) ?_
  intro K hK
  go_simp
  refine CallsIn.mono (k44 _ (n2)) ?_
  rintro e v7 ⟨rfl,n7⟩
  refine hK _ _ ?_
  refine zah (i:=8) (oi:=⟨some 25,.binOp .rem 3 (.tmp 22) (.tmp 24) 3,_,_,_,none⟩) (v:=num (x.tmod d.cyc)) (zaj (by kernel_rfl)) rfl (by kernel_rfl) (by kernel_rfl) (by kernel_rfl) (fun _ _ _ h=>h) (zpP rfl rfl hT hr) ?_
  simp only [Act.put,List.setIfInBounds_toArray,List.set_cons_succ,List.set_cons_zero]
  refine zau (i:=9) (o:=⟨some 26,.call { callee:=.value (.func 101),args:=#[.tmp 21,.tmp 25],argTypes:=#[31,3] },_,_,_,none⟩) (by kernel_rfl) rfl rfl (n7) ?_
  intro K hK
  go_simp
  refine CallsIn.mono (k101 _ (n7)) ?_
  rintro e v9 ⟨rfl,n9⟩
  refine hK _ _ ?_
  refine zah (i:=10) (oi:=⟨some 8,.assign (.tmp 20),_,_,_,none⟩) (v:=num (x.tdiv d.cyc)) (zaj (by kernel_rfl)) rfl (by kernel_rfl) (by kernel_rfl) (by kernel_rfl) (fun _ _ _ h=>h) (zdN rfl) ?_
  simp only [Act.put,List.setIfInBounds_toArray,List.set_cons_succ,List.set_cons_zero]
  refine zah (i:=11) (oi:=⟨some 9,.assign (.tmp 26),_,_,_,none⟩) (v:=num t) (zaj (by kernel_rfl)) rfl (by kernel_rfl) (by kernel_rfl) (by kernel_rfl) (fun _ _ _ h=>h) (zdN rfl) ?_
  simp only [Act.put,List.setIfInBounds_toArray,List.set_cons_succ,List.set_cons_zero]
  refine zbk (by kernel_rfl) (n9) ?_
  clear k44 k101 hq hr cW
  have k:=k102 _ n9
  have hx:l[t]?=some l[t]:=List.getElem?_eq_getElem (by omega)
  obtain⟨c0,c1,c2,c3,c4,c5,c6,c7,c8,c9,c10,c11,c12,c13⟩:=zaS (CO.out _ n9)
  clear k102
  subst hl
  gi_wp2_with (first
   | (gi_at_call 102;refine CallsIn.mono k ?_;rintro e w5 ⟨g,cap,rfl,n5,hl5⟩;have hc5:=yb6 hl5 hx;clear hl5)
   | gi_in)
  refine bodyPost_ret (v:=.tuple #[num (d.oth (x.tdiv d.cyc))[t],num (x.tdiv d.cyc),num t]) (by simp [results,Tryd.results76,go_sem]) rfl ?_
  exact⟨by rw [HZ.out,hx];rfl,Nx.trans n0 (Nx.trans n9 n5)⟩
end Go.Proofs.YtolholkjeehamaaDoor

namespace Go.Proofs.YtolholkjeehamaaDoor
open Go.RowKit
def yab (a b:Int):Bool:=decide (zdp a<zdp b∨zdp a=zdp b∧a > b)
theorem yaw {c n:Int} {k k' : Nat} (h:zbo c k n k'=false):k > k'∨k=k'∧yab c n=false:=by
 unfold zbo at h
 split at h
 ·rename_i g
  left
  have:=of_decide_eq_false h
  omega
 ·rename_i g
  right
  refine⟨Decidable.not_not.1 g,?_⟩
  unfold yab
  split at h
  ·rename_i g2
   have:=of_decide_eq_false h
   exact decide_eq_false (by omega)
  ·rename_i g2
   have:=of_decide_eq_false h
   exact decide_eq_false (by omega)
theorem ya5 {d:Dit} {l:Lg} {n:Int} {i:Nat} (hi:i<l.ops.length):(i:Int)∈outL d l n l.ops.length↔ybf d l n i=true:=by
 have h:=yae d l n i l.ops.length
 unfold cntI at h
 rw [← List.count_pos_iff]
 constructor
 ·intro g
  split at h
  ·rename_i q;exact q.2
  ·omega
 ·intro g
  rw [if_pos ⟨hi,g⟩] at h
  omega
structure yaf (d:Dit) (l:Lg) (n:Int) (xs:List Int):Prop where
 bd:l.lo≤n∧n≤l.hi
 eq:xs=outL d l n l.ops.length
 few:xs.length≤20
 mem:∀ (i:Nat) o,l.ops[i]?=some o→((i:Int)∈xs↔d.out o.1 o.2.1 o.2.2 n=true)
 best:∀ c,l.lo≤c→c≤l.hi→(outL d l c l.ops.length).length > xs.length∨(outL d l c l.ops.length).length=xs.length∧yab c n=false
theorem ybg {d:Dit} {l:Lg} {n:Int} {xs:List Int} {f:Int} (h:logS d l=0) (hb:zou d l n xs f):f=0∧yaf d l n xs:=by
 obtain⟨hf,kb,⟨h1,h2⟩,hn,hx⟩:=hb.2 h
 obtain⟨hL,hcl⟩:=zoD h
 rw [yag] at h1
 have hcap:(capN l:Int)=l.hi-l.lo+1:=by unfold capN;omega
 refine⟨hf,by omega,hx,?_,fun i o ho=>?_,fun c c1 c2=>?_⟩
 ·rw [hx]
  have:=zfU d l n l.ops.length
  have:=hL.few
  omega
 ·rw [hx,ya5 (List.getElem?_eq_some_iff.1 ho).1]
  unfold ybf
  rw [ho]
 ·have:=h2 (c-l.lo).toNat ((yag ..).2 (by omega)) (by simp)
  rw [show l.lo+((c-l.lo).toNat:Int)=c by omega,← hn,← hx] at this
  exact yaw this
end Go.Proofs.YtolholkjeehamaaDoor

namespace Go.Proofs.YtolholkjeehamaaDoor
open Go.RowKit
theorem yan (d:Dit) (r:zaR) (holder a b c:Int) (w:World) (hd:DitSl w d r) (hO:d.Ok) (ha:0≤a∧a<b) (hb:b≤999999999) (hc : -100≤c∧c≤100) :
  CallsIn FL 0 Tryd.prog 75 #[d.val r,.agg #[num holder,num a,num b],num c] w fun e w'=>e=.returned (.bool (d.out holder a b c))∧Nx w w':=by
 obtain⟨W,hW,n0,hWs,cW⟩:=boxed w d r
 generalize hY:W.alloc (.cells #[.int .i64 holder,.int .i64 a,.int .i64 b] 59)=Y
 have sY:Y.heap.size=w.heap.size+1+1:=by rw [← hY];simp [hWs]
 have nY:Nx W Y:=by rw [← hY];exact zaG (Below.refl _ _) _
 have nwY:Nx w Y:=Nx.trans n0 nY
 have cq:∀ w1,Nx Y w1→w1.cell? ⟨w.heap.size+1,0,none⟩=some (num holder)∧w1.cell? ⟨w.heap.size+1,1,none⟩=some (num a)∧w1.cell? ⟨w.heap.size+1,2,none⟩=some (num b):=by
  intro w1 n1
  have k:∀ i u,#[num holder,num a,num b][i]?=some u→w1.cell? ⟨w.heap.size+1,i,none⟩=some u:=fun i u h =>
   (n1.cell (p:=⟨w.heap.size+1,i,none⟩) (by show w.heap.size+1<_;omega)).trans (by rw [← hY,← hWs];exact zaw _ _ _ _ _ h)
  exact⟨k 0 _ rfl,k 1 _ rfl,k 2 _ rfl⟩
 have CO:=Lib.hid (fun w1 (n1:Nx Y w1)=>cW w1 (Nx.trans nY n1))
 have KO:=Lib.hid (fun (h:Int) (hh : -1000000000≤h∧h≤100000000000) u (n1:Nx Y u)=>yav d r h u (hd.nx (Nx.trans nwY n1)) hO hh)
 have CQ:=Lib.hid cq
 have hT:=Lib.hid (fun k:Nat=>fun (h1:a+c+k<b+c) (h2:(d.owner (a+c+k)).1≠holder)=>(yb4 (d:=d) (holder:=holder) (a:=a) (b:=b) (c:=c) (by omega)).2 ⟨a+c+k,by omega,h2⟩)
 have hF:=Lib.hid (fun (h:ycd d holder (ze1 (a+c) (b-a).toNat)=false)=>show d.out holder a b c=false from h)
 have hS:=Lib.hid (fun k:Nat=>show ycd d holder (ze1 (a+c) (k+1))=(ycd d holder (ze1 (a+c) k) || decide ((d.owner (a+c+k)).1≠holder)) by
  unfold ycd
  rw [zgi,List.any_append]
  simp)
 clear hd cW cq
 obtain⟨q0,q1,q2⟩:=CQ.out Y (Below.refl _ _)
 gi_enter Tryd.func75,Tryd.ntmps75
 gi_wp2
 gi_loopw [7] (fun h wr=>∃ k:Nat,k≤(b-a).toNat∧h=num (a+c+k)∧Hid (ycd d holder (ze1 (a+c) k)=false)∧Nx Y wr) (fun h _=>(b+c-intOf h).toNat)
 case atStart=>exact⟨0,Nat.zero_le _,by simp,by show _=_;simp [ycd,ze1],Below.refl _ _⟩
 case round =>
  obtain⟨k,hk,rfl,hno,n2⟩:=hrel
  clear q0 q1 q2
  obtain⟨q0,q1,q2⟩:=CQ.out wr n2
  by_cases hlt:a+c+k<b+c
  ·have b1:decide (a+c+(k:Int)<b+c)=true:=decide_eq_true hlt
   have ko:=KO.out (a+c+k) (by omega) wr n2
   have HT:=Lib.hid (hT.out k hlt)
   have HS:=Lib.hid (hS.out k)
   obtain⟨c0,c1,c2,c3,c4,c5,c6,c7,c8,c9,c10,c11,c12,c13⟩:=zaS (CO.out wr n2)
   generalize (d.owner (a+c+(k:Int))).1=o at *
   generalize (d.owner (a+c+(k:Int))).2.1=o2 at *
   generalize (d.owner (a+c+(k:Int))).2.2=o3 at *
   by_cases ho:o=holder
   ·have b4:(o != holder)=false:=by simpa using ho
    gi_wp2_with (first
     | (gi_at_call 76;refine CallsIn.mono ko ?_;rintro e w5 ⟨rfl,n5⟩;obtain⟨p0,p1,p2⟩:=CQ.out w5 (Nx.trans n2 n5))
     | gi_in)
    exact⟨⟨k+1,by omega,by simp;omega,by show _=_;rw [HS.out,hno.out];simp [ho],Nx.trans n2 n5⟩,by simp [intOf];omega⟩
   ·have b4:(o != holder)=true:=by simpa using ho
    have hz:=Lib.hid (HT.out ho)
    gi_wp2_with (first
     | (gi_at_call 76;refine CallsIn.mono ko ?_;rintro e w5 ⟨rfl,n5⟩;obtain⟨p0,p1,p2⟩:=CQ.out w5 (Nx.trans n2 n5))
     | gi_in)
    go_ret
    exact⟨by rw [hz.out]<;>rfl,Nx.trans nwY (Nx.trans n2 n5)⟩
  ·have b1:decide (a+c+(k:Int)<b+c)=false:=decide_eq_false hlt
   have hkk:k=(b-a).toNat:=by omega
   have hz:=Lib.hid (hF.out (hkk ▸ hno.out))
   clear hkk
   gi_wp2
   go_ret
   exact⟨by rw [hz.out]<;>rfl,Nx.trans nwY n2⟩
theorem ybh (a:Int) (w:World):(Builtin.max_ #[3,3] 3 #[.int .i64 a,.int .i64 (-a)]).run Tryd.prog w=.ok (num (zdp a)) w:=by
 unfold zdp
 rw [show max a (-a)=if a < -a then -a else a by omega]
 by_cases h:a < -a<;>simp [Builtin.max_,Builtin.max2,go_sem,h]
end Go.Proofs.YtolholkjeehamaaDoor

namespace Go.Proofs.YtolholkjeehamaaDoor
open Go.RowKit Go.Con Go.Conc
local instance:Lone:=zcG
theorem ycw {w W:World} {o1 o2:Obj} (h:(w.alloc o1).alloc o2=W):Old w W∧W.heap.size=w.heap.size+2∧W.heap[w.heap.size]?=some o1∧W.heap[w.heap.size+1]?=some o2:=by
 obtain⟨h1,h2,h3,h4⟩:=al2 h
 exact⟨.nx h4,h3,h1,h2⟩
end Go.Proofs.YtolholkjeehamaaDoor

namespace Go.Proofs.YtolholkjeehamaaDoor
open Go.RowKit Go.Con Go.Conc
local instance:Lone:=zcG
theorem yac {c c' : Code} {F:Fence} {n:Nat} {P:Program} {Q:Exit→Act→World→Prop} {a:Act} {w:World} (h:c=c') (H:c'.wpIn F n P Q a w):c.wpIn F n P Q a w:=h ▸ H
end Go.Proofs.YtolholkjeehamaaDoor

namespace Go.Proofs.YtolholkjeehamaaDoor
open Go.RowKit
noncomputable def ycl:Code:=match Tryd.f33.body with | some c=>c | none=>.skip
noncomputable def bad5:Code:=match seqR (seqL (seqR (seqR ycl))) with
 | .block _ (.loop x)=>(match seqL (seqR x) with | .block _ z=>seqL z | c=>c)
 | c=>c
noncomputable def ycm:Array Oper:=match bad5 with | .region _ ops _=>ops | _=>#[]
theorem ybu:bad5=.region 5 ycm true:=by kernel_rfl
theorem yb7 {v0 v1 v5 v6 v7 v9 v10 v11 v12 v13 v14 v15 v16 v17 v18 v19 v20 v21 v22 v23 v24 v25 v26 v27 v28:Value} (d:Dit) (r:zaR) (l:Lg) (b off cap k:Nat) (x1 x2 x3 c:Int) (B:Nat) (out:Bool) (Y wr:World) (hlt:k<l.ops.length) (oR:Nx Y wr)
  (CO:Hid (∀ w2,Nx Y w2→∀ i v,(d.cellsA r)[i]?=some v→w2.cell? ⟨B,i,none⟩=some v)) (CL:Hid (∀ w2,Nx Y w2→∀ i v,(#[num l.lo,num l.hi,.slice (some ⟨b,off,none⟩) l.ops.length cap]:Array Value)[i]?=some v→w2.cell? ⟨B+1,i,none⟩=some v))
  (E0:Hid (∀ w2,Nx Y w2→w2.cell? ⟨b,off+k * 3,none⟩=some (num x1))) (E1:Hid (∀ w2,Nx Y w2→w2.cell? ⟨b,off+k * 3+1,none⟩=some (num x2))) (E2:Hid (∀ w2,Nx Y w2→w2.cell? ⟨b,off+k * 3+2,none⟩=some (num x3)))
  (KO:Hid (∀ u,Nx Y u→CallsIn FL 0 Tryd.prog 75 #[d.val r,.agg #[num x1,num x2,num x3],num c] u fun e w'=>e=Ending.returned (.bool out)∧Nx u w')) :
  bad5.wpIn FL 0 Tryd.prog (fun e a w'=>e=.normal∧a.defers=[]∧a.tmps=#[v0,v1,num c,.pointer (some ⟨B,0,none⟩),.pointer (some ⟨B+1,0,none⟩),v5,v6,v7,num k,v9,v10,v11,v12,v13,v14,v15,d.val r,.pointer (some ⟨B+1,2,none⟩),.slice (some ⟨b,off,none⟩) l.ops.length cap,num k,.pointer (some ⟨b,off+k * 3,none⟩),.agg #[num x1,num x2,num x3],num c,.bool out,v24,v25,v26,v27,v28]∧Nx Y w') ⟨#[v0,v1,num c,.pointer (some ⟨B,0,none⟩),.pointer (some ⟨B+1,0,none⟩),v5,v6,v7,num k,v9,v10,v11,v12,v13,v14,v15,v16,v17,v18,v19,v20,v21,v22,v23,v24,v25,v26,v27,v28],[]⟩ wr:=by
 rw [ybu]
 have oD:Nx Y wr.drew:=Below.drew oR
 refine zbg (fun x=>Nx Y x) (by kernel_rfl) ?_
 change wpAnyC _ _ _ _ _ _ _ 8 #[false,false,false,false,false,false,false,false] _ _
 refine zah (i:=0) (oi:=⟨some 16,.load 31 (.tmp 3),_,_,_,none⟩) (v:=d.val r) (zaj (by kernel_rfl)) rfl (by kernel_rfl) (by kernel_rfl) (by kernel_rfl) (fun _ _ _ h=>by cases h.1) (zc8 rfl (fun x hx=>CO.out x hx)) ?_
 simp only [Act.put,List.setIfInBounds_toArray,List.set_cons_succ,List.set_cons_zero]
 refine zah (i:=1) (oi:=⟨some 17,.fieldAddr 35 (.tmp 4) 1,_,_,_,none⟩) (v:=.pointer (some ⟨B+1,2,none⟩)) (zaj (by kernel_rfl)) rfl (by kernel_rfl) (by kernel_rfl) (by kernel_rfl) (fun _ _ _ h=>by cases h.1) (yC rfl (fun _=>rfl) fun x hx=>by clear CO CL KO oD;simp [execOp,go_sem]) ?_
 simp only [Act.put,List.setIfInBounds_toArray,List.set_cons_succ,List.set_cons_zero]
 refine zah (i:=2) (oi:=⟨some 18,.load 33 (.tmp 17),_,_,_,none⟩) (v:=.slice (some ⟨b,off,none⟩) l.ops.length cap) (zaj (by kernel_rfl)) rfl (by kernel_rfl) (by kernel_rfl) (by kernel_rfl) (fun _ _ _ h=>by cases h.1) (yC rfl (fun _=>rfl) fun x hx=>by have e:=CL.out x hx 2 _ rfl;clear CO CL KO oD;simp [execOp,go_sem,e]) ?_
 simp only [Act.put,List.setIfInBounds_toArray,List.set_cons_succ,List.set_cons_zero]
 refine zah (i:=3) (oi:=⟨some 19,.move (.tmp 8),_,_,_,none⟩) (v:=num k) (zaj (by kernel_rfl)) rfl (by kernel_rfl) (by kernel_rfl) (by kernel_rfl) (fun _ _ _ h=>by cases h.1) (zaN rfl) ?_
 simp only [Act.put,List.setIfInBounds_toArray,List.set_cons_succ,List.set_cons_zero]
 refine zah (i:=4) (oi:=⟨some 20,.indexAddr 33 (.tmp 18) (.tmp 19),_,_,_,none⟩) (v:=.pointer (some ⟨b,off+k * 3,none⟩)) (zaj (by kernel_rfl)) rfl (by kernel_rfl) (by kernel_rfl) (by kernel_rfl) (fun _ _ _ h=>by cases h.1) (yC rfl (fun _=>rfl) fun x hx=>by clear CO CL KO oD;simp [execOp,go_sem,hlt]) ?_
 simp only [Act.put,List.setIfInBounds_toArray,List.set_cons_succ,List.set_cons_zero]
 refine zah (i:=5) (oi:=⟨some 21,.load 59 (.tmp 20),_,_,_,none⟩) (v:=.agg #[num x1,num x2,num x3]) (zaj (by kernel_rfl)) rfl (by kernel_rfl) (by kernel_rfl) (by kernel_rfl) (fun _ _ _ h=>by cases h.1) (yC rfl (fun _=>rfl) fun x hx=>by have e0:=E0.out x hx;have e1:=E1.out x hx;have e2:=E2.out x hx;clear CO CL KO oD;simp [execOp,go_sem,e0,e1,e2]) ?_
 simp only [Act.put,List.setIfInBounds_toArray,List.set_cons_succ,List.set_cons_zero]
 refine zah (i:=6) (oi:=⟨some 22,.move (.tmp 2),_,_,_,none⟩) (v:=num c) (zaj (by kernel_rfl)) rfl (by kernel_rfl) (by kernel_rfl) (by kernel_rfl) (fun _ _ _ h=>by cases h.1) (zaN rfl) ?_
 simp only [Act.put,List.setIfInBounds_toArray,List.set_cons_succ,List.set_cons_zero]
 refine zau (i:=7) (o:=⟨some 23,.call { callee:=.value (.func 75),args:=#[.tmp 16,.tmp 21,.tmp 22],argTypes:=#[31,59,3] },_,_,_,none⟩) (by kernel_rfl) rfl rfl (oD) ?_
 intro K hK
 go_simp
 refine CallsIn.mono (((KO.out _ (oD)).mono fun e w' ⟨p,q⟩=>(⟨p,Nx.trans (oD) q⟩:e=Ending.returned (.bool out)∧Nx Y w'))) ?_
 rintro e v7w ⟨rfl,y7⟩
 refine hK _ _ ?_
 refine zbk (by kernel_rfl) (y7) ?_
 exact⟨rfl,rfl,rfl,y7⟩
theorem ybi {w w' : World} {base e sz n:Nat} {v:Value} {xs:List Value} (h:w.ownsRow base e sz v n xs) (nx:Nx w w'):w'.ownsRow base e sz v n xs:=by
 refine⟨h.1,?_⟩
 rcases h.2 with hn | ⟨g,cap,cur,rfl,hb,hg,rest⟩
 ·exact .inl hn
 ·exact .inr ⟨g,cap,cur,rfl,hb,(nx.block g (Array.getElem?_eq_some_iff.1 hg).1).trans hg,rest⟩
theorem ybj (d:Dit) (r:zaR) (l:Lg) (al:Option Addr) (cap:Nat) (c:Int) (w:World) (hd:DitSl w d r) (hlog:logS d l=0) (hO:d.Ok) (hl:Sl w (.slice al l.ops.length cap) 3 (l.ops.map three)) (hc:l.lo≤c∧c≤l.hi) :
  CallsIn FL 0 Tryd.prog 33 #[d.val r,.agg #[num l.lo,num l.hi,.slice al l.ops.length cap],num c] w fun e w'=>∃ u,e=.returned u∧Nx w w'∧Sl w' u 1 ((outL d l c l.ops.length).map fun x=>[num x]):=by
 obtain⟨W,hW,n0,hWs,cW⟩:=boxed w d r
 generalize hY:W.alloc (.cells #[num l.lo,num l.hi,.slice al l.ops.length cap] 35)=Y
 have sY:Y.heap.size=w.heap.size+1+1:=by rw [← hY];simp [hWs]
 have nY:Nx W Y:=by rw [← hY];exact zaG (Below.refl _ _) _
 have nwY:Nx w Y:=Nx.trans n0 nY
 have CL:=Lib.hid (fun w1 (n1:Nx Y w1) i v (h:(#[num l.lo,num l.hi,.slice al l.ops.length cap]:Array Value)[i]?=some v)=>show w1.cell? ⟨w.heap.size+1,i,none⟩=some v from
  (n1.cell (p:=⟨w.heap.size+1,i,none⟩) (by show w.heap.size+1<_;omega)).trans (by rw [← hY,← hWs];exact zaw _ _ _ _ _ h))
 have CO:=Lib.hid (fun w1 (n1:Nx Y w1)=>cW w1 (Nx.trans nY n1))
 have HL:=Lib.hid (hl.nx nwY)
 have HD:=Lib.hid (hd.nx nwY)
 have hL:=zoD hlog
 have hfew:=hL.1.few
 clear cW hl hd hlog
 have q2:=CL.out Y (Below.refl _ _) 2 _ rfl
 gi_enter Tryd.func33,Tryd.ntmps33
 gi_wp2
 clear q2
 gi_loopw [7,8] (fun vu i wr=>∃ k:Nat,k≤l.ops.length∧i=num k∧wr.ownsRow Y.heap.size 3 1 vu (outL d l c k).length ((outL d l c k).map num)∧Nx Y wr) (fun _ i _=>l.ops.length-(intOf i).toNat)
 case atStart=>exact⟨0,Nat.zero_le _,rfl,⟨rfl,.inl ⟨rfl,rfl⟩⟩,Below.refl _ _⟩
 case round =>
  obtain⟨k,hk,rfl,hown,n2⟩:=hrel
  have HOWN:=Lib.hid hown
  clear hown
  by_cases hlt:k<l.ops.length
  ·obtain⟨b,off,ha,hbl,hcl⟩:=HL.out.get (by simp;omega)
   subst ha
   have hx:l.ops[k]?=some l.ops[k]:=List.getElem?_eq_getElem hlt
   generalize l.ops[k]=x at hx
   obtain⟨x1,x2,x3⟩:=x
   have E0:=Lib.hid (fun w2 (o:Nx wr w2)=>show w2.cell? ⟨b,off+k * 3,none⟩=some (num x1) from ((Nx.trans n2 o).cell (p:=⟨b,off+k * 3,none⟩) hbl).trans (hcl k 0 (three (x1,x2,x3)) (num x1) (by simp [hx]) rfl))
   have E1:=Lib.hid (fun w2 (o:Nx wr w2)=>show w2.cell? ⟨b,off+k * 3+1,none⟩=some (num x2) from ((Nx.trans n2 o).cell (p:=⟨b,off+k * 3+1,none⟩) hbl).trans (hcl k 1 (three (x1,x2,x3)) (num x2) (by simp [hx]) rfl))
   have E2:=Lib.hid (fun w2 (o:Nx wr w2)=>show w2.cell? ⟨b,off+k * 3+2,none⟩=some (num x3) from ((Nx.trans n2 o).cell (p:=⟨b,off+k * 3+2,none⟩) hbl).trans (hcl k 2 (three (x1,x2,x3)) (num x3) (by simp [hx]) rfl))
   have hop:=hL.1.op k _ hx
   dsimp only at hop
   have hst:outL d l c (k+1)=outL d l c k++(if d.out x1 x2 x3 c then [(k:Int)] else []):=by
    show outL d l c k++(match l.ops[k]? with | some o=>if d.out o.1 o.2.1 o.2.2 c then [(k:Int)] else [] | none=>[])=_
    rw [hx]
   have HST:=Lib.hid hst
   have hln:=zfU d l c k
   have KO:=Lib.hid (fun u (o:Nx wr u)=>yan d r x1 x2 x3 c u (HD.out.nx (Nx.trans n2 o)) hO (by omega) (by omega) (by omega))
   have q2:=CL.out wr n2 2 _ rfl
   clear hx hcl hst
   generalize d.out x1 x2 x3 c=out at *
   gi_upto_region 5 with fail
   clear q2
   refine yac (c':=bad5) (by kernel_rfl) ?_
   refine wpIn_mono (yb7 d r l b off cap k x1 x2 x3 c w.heap.size out wr wr hlt (Below.refl _ _) (Lib.hid fun w2 o=>CO.out w2 (Nx.trans n2 o)) (Lib.hid fun w2 o=>CL.out w2 (Nx.trans n2 o)) E0 E1 E2 KO) ?_
   rintro e a w5 ⟨rfl,hdf,hta,o5⟩
   obtain⟨ta,df⟩:=a
   dsimp only at hdf hta
   subst hta hdf
   cases out with
   | false =>
    gi_wp2
    exact⟨⟨k+1,hlt,by simp,by rw [HST.out];simpa using ybi HOWN.out o5,Nx.trans n2 o5⟩,by simp [intOf];omega⟩
   | true =>
    obtain⟨v',W8,happ,hown8,hg8,_,hat⟩:=zho Y.heap.size _ (outL d l c k) [(k:Int)] (w5.alloc (.cells #[num k] 3)) ((ybi HOWN.out o5).alloc _) ⟨w5.heap.size,0,none⟩ 1 (by
     intro j x hj
     cases j with
     | zero=>simp at hj;subst hj;exact zaw w5 _ _ _ _ rfl
     | succ j=>simp at hj) (by simp;omega) (by have:=(Nx.trans n2 o5).size;simp;omega)
    have n8:Nx Y W8:=(zaG (Nx.trans n2 o5) _).grown hg8 fun z hz=>(HOWN.out.lt z hz).1
    have HO8:=Lib.hid hown8
    rw [show ([(k:Int)]:List Int).length=1 from rfl] at happ
    clear hown8 hg8 hat
    simp [go_sem] at happ
    gi_wp2
    exact⟨⟨k+1,hlt,by simp,by rw [HST.out,if_pos rfl,List.length_append];exact HO8.out,n8⟩,by simp [intOf];omega⟩
  ·obtain rfl:k=l.ops.length:=by omega
   have q2:=CL.out wr n2 2 _ rfl
   gi_wp2
   go_ret
   exact⟨_,rfl,Nx.trans nwY n2,zb7 HOWN.out⟩
end Go.Proofs.YtolholkjeehamaaDoor

namespace Go.Proofs.YtolholkjeehamaaDoor
open Go.RowKit
noncomputable def ycn:Code:=match Tryd.f36.body with | some c=>c | none=>.skip
noncomputable def ycx:Code:=match seqR (seqL (seqR (seqR (seqR ycn)))) with
 | .block _ (.loop x)=>(match seqL (seqR x) with | .block _ z=>z | c=>c)
 | c=>c
noncomputable def jud12:Code:=match seqR (seqL (seqR ycx)) with
 | .block _ (.loop x)=>(match seqL (seqR x) with | .block _ z=>seqL z | c=>c)
 | c=>c
noncomputable def yb8:Array Oper:=match jud12 with | .region _ ops _=>ops | _=>#[]
theorem ybk:jud12=.region 12 yb8 true:=by kernel_rfl
theorem yb9 {v0 v1 v4 v5 v6 v7 v9 v10 v12 v13 v14 v15 v16 v17 v18 v19 v20 v21 v22 v23 v24 v25 v26 v27 v28 v29 v30 v31 v32 v33 v34 v35 v36 v37 v38 v39 v40 v41 v42 v43 v44 v45 v46 v47 v48 v49 v50 v51 v52 v53 v54 v55 v56 v57 v58 v59 v60:Value} (d:Dit) (r:zaR) (l:Lg) (b off cap k:Nat) (x1 x2 x3 c:Int) (B:Nat) (out:Bool) (Y wr:World) (hlt:k<l.ops.length) (oR:Nx Y wr)
  (CO:Hid (∀ w2,Nx Y w2→∀ i v,(d.cellsA r)[i]?=some v→w2.cell? ⟨B,i,none⟩=some v)) (CL:Hid (∀ w2,Nx Y w2→∀ i v,(#[num l.lo,num l.hi,.slice (some ⟨b,off,none⟩) l.ops.length cap]:Array Value)[i]?=some v→w2.cell? ⟨B+1,i,none⟩=some v))
  (E0:Hid (∀ w2,Nx Y w2→w2.cell? ⟨b,off+k * 3,none⟩=some (num x1))) (E1:Hid (∀ w2,Nx Y w2→w2.cell? ⟨b,off+k * 3+1,none⟩=some (num x2))) (E2:Hid (∀ w2,Nx Y w2→w2.cell? ⟨b,off+k * 3+2,none⟩=some (num x3)))
  (KO:Hid (∀ u,Nx Y u→CallsIn FL 0 Tryd.prog 75 #[d.val r,.agg #[num x1,num x2,num x3],num c] u fun e w'=>e=Ending.returned (.bool out)∧Nx u w')) :
  jud12.wpIn FL 0 Tryd.prog (fun e a w'=>e=.normal∧a.defers=[]∧a.tmps=#[v0,v1,.pointer (some ⟨B,0,none⟩),.pointer (some ⟨B+1,0,none⟩),v4,v5,v6,v7,num k,v9,v10,num c,.bool out,v13,v14,v15,v16,v17,v18,v19,v20,v21,v22,v23,v24,v25,v26,v27,v28,v29,v30,v31,v32,v33,v34,v35,v36,d.val r,.pointer (some ⟨B+1,2,none⟩),.slice (some ⟨b,off,none⟩) l.ops.length cap,num k,.pointer (some ⟨b,off+k * 3,none⟩),.agg #[num x1,num x2,num x3],num c,.bool out,v45,v46,v47,v48,v49,v50,v51,v52,v53,v54,v55,v56,v57,v58,v59,v60]∧Nx Y w') ⟨#[v0,v1,.pointer (some ⟨B,0,none⟩),.pointer (some ⟨B+1,0,none⟩),v4,v5,v6,v7,num k,v9,v10,num c,v12,v13,v14,v15,v16,v17,v18,v19,v20,v21,v22,v23,v24,v25,v26,v27,v28,v29,v30,v31,v32,v33,v34,v35,v36,v37,v38,v39,v40,v41,v42,v43,v44,v45,v46,v47,v48,v49,v50,v51,v52,v53,v54,v55,v56,v57,v58,v59,v60],[]⟩ wr:=by
 rw [ybk]
 have oD:Nx Y wr.drew:=Below.drew oR
 refine zbg (fun x=>Nx Y x) (by kernel_rfl) ?_
 change wpAnyC _ _ _ _ _ _ _ 9 #[false,false,false,false,false,false,false,false,false] _ _
 refine zah (i:=0) (oi:=⟨some 37,.load 31 (.tmp 2),_,_,_,none⟩) (v:=d.val r) (zaj (by kernel_rfl)) rfl (by kernel_rfl) (by kernel_rfl) (by kernel_rfl) (fun _ _ _ h=>by cases h.1) (zc8 rfl (fun x hx=>CO.out x hx)) ?_
 simp only [Act.put,List.setIfInBounds_toArray,List.set_cons_succ,List.set_cons_zero]
 refine zah (i:=1) (oi:=⟨some 38,.fieldAddr 35 (.tmp 3) 1,_,_,_,none⟩) (v:=.pointer (some ⟨B+1,2,none⟩)) (zaj (by kernel_rfl)) rfl (by kernel_rfl) (by kernel_rfl) (by kernel_rfl) (fun _ _ _ h=>by cases h.1) (yC rfl (fun _=>rfl) fun x hx=>by clear CO CL KO oD;simp [execOp,go_sem]) ?_
 simp only [Act.put,List.setIfInBounds_toArray,List.set_cons_succ,List.set_cons_zero]
 refine zah (i:=2) (oi:=⟨some 39,.load 33 (.tmp 38),_,_,_,none⟩) (v:=.slice (some ⟨b,off,none⟩) l.ops.length cap) (zaj (by kernel_rfl)) rfl (by kernel_rfl) (by kernel_rfl) (by kernel_rfl) (fun _ _ _ h=>by cases h.1) (yC rfl (fun _=>rfl) fun x hx=>by have e:=CL.out x hx 2 _ rfl;clear CO CL KO oD;simp [execOp,go_sem,e]) ?_
 simp only [Act.put,List.setIfInBounds_toArray,List.set_cons_succ,List.set_cons_zero]
 refine zah (i:=3) (oi:=⟨some 40,.move (.tmp 8),_,_,_,none⟩) (v:=num k) (zaj (by kernel_rfl)) rfl (by kernel_rfl) (by kernel_rfl) (by kernel_rfl) (fun _ _ _ h=>by cases h.1) (zaN rfl) ?_
 simp only [Act.put,List.setIfInBounds_toArray,List.set_cons_succ,List.set_cons_zero]
 refine zah (i:=4) (oi:=⟨some 41,.indexAddr 33 (.tmp 39) (.tmp 40),_,_,_,none⟩) (v:=.pointer (some ⟨b,off+k * 3,none⟩)) (zaj (by kernel_rfl)) rfl (by kernel_rfl) (by kernel_rfl) (by kernel_rfl) (fun _ _ _ h=>by cases h.1) (yC rfl (fun _=>rfl) fun x hx=>by clear CO CL KO oD;simp [execOp,go_sem,hlt]) ?_
 simp only [Act.put,List.setIfInBounds_toArray,List.set_cons_succ,List.set_cons_zero]
 refine zah (i:=5) (oi:=⟨some 42,.load 59 (.tmp 41),_,_,_,none⟩) (v:=.agg #[num x1,num x2,num x3]) (zaj (by kernel_rfl)) rfl (by kernel_rfl) (by kernel_rfl) (by kernel_rfl) (fun _ _ _ h=>by cases h.1) (yC rfl (fun _=>rfl) fun x hx=>by have e0:=E0.out x hx;have e1:=E1.out x hx;have e2:=E2.out x hx;clear CO CL KO oD;simp [execOp,go_sem,e0,e1,e2]) ?_
 simp only [Act.put,List.setIfInBounds_toArray,List.set_cons_succ,List.set_cons_zero]
 refine zah (i:=6) (oi:=⟨some 43,.move (.tmp 11),_,_,_,none⟩) (v:=num c) (zaj (by kernel_rfl)) rfl (by kernel_rfl) (by kernel_rfl) (by kernel_rfl) (fun _ _ _ h=>by cases h.1) (zaN rfl) ?_
 simp only [Act.put,List.setIfInBounds_toArray,List.set_cons_succ,List.set_cons_zero]
 refine zau (i:=7) (o:=⟨some 44,.call { callee:=.value (.func 75),args:=#[.tmp 37,.tmp 42,.tmp 43],argTypes:=#[31,59,3] },_,_,_,none⟩) (by kernel_rfl) rfl rfl (oD) ?_
 intro K hK
 go_simp
 refine CallsIn.mono (((KO.out _ (oD)).mono fun e w' ⟨p,q⟩=>(⟨p,Nx.trans (oD) q⟩:e=Ending.returned (.bool out)∧Nx Y w'))) ?_
 rintro e v7w ⟨rfl,y7⟩
 refine hK _ _ ?_
 refine zah (i:=8) (oi:=⟨some 12,.assign (.tmp 44),_,_,_,none⟩) (v:=.bool out) (zaj (by kernel_rfl)) rfl (by kernel_rfl) (by kernel_rfl) (by kernel_rfl) (fun _ _ _ h=>by cases h.1) (zdN rfl) ?_
 simp only [Act.put,List.setIfInBounds_toArray,List.set_cons_succ,List.set_cons_zero]
 refine zbk (by kernel_rfl) (y7) ?_
 exact⟨rfl,rfl,rfl,y7⟩
end Go.Proofs.YtolholkjeehamaaDoor

namespace Go.Proofs.YtolholkjeehamaaDoor
open Go.RowKit
def yah (d:Dit) (o:Int×Int×Int) (lo:Int):Nat→Bool
 | 0=>true
 | j+1=>yah d o lo j && d.out o.1 o.2.1 o.2.2 (lo+j)
def ybl (d:Dit) (o:Int×Int×Int) (lo:Int):Nat→Bool
 | 0=>true
 | j+1=>ybl d o lo j && !d.out o.1 o.2.1 o.2.2 (lo+j)
theorem yao {d:Dit} {o:Int×Int×Int} {lo:Int}:∀ {n:Nat},yah d o lo n=true↔∀ j:Nat,j<n→d.out o.1 o.2.1 o.2.2 (lo+j)=true
 | 0=>by simp [yah]
 | n+1=>by
  unfold yah
  rw [Bool.and_eq_true,yao]
  exact⟨fun ⟨h1,h2⟩ j hj=>by
   by_cases e:j=n
   ·rw [e];exact h2
   ·exact h1 j (by omega),fun h=>⟨fun j hj=>h j (by omega),h n (by omega)⟩⟩
theorem ya6 {d:Dit} {o:Int×Int×Int} {lo:Int}:∀ {n:Nat},ybl d o lo n=true↔∀ j:Nat,j<n→d.out o.1 o.2.1 o.2.2 (lo+j)=false
 | 0=>by simp [ybl]
 | n+1=>by
  unfold ybl
  rw [Bool.and_eq_true,ya6,Bool.not_eq_true']
  exact⟨fun ⟨h1,h2⟩ j hj=>by
   by_cases e:j=n
   ·rw [e];exact h2
   ·exact h1 j (by omega),fun h=>⟨fun j hj=>h j (by omega),h n (by omega)⟩⟩
theorem yco {d:Dit} {l:Lg} {o:Int×Int×Int} {b:Int} {n:Nat} (hl:l.lo≤l.hi) (hn:l.lo+n=l.hi+1) (hb:ycj d l o b):b=if ybl d o l.lo n=true then 2 else if yah d o l.lo n=true then 1 else 0:=by
 have hs:yah d o l.lo n=true↔b=1:=by
  rw [yao,hb.sure]
  exact⟨fun h c h1 h2=>by have:=h (c-l.lo).toNat (by omega);rwa [show l.lo+((c-l.lo).toNat:Int)=c by omega] at this,fun h j hj=>h _ (by omega) (by omega)⟩
 have hv:ybl d o l.lo n=true↔b=2:=by
  rw [ya6,hb.never]
  exact⟨fun h c h1 h2=>by have:=h (c-l.lo).toNat (by omega);rwa [show l.lo+((c-l.lo).toNat:Int)=c by omega] at this,fun h j hj=>h _ (by omega) (by omega)⟩
 simp only [hs,hv]
 rcases hb.one with rfl | rfl | rfl<;>rfl
theorem yap {w:World} {base:Nat} {v:Value} {l:List Int} (h:w.ownsRow base 62 1 v l.length (l.map num)):Sl w v 1 (l.map fun x=>[num x]):=by
 obtain⟨_,⟨rfl,hn⟩ | ⟨g,cap,cur,rfl,hb,hg,hn,hc,hcs,ht⟩⟩:=h
 ·exact⟨0,.inl ⟨by rw [List.length_eq_zero_iff.1 hn];rfl,rfl⟩⟩
 ·refine⟨cap,.inr ⟨g,0,by simp,(Array.getElem?_eq_some_iff.1 hg).1,fun j k z x hj hk=>?_⟩⟩
  rw [List.getElem?_map] at hj
  cases hx:l[j]? with
  | none=>rw [hx] at hj;cases hj
  | some y =>
   rw [hx] at hj
   simp only [Option.map_some,Option.some.injEq] at hj
   subst hj
   cases k with
   | zero =>
    simp at hk
    subst hk
    have h1:(cur.toList.take (l.length * 1))[j]?=some (num y):=by rw [ht,List.getElem?_map,hx];rfl
    rw [List.getElem?_take] at h1
    split at h1
    ·unfold World.cell?
     simp only [Nat.zero_add,Nat.mul_one,Nat.add_zero,hg]
     simpa using h1
    ·cases h1
   | succ k=>simp at hk
theorem ya7 {w w' : World} {base n:Nat} {v:Value} {xs:List Value} (h:w.ownsRow base 62 1 v n xs) (nx:Nx w w'):w'.ownsRow base 62 1 v n xs:=ybi h nx
theorem yax (d:Dit) (r:zaR) (l:Lg) (al:Option Addr) (cap:Nat) (w:World) (hd:DitSl w d r) (hs:d.Small) (hOk:logS d l=0→d.Ok) (hl:Sl w (.slice al l.ops.length cap) 3 (l.ops.map three)) (hls:l.ops.length≤1000000000) :
  CallsIn FL 0 Tryd.prog 36 #[d.val r,.agg #[num l.lo,num l.hi,.slice al l.ops.length cap]] w fun e w'=>∃ u,e=.returned (.tuple #[u,num (zc9 d l).2])∧Nx w w'∧Sl w' u 1 ((zc9 d l).1.map fun x=>[num x]):=by
 obtain⟨W,hW,n0,hWs,cW⟩:=boxed w d r
 generalize hY:W.alloc (.cells #[num l.lo,num l.hi,.slice al l.ops.length cap] 35)=Y
 have sY:Y.heap.size=w.heap.size+1+1:=by rw [← hY];simp [hWs]
 have nY:Nx W Y:=by rw [← hY];exact zaG (Below.refl _ _) _
 have nwY:Nx w Y:=Nx.trans n0 nY
 have CL:=Lib.hid (fun w1 (n1:Nx Y w1) i v (h:(#[num l.lo,num l.hi,.slice al l.ops.length cap]:Array Value)[i]?=some v)=>show w1.cell? ⟨w.heap.size+1,i,none⟩=some v from
  (n1.cell (p:=⟨w.heap.size+1,i,none⟩) (by show w.heap.size+1<_;omega)).trans (by rw [← hY,← hWs];exact zaw _ _ _ _ _ h))
 have CO:=Lib.hid (fun w1 (n1:Nx Y w1)=>cW w1 (Nx.trans nY n1))
 have HL:=Lib.hid (hl.nx nwY)
 have HD:=Lib.hid (hd.nx nwY)
 have k27:=yaa d r l (.slice al l.ops.length cap) Y (hd.nx nwY) hs (hl.nx nwY) hls
 obtain⟨c0,c1,c2,c3,c4,c5,c6,c7,c8,c9,c10,c11,c12,c13⟩:=zaS (CO.out Y (Below.refl _ _))
 have q0:=CL.out Y (Below.refl _ _) 0 _ rfl
 have q1:=CL.out Y (Below.refl _ _) 1 _ rfl
 have q2:=CL.out Y (Below.refl _ _) 2 _ rfl
 clear cW hl hd
 by_cases hlog:logS d l=0
 case neg =>
  have hj:zc9 d l=([],logS d l):=by unfold zc9;rw [if_pos hlog]
  rw [hj]
  have b1:(logS d l != 0)=true:=by simpa using hlog
  generalize logS d l=g at *
  gi_enter Tryd.func36,Tryd.ntmps36
  gi_wp2_with (first
   | (gi_at_call 27;refine CallsIn.mono k27 ?_;rintro e w2 ⟨rfl,n2⟩)
   | gi_in)
  go_ret2
  exact⟨_,rfl,Nx.trans nwY n2,⟨0,.inl ⟨rfl,rfl⟩⟩⟩
 case pos =>
 have hO:=hOk hlog
 obtain⟨hL,hclk⟩:=zoD hlog
 have hfew:=hL.few
 obtain⟨hj2,hjl,hji⟩:=yam hlog
 rw [hj2]
 rw [hlog] at k27
 generalize (zc9 d l).1=bs at *
 clear hj2 hOk hlog hs
 gi_enter Tryd.func36,Tryd.ntmps36
 gi_wp2_with (first
  | (gi_at_call 27;refine CallsIn.mono k27 ?_;rintro e w2 ⟨rfl,n2⟩)
  | gi_in)
 clear c0 c1 c2 c3 c4 c5 c6 c7 c8 c9 c10 c11 c12 c13 q0 q1 q2 k27
 gi_loopw [7,8] (fun vu i wr=>∃ k:Nat,k≤l.ops.length∧i=num k∧wr.ownsRow Y.heap.size 62 1 vu (bs.take k).length ((bs.take k).map num)∧Nx Y wr) (fun _ i _=>l.ops.length-(intOf i).toNat)
 case atStart=>exact⟨0,Nat.zero_le _,rfl,by simp;exact⟨rfl,.inl ⟨rfl,rfl⟩⟩,n2⟩
 case round =>
  obtain⟨k,hk,rfl,hown,n3⟩:=hrel
  have HOWN:=Lib.hid hown
  clear hown
  have q2:=CL.out wr n3 2 _ rfl
  by_cases hlt:k<l.ops.length
  ·have q0:=CL.out wr n3 0 _ rfl
   have q1:=CL.out wr n3 1 _ rfl
   obtain⟨b,off,ha,hbl,hcl⟩:=HL.out.get (by simp;omega)
   subst ha
   have hx:l.ops[k]?=some l.ops[k]:=List.getElem?_eq_getElem hlt
   generalize l.ops[k]=x at hx
   obtain⟨x1,x2,x3⟩:=x
   obtain⟨bv,hbk,hbo⟩:=hji k _ hx
   have E0:=Lib.hid (fun w2 (o:Nx Y w2)=>show w2.cell? ⟨b,off+k * 3,none⟩=some (num x1) from (o.cell (p:=⟨b,off+k * 3,none⟩) hbl).trans (hcl k 0 (three (x1,x2,x3)) (num x1) (by simp [hx]) rfl))
   have E1:=Lib.hid (fun w2 (o:Nx Y w2)=>show w2.cell? ⟨b,off+k * 3+1,none⟩=some (num x2) from (o.cell (p:=⟨b,off+k * 3+1,none⟩) hbl).trans (hcl k 1 (three (x1,x2,x3)) (num x2) (by simp [hx]) rfl))
   have E2:=Lib.hid (fun w2 (o:Nx Y w2)=>show w2.cell? ⟨b,off+k * 3+2,none⟩=some (num x3) from (o.cell (p:=⟨b,off+k * 3+2,none⟩) hbl).trans (hcl k 2 (three (x1,x2,x3)) (num x3) (by simp [hx]) rfl))
   have hop:=hL.op k _ hx
   dsimp only at hop
   have htk:bs.take (k+1)=bs.take k++[bv]:=by rw [List.take_add_one,hbk];rfl
   have htl:(bs.take k).length=k:=by rw [List.length_take];omega
   have htl' : (bs.take (k+1)).length=k+1:=by rw [List.length_take];omega
   have HBV:=Lib.hid (fun n hn=>yco (n:=n) hclk.2.1 hn hbo)
   have KO:=Lib.hid (fun (c:Int) (hc:l.lo≤c∧c≤l.hi) u (o:Nx Y u)=>yan d r x1 x2 x3 c u (HD.out.nx o) hO (by omega) (by omega) (by omega))
   have HAP:=Lib.hid (fun (wr5:World) (o:Nx wr wr5)=>by
    have ho:=ya7 HOWN.out o
    rw [htl] at ho
    exact ho)
   have HTK:=Lib.hid htk
   have HTL:=Lib.hid (And.intro htl htl')
   clear hx hcl hji hbk hbo htk htl htl'
   have nW:Nx wr wr:=Below.refl _ _
   generalize wr=W2 at *
   have HN3:=Lib.hid n3
   gi_wp2
   gi_loopw [9,10,11] (fun vs vn vc w3=>∃ j:Nat,l.lo+j≤l.hi+1∧vc=num (l.lo+j)∧vs=.bool (yah d (x1,x2,x3) l.lo j)∧vn=.bool (ybl d (x1,x2,x3) l.lo j)∧Nx W2 w3) (fun _ _ vc _=>(l.hi+1-intOf vc).toNat)
   case atStart=>exact⟨0,by omega,by simp,rfl,rfl,nW⟩
   case round =>
    obtain⟨j,hj,rfl,rfl,rfl,n5⟩:=hrel
    clear q0 q1 q2
    have q1:=CL.out wr (Nx.trans n3 n5) 1 _ rfl
    have HSJ:=Lib.hid (show yah d (x1,x2,x3) l.lo (j+1)=(yah d (x1,x2,x3) l.lo j && d.out x1 x2 x3 (l.lo+j)) from rfl)
    have HNJ:=Lib.hid (show ybl d (x1,x2,x3) l.lo (j+1)=(ybl d (x1,x2,x3) l.lo j && !d.out x1 x2 x3 (l.lo+j)) from rfl)
    have HB0:=Lib.hid (HBV.out j)
    by_cases hc:l.lo+(j:Int)≤l.hi
    ·have b1:decide (l.lo+(j:Int)≤l.hi)=true:=decide_eq_true hc
     have ko:=Lib.hid (KO.out (l.lo+j) (by omega))
     generalize yah d (x1,x2,x3) l.lo j=s at *
     generalize ybl d (x1,x2,x3) l.lo j=n at *
     generalize hout:d.out x1 x2 x3 (l.lo+(j:Int))=out at *
     clear hout
     gi_upto_region 12 with fail
     refine yac (c':=jud12) (by kernel_rfl) ?_
     refine wpIn_mono (yb9 d r l b off cap k x1 x2 x3 (l.lo+j) w.heap.size out wr wr hlt (Below.refl _ _) (Lib.hid fun w2 o=>CO.out w2 (Nx.trans (Nx.trans n3 n5) o)) (Lib.hid fun w2 o=>CL.out w2 (Nx.trans (Nx.trans n3 n5) o)) (Lib.hid fun w2 o=>E0.out w2 (Nx.trans (Nx.trans n3 n5) o)) (Lib.hid fun w2 o=>E1.out w2 (Nx.trans (Nx.trans n3 n5) o)) (Lib.hid fun w2 o=>E2.out w2 (Nx.trans (Nx.trans n3 n5) o)) (Lib.hid fun w2 o=>ko.out w2 (Nx.trans (Nx.trans n3 n5) o))) ?_
     rintro e a w5 ⟨rfl,hdf,hta,o5⟩
     obtain⟨ta,df⟩:=a
     dsimp only at hdf hta
     subst hta hdf
     clear q1
     cases s<;>cases n<;>cases out
     all_goals gi_wp2
     all_goals exact⟨⟨j+1,by omega,by simp;omega,by rw [HSJ.out]<;>rfl,by rw [HNJ.out]<;>rfl,Nx.trans n5 o5⟩,by simp [intOf];omega⟩
    ·have b1:decide (l.lo+(j:Int)≤l.hi)=false:=decide_eq_false hc
     have hjn:l.lo+(j:Int)=l.hi+1:=by omega
     have hbv:=HB0.out hjn
     generalize yah d (x1,x2,x3) l.lo j=s at *
     generalize ybl d (x1,x2,x3) l.lo j=n at *
     have HBW:=Lib.hid hbv
     clear hbv HB0 HSJ HNJ
     have key:∀ x:Int,bv=x→∃ v' W8,(Builtin.append_ #[55,55] 55 #[u7,.slice (some ⟨wr.heap.size,0,none⟩) 1 1]).run Tryd.prog (wr.alloc (.cells #[num x] 62))=.ok v' W8∧W8.ownsRow Y.heap.size 62 1 v' (bs.take (k+1)).length ((bs.take (k+1)).map num)∧Nx Y W8:=by
      intro x hx
      obtain⟨v',W8,happ,hown8,hg8⟩:=ziX Y.heap.size _ (bs.take k) x (wr.alloc (.cells #[num x] 62)) ((ya7 HOWN.out n5).alloc _) ⟨wr.heap.size,0,none⟩ 1 (zaA rfl rfl) (by have:=HTL.out.1;omega) (by have:=(Nx.trans n3 n5).size;simp;omega)
      refine⟨v',W8,happ,?_,(zaG (Nx.trans n3 n5) _).grown hg8 fun z hz=>(HOWN.out.lt z hz).1⟩
      rw [HTK.out,List.length_append,hx]
      exact hown8
     cases n with
     | true =>
      obtain⟨v',W8,happ,hown8,n8⟩:=key 2 (by simpa using HBW.out)
      have HO8:=Lib.hid hown8
      clear key hown8
      simp [go_sem] at happ
      cases s
      all_goals gi_wp2
      all_goals exact⟨⟨k+1,hlt,by simp,HO8.out,n8⟩,by simp [intOf];omega⟩
     | false =>
      cases s with
      | true =>
       obtain⟨v',W8,happ,hown8,n8⟩:=key 1 (by simpa using HBW.out)
       have HO8:=Lib.hid hown8
       clear key hown8
       simp [go_sem] at happ
       gi_wp2
       exact⟨⟨k+1,hlt,by simp,HO8.out,n8⟩,by simp [intOf];omega⟩
      | false =>
       obtain⟨v',W8,happ,hown8,n8⟩:=key 0 (by simpa using HBW.out)
       have HO8:=Lib.hid hown8
       clear key hown8
       simp [go_sem] at happ
       gi_wp2
       exact⟨⟨k+1,hlt,by simp,HO8.out,n8⟩,by simp [intOf];omega⟩
  ·obtain rfl:k=l.ops.length:=by omega
   gi_wp2
   go_ret2
   exact⟨_,rfl,Nx.trans nwY n3,by have h:=HOWN.out;rw [← hjl,List.take_length] at h;exact yap h⟩
end Go.Proofs.YtolholkjeehamaaDoor

namespace Go.Proofs.YtolholkjeehamaaDoor
open Go.RowKit Go.Con Go.Conc
local instance:Lone:=zcG
noncomputable def ycp:Code:=match Tryd.f34.body with | some c=>c | none=>.skip
noncomputable def nr1:Code:=seqL (seqR ycp)
end Go.Proofs.YtolholkjeehamaaDoor

namespace Go.Proofs.YtolholkjeehamaaDoor
open Go.RowKit
theorem yba {a b c:Int} (h1:yab a b=true) (h2:yab b c=true):yab a c=true:=by
 unfold yab at *
 have h1:=of_decide_eq_true h1
 have h2:=of_decide_eq_true h2
 exact decide_eq_true (by omega)
theorem yaq (a:Int):yab a a=false:=by
 unfold yab
 exact decide_eq_false (by omega)
theorem ybv {a b:Int} (h1:yab a b=false) (h2:yab b a=false):a=b:=by
 unfold yab zdp at *
 have h1:=of_decide_eq_false h1
 have h2:=of_decide_eq_false h2
 omega
structure BestTo (d:Dit) (l:Lg) (j:Nat) (n:Int):Prop where
 bd:l.lo≤n∧n<l.lo+j
 best:∀ c,l.lo≤c→c<l.lo+j→(outL d l c l.ops.length).length > (outL d l n l.ops.length).length∨(outL d l c l.ops.length).length=(outL d l n l.ops.length).length∧yab c n=false
theorem BestTo.one (d:Dit) (l:Lg):BestTo d l 1 l.lo:=⟨by omega,fun c h1 h2=>.inr (by
 obtain rfl:c=l.lo:=by omega
 exact⟨rfl,yaq _⟩)⟩
theorem BestTo.keep {d:Dit} {l:Lg} {j:Nat} {n:Int} (h:BestTo d l j n) (hq:(outL d l (l.lo+j) l.ops.length).length > (outL d l n l.ops.length).length∨(outL d l (l.lo+j) l.ops.length).length=(outL d l n l.ops.length).length∧yab (l.lo+j) n=false):BestTo d l (j+1) n :=
 ⟨by have:=h.bd;omega,fun c h1 h2=>by
  by_cases e:c=l.lo+j
  ·subst e;exact hq
  ·exact h.best c h1 (by omega)⟩
theorem BestTo.take {d:Dit} {l:Lg} {j:Nat} {n:Int} (h:BestTo d l j n) (hq:(outL d l (l.lo+j) l.ops.length).length<(outL d l n l.ops.length).length∨(outL d l (l.lo+j) l.ops.length).length=(outL d l n l.ops.length).length∧yab (l.lo+j) n=true):BestTo d l (j+1) (l.lo+j) :=
 ⟨by have:=h.bd;omega,fun c h1 h2=>by
  by_cases e:c=l.lo+j
  ·subst e;exact .inr ⟨rfl,yaq _⟩
  ·have hb:=h.best c h1 (by omega)
   rcases hq with hq | ⟨hq,hn⟩
   ·left;omega
   ·rcases hb with hb | ⟨hb,hm⟩
    ·left;omega
    ·refine .inr ⟨by omega,?_⟩
     cases hx:yab c (l.lo+j) with
     | false=>rfl
     | true=>rw [yba hx hn] at hm;cases hm⟩
theorem BestTo.ok {d:Dit} {l:Lg} {j:Nat} {n:Int} (h:BestTo d l j n) (hj:l.lo+(j:Int)=l.hi+1) (hlog:logS d l=0):yaf d l n (outL d l n l.ops.length):=by
 have hL:=(zoD hlog).1
 refine⟨by have:=h.bd;omega,rfl,?_,fun i o ho=>?_,fun c h1 h2=>h.best c h1 (by omega)⟩
 ·have:=zfU d l n l.ops.length
  have:=hL.few
  omega
 ·rw [ya5 (List.getElem?_eq_some_iff.1 ho).1]
  unfold ybf
  rw [ho]
theorem yay {d:Dit} {l:Lg} {n m:Int} {xs ys:List Int} (h1:yaf d l n xs) (h2:yaf d l m ys):n=m∧xs=ys:=by
 have a:=h1.best m h2.bd.1 h2.bd.2
 have b:=h2.best n h1.bd.1 h1.bd.2
 have e1:=congrArg List.length h1.eq
 have e2:=congrArg List.length h2.eq
 have e:n=m:=by
  rcases a with a | ⟨a,a2⟩<;>rcases b with b | ⟨b,b2⟩
  ·omega
  ·omega
  ·omega
  ·exact ybv b2 a2
 refine⟨e,?_⟩
 rw [h1.eq,h2.eq,e]
theorem ybb (a b:Int) (w:World) (ha : -1000≤a∧a≤1000) (hb : -1000≤b∧b≤1000) :
  CallsIn FL 0 Tryd.prog 34 #[num a,num b] w fun e w'=>e=.returned (.bool (yab a b))∧Nx w w':=by
 have h1:=ybh a w
 have h2:=ybh b w
 have hs1 : -1000≤zdp a∧zdp a≤1000:=by unfold zdp;omega
 have hs2 : -1000≤zdp b∧zdp b≤1000:=by unfold zdp;omega
 have HN:=Lib.hid (show yab a b=decide (zdp a<zdp b∨zdp a=zdp b∧a > b) from rfl)
 have nW:Nx w w:=Below.refl _ _
 generalize yab a b=nb at *
 gi_enter Tryd.func34,Tryd.ntmps34
 generalize zdp a=x at *
 generalize zdp b=y at *
 by_cases g1:x<y
 ·have e1:decide (x<y)=true:=decide_eq_true g1
  have hz:=Lib.hid (HN.out.trans (decide_eq_true (.inl g1)))
  gi_wp2
  go_ret
  exact⟨by rw [hz.out]<;>rfl,nW⟩
 ·have e1:decide (x<y)=false:=decide_eq_false g1
  by_cases g2:x=y
  ·have e2:(x == y)=true:=by simpa using g2
   by_cases g3:a > b
   ·have e3:decide (a > b)=true:=decide_eq_true g3
    have hz:=Lib.hid (HN.out.trans (decide_eq_true (.inr ⟨g2,g3⟩)))
    clear g2
    gi_wp2
    go_ret
    exact⟨by rw [hz.out]<;>rfl,nW⟩
   ·have e3:decide (a > b)=false:=decide_eq_false g3
    have hz:=Lib.hid (HN.out.trans (decide_eq_false (fun h=>h.elim g1 fun q=>g3 q.2)))
    clear g2
    gi_wp2
    go_ret
    exact⟨by rw [hz.out]<;>rfl,nW⟩
  ·have e2:(x == y)=false:=by simpa using g2
   have hz:=Lib.hid (HN.out.trans (decide_eq_false (fun h=>h.elim g1 fun q=>g2 q.1)))
   clear g2
   gi_wp2
   go_ret
   exact⟨by rw [hz.out]<;>rfl,nW⟩
theorem yaz (d:Dit) (r:zaR) (l:Lg) (al:Option Addr) (cap:Nat) (w:World) (hd:DitSl w d r) (hs:d.Small) (hOk:logS d l=0→d.Ok) (hl:Sl w (.slice al l.ops.length cap) 3 (l.ops.map three)) (hls:l.ops.length≤1000000000) :
  CallsIn FL 0 Tryd.prog 39 #[d.val r,.agg #[num l.lo,num l.hi,.slice al l.ops.length cap]] w fun e w'=>∃ (n:Int) (xs:List Int) (u:Value),e=.returned (.tuple #[num n,u,num (logS d l)])∧Nx w w'∧Sl w' u 1 (xs.map fun x=>[num x])∧(logS d l≠0→n=0∧xs=[])∧(logS d l=0→yaf d l n xs):=by
 obtain⟨W,hW,n0,hWs,cW⟩:=boxed w d r
 generalize hY:W.alloc (.cells #[num l.lo,num l.hi,.slice al l.ops.length cap] 35)=Y
 have sY:Y.heap.size=w.heap.size+1+1:=by rw [← hY];simp [hWs]
 have nY:Nx W Y:=by rw [← hY];exact zaG (Below.refl _ _) _
 have nwY:Nx w Y:=Nx.trans n0 nY
 have CL:=Lib.hid (fun w1 (n1:Nx Y w1) i v (h:(#[num l.lo,num l.hi,.slice al l.ops.length cap]:Array Value)[i]?=some v)=>show w1.cell? ⟨w.heap.size+1,i,none⟩=some v from
  (n1.cell (p:=⟨w.heap.size+1,i,none⟩) (by show w.heap.size+1<_;omega)).trans (by rw [← hY,← hWs];exact zaw _ _ _ _ _ h))
 have CO:=Lib.hid (fun w1 (n1:Nx Y w1)=>cW w1 (Nx.trans nY n1))
 have HL:=Lib.hid (hl.nx nwY)
 have HD:=Lib.hid (hd.nx nwY)
 have k27:=yaa d r l (.slice al l.ops.length cap) Y (hd.nx nwY) hs (hl.nx nwY) hls
 obtain⟨c0,c1,c2,c3,c4,c5,c6,c7,c8,c9,c10,c11,c12,c13⟩:=zaS (CO.out Y (Below.refl _ _))
 have q0:=CL.out Y (Below.refl _ _) 0 _ rfl
 have q1:=CL.out Y (Below.refl _ _) 1 _ rfl
 have q2:=CL.out Y (Below.refl _ _) 2 _ rfl
 clear cW hl hd
 by_cases hlog:logS d l=0
 case neg =>
  have b1:(logS d l != 0)=true:=by simpa using hlog
  have HNL:=Lib.hid hlog
  generalize logS d l=g at *
  clear hlog
  gi_enter Tryd.func39,Tryd.ntmps39
  gi_wp2_with (first
   | (gi_at_call 27;refine CallsIn.mono k27 ?_;rintro e w2 ⟨rfl,n2⟩)
   | gi_in)
  refine bodyPost_ret (v:=.tuple #[num 0,.slice none 0 0,num g]) (by simp [results,Tryd.results39,go_sem]) rfl ?_
  exact⟨0,[],_,rfl,Nx.trans nwY n2,⟨0,.inl ⟨rfl,rfl⟩⟩,fun _=>⟨rfl,rfl⟩,fun h=>absurd h HNL.out⟩
 case pos =>
 have hO:=hOk hlog
 obtain⟨hL,hclk⟩:=zoD hlog
 have hfew:=hL.few
 have HLOG:=Lib.hid hlog
 rw [hlog] at k27
 have KB:=Lib.hid (fun (c:Int) (hc:l.lo≤c∧c≤l.hi) u (o:Nx Y u)=>ybj d r l al cap c u (HD.out.nx o) hlog hO (HL.out.nx o) hc)
 have HFew:=Lib.hid (fun c:Int=>zfU d l c l.ops.length)
 clear hOk hs hlog
 have kb:=KB.out l.lo (by omega)
 gi_enter Tryd.func39,Tryd.ntmps39
 gi_wp2_with (first
  | (gi_at_call 27;refine CallsIn.mono k27 ?_;rintro e w2 ⟨rfl,n2⟩;clear c0 c1 c2 c3 c4 c5 c6 c7 c8 c9 c10 c11 c12 c13 q0 q1 q2 k27;have q0:=CL.out w2 n2 0 _ rfl;have q1:=CL.out w2 n2 1 _ rfl;have q2:=CL.out w2 n2 2 _ rfl;obtain⟨c0,c1,c2,c3,c4,c5,c6,c7,c8,c9,c10,c11,c12,c13⟩:=zaS (CO.out w2 n2);have kc:=kb w2 n2;clear kb)
  | (gi_at_call 33;refine CallsIn.mono kc ?_;rintro e w3 ⟨u,rfl,n3,hu⟩;obtain⟨ua,uc,hue⟩:=hu.cases;rw [List.length_map] at hue;subst hue;have HU:=Lib.hid hu;clear hu kc c0 c1 c2 c3 c4 c5 c6 c7 c8 c9 c10 c11 c12 c13 q0 q1 q2;have n23:=Nx.trans n2 n3;have q0:=CL.out w3 n23 0 _ rfl)
  | gi_in)
 clear q0
 gi_loopw [8,9,10] (fun vn vb vc wr=>∃ (j:Nat) (n:Int) (ba:Option Addr) (bc:Nat),l.lo+j≤l.hi+1∧vc=num (l.lo+j)∧vn=num n∧BestTo d l j n∧vb=.slice ba (outL d l n l.ops.length).length bc∧Sl wr (.slice ba (outL d l n l.ops.length).length bc) 1 ((outL d l n l.ops.length).map fun x=>[num x])∧Nx Y wr) (fun _ _ vc _=>(l.hi+1-intOf vc).toNat)
 case atStart=>exact⟨1,l.lo,ua,uc,by omega,rfl,rfl,.one d l,rfl,HU.out,n23⟩
 case round =>
  obtain⟨j,n,ba,bc,hj,rfl,rfl,hb,rfl,hbs,n5⟩:=hrel
  have HB:=Lib.hid hb
  have HBS:=Lib.hid hbs
  have hnb:=hb.bd
  clear hb hbs
  have q1:=CL.out wr n5 1 _ rfl
  by_cases hc:l.lo+(j:Int)≤l.hi
  ·have b1:decide (l.lo+(j:Int)≤l.hi)=true:=decide_eq_true hc
   have q0:=CL.out wr n5 0 _ rfl
   have q2:=CL.out wr n5 2 _ rfl
   obtain⟨c0,c1,c2,c3,c4,c5,c6,c7,c8,c9,c10,c11,c12,c13⟩:=zaS (CO.out wr n5)
   have kc:=KB.out (l.lo+j) (by omega) wr n5
   have f1:=HFew.out (l.lo+j)
   have f2:=HFew.out n
   have HK:=Lib.hid (HB.out.keep)
   have HT:=Lib.hid (HB.out.take)
   have kn:=Lib.hid (fun u=>ybb (l.lo+j) n u (by omega) (by omega))
   generalize hm1:(outL d l (l.lo+j) l.ops.length).length=m1 at *
   generalize hm2:(outL d l n l.ops.length).length=m2 at *
   have HM1:=Lib.hid hm1
   have HM2:=Lib.hid hm2
   clear hm1 hm2
   generalize yab (l.lo+j) n=nb at *
   by_cases g1:m1<m2
   ·have e1:decide ((m1:Int)<(m2:Int))=true:=decide_eq_true (by omega)
    gi_wp2_with (first
     | (gi_at_call 33;refine CallsIn.mono kc ?_;rintro e w3 ⟨u,rfl,n6,hu⟩;obtain⟨ua,uc,hue⟩:=hu.cases;rw [List.length_map,HM1.out] at hue;subst hue;have HU:=Lib.hid hu;clear hu kc c0 c1 c2 c3 c4 c5 c6 c7 c8 c9 c10 c11 c12 c13 q0 q1 q2)
     | gi_in)
    any_goals (exact absurd ‹some zu=some (Value.bool _)› (by unfold zu;simp))
    exact⟨⟨j+1,l.lo+j,ua,uc,by omega,by simp;omega,rfl,HT.out (.inl g1),by rw [HM1.out],by rw [HM1.out];exact HU.out,Nx.trans n5 n6⟩,by simp [intOf];omega⟩
   ·have e1:decide ((m1:Int)<(m2:Int))=false:=decide_eq_false (by omega)
    by_cases g2:m1=m2
    ·subst g2
     have e2:((m1:Int) == (m1:Int))=true:=by simp
     cases nb with
     | true =>
      gi_wp2_with (first
       | (gi_at_call 33;refine CallsIn.mono kc ?_;rintro e w3 ⟨u,rfl,n6,hu⟩;obtain⟨ua,uc,hue⟩:=hu.cases;rw [List.length_map,HM1.out] at hue;subst hue;have HU:=Lib.hid hu;clear hu kc c0 c1 c2 c3 c4 c5 c6 c7 c8 c9 c10 c11 c12 c13 q0 q1 q2;have kd:=kn.out w3)
       | (gi_at_call 34;refine CallsIn.mono kd ?_;rintro e w4 ⟨rfl,n7⟩)
       | gi_in)
      exact⟨⟨j+1,l.lo+j,ua,uc,by omega,by simp;omega,rfl,HT.out (.inr (by simp)),by rw [HM1.out],by rw [HM1.out];exact HU.out.nx n7,Nx.trans n5 (Nx.trans n6 n7)⟩,by simp [intOf];omega⟩
     | false =>
      gi_wp2_with (first
       | (gi_at_call 33;refine CallsIn.mono kc ?_;rintro e w3 ⟨u,rfl,n6,hu⟩;obtain⟨ua,uc,hue⟩:=hu.cases;rw [List.length_map,HM1.out] at hue;subst hue;have HU:=Lib.hid hu;clear hu kc c0 c1 c2 c3 c4 c5 c6 c7 c8 c9 c10 c11 c12 c13 q0 q1 q2;have kd:=kn.out w3)
       | (gi_at_call 34;refine CallsIn.mono kd ?_;rintro e w4 ⟨rfl,n7⟩)
       | gi_in)
      exact⟨⟨j+1,n,ba,bc,by omega,by simp;omega,rfl,HK.out (.inr (by simp)),by rw [HM2.out],by rw [HM2.out];exact HBS.out.nx (Nx.trans n6 n7),Nx.trans n5 (Nx.trans n6 n7)⟩,by simp [intOf];omega⟩
    ·have e2:((m1:Int) == (m2:Int))=false:=by simp;omega
     gi_wp2_with (first
      | (gi_at_call 33;refine CallsIn.mono kc ?_;rintro e w3 ⟨u,rfl,n6,hu⟩;obtain⟨ua,uc,hue⟩:=hu.cases;rw [List.length_map,HM1.out] at hue;subst hue;have HU:=Lib.hid hu;clear hu kc c0 c1 c2 c3 c4 c5 c6 c7 c8 c9 c10 c11 c12 c13 q0 q1 q2)
      | gi_in)
     exact⟨⟨j+1,n,ba,bc,by omega,by simp;omega,rfl,HK.out (.inl (by omega)),by rw [HM2.out],by rw [HM2.out];exact HBS.out.nx n6,Nx.trans n5 n6⟩,by simp [intOf];omega⟩
  ·have b1:decide (l.lo+(j:Int)≤l.hi)=false:=decide_eq_false hc
   have HBO:=Lib.hid (HB.out.ok (by omega) HLOG.out)
   gi_wp2
   refine bodyPost_ret (v:=.tuple #[num n,.slice ba (outL d l n l.ops.length).length bc,num 0]) (by simp [results,Tryd.results39,go_sem]) rfl ?_
   exact⟨n,_,_,by rw [HLOG.out],Nx.trans nwY n5,HBS.out,fun h=>absurd HLOG.out h,fun _=>HBO.out⟩
end Go.Proofs.YtolholkjeehamaaDoor

namespace Go.Proofs.YtolholkjeehamaaDoor
open Go.RowKit Go.Con Go.Conc
local instance:Lone:=zcG
noncomputable def yad:Code:=match Tryd.f32.body with | some c=>c | none=>.skip
noncomputable def sm0:Code:=seqL yad
noncomputable def sm1:Code:=seqL (seqR yad)
noncomputable def sm3:Code:=seqL (seqR (seqR yad))
noncomputable def sm8:Code:=seqL (seqR (seqR (seqR yad)))
theorem ybm:yad=.seq sm0 (.seq sm1 (.seq sm3 (.seq sm8 .ret))):=by kernel_rfl
theorem ybn:Tryd.f32.body=some yad:=by kernel_rfl
theorem ycy (v1 v2:Value):#[v1,v2]++Array.replicate (Tryd.f32.ntmps-(#[v1,v2]:Array Value).size) zu=#[v1,v2,zu,zu,zu,zu,zu,zu,zu,zu,zu,zu,zu,zu,zu,zu,zu,zu,zu,zu,zu,zu,zu,zu,zu,zu]:=by
 simp only [Tryd.ntmps32,List.size_toArray,List.length_cons,List.length_nil,Nat.reduceAdd,Nat.reduceSub,Array.replicate_succ,Array.replicate_zero,List.push_toArray,List.append_toArray,List.nil_append,List.cons_append]
theorem ybo (v:Value) (t:Array Value) (h:t[4]?=some v) (σ:Rn):ResultsC Tryd.prog Tryd.f32 (t.map (ren σ)) (ren σ v):=by
 have:=resultsC_tmp (P:=Tryd.prog) (fn:=Tryd.f32) (t:=4) rfl (t.map (ren σ))
 simp only [Array.getD_eq_getD_getElem?,Array.getElem?_map,h,Option.map_some,Option.getD_some] at this
 exact this
theorem ybc (a b:Option Addr) (ca cb:Nat) (l:List Int) (W:World) (hu:Sl W (.slice a l.length ca) 1 (l.map fun x=>[num x])) (hv:Sl W (.slice b l.length cb) 1 (l.map fun x=>[num x])) (hl:l.length≤1000000) :
  zo0 Tryd.prog FL [sm0,sm1,sm3,sm8] (fun t W1=>Old W W1∧t[4]?=some (.bool true)) #[.slice a l.length ca,.slice b l.length cb,zu,zu,zu,zu,zu,zu,zu,zu,zu,zu,zu,zu,zu,zu,zu,zu,zu,zu,zu,zu,zu,zu,zu,zu] W:=by
 have HU:=Lib.hid hu
 have HV:=Lib.hid hv
 clear hu hv
 have b0:((l.length:Int) != (l.length:Int))=false:=by simp
 intro τ
 generalize hq:({ W with tape:=τ }:World)=u0
 have o0:Old W u0:=by rw [← hq];exact .same rfl
 clear hq
 simp only [sm0,yad,seqL,seqR,Tryd.f32]
 gi_wp2
 intro τ1
 generalize hq:({ u0 with tape:=τ1 }:World)=u1
 have o1:Old W u1:=o0.trans (by rw [← hq];exact .same rfl)
 clear hq
 simp only [sm1,yad,seqL,seqR,Tryd.f32]
 gi_wp2
 intro τ3
 generalize hq:({ u1 with tape:=τ3 }:World)=u3
 have o3:Old W u3:=o1.trans (by rw [← hq];exact .same rfl)
 clear hq b0
 simp only [sm3,yad,seqL,seqR,Tryd.f32]
 gi_wp2
 gi_loopw [5] (fun i wr=>∃ k:Nat,k≤l.length∧i=num k∧Old W wr) (fun i _=>l.length-(intOf i).toNat)
 case atStart=>exact⟨0,Nat.zero_le _,rfl,o3⟩
 case round =>
  obtain⟨k,hk,rfl,nr⟩:=hrel
  by_cases hlt:k<l.length
  ·obtain⟨b1,off,ha,hbl,hcl⟩:=(HU.out.old nr).get (by simp;omega)
   subst ha
   have hx:l[k]?=some l[k]:=List.getElem?_eq_getElem hlt
   generalize l[k]=x at hx
   have g1:=Sl.one hcl hx
   obtain⟨b2,off',ha',hbl',hcl'⟩:=(HV.out.old nr).get (by simp;omega)
   subst ha'
   have g2:=Sl.one hcl' hx
   have b3:(x != x)=false:=by simp
   clear hcl hcl' hx
   gi_upto_region 6 with fail
   gi_big_quiet_th (fail)
   gi_wp2
   exact⟨⟨k+1,hlt,by simp,nr.trans (.nx (Nx.drewN (Below.refl _ _) _))⟩,by simp [intOf];omega⟩
  ·obtain rfl:k=l.length:=by omega
   gi_wp2
   intro τ8
   generalize hq:({ wr with tape:=τ8 }:World)=u8
   have o8:Old W u8:=nr.trans (by rw [← hq];exact .same rfl)
   clear hq
   simp only [sm8,yad,seqL,seqR,Tryd.f32]
   gi_wp2
   exact⟨o8,rfl⟩
theorem ybw (E Fz Arg:Nat→Prop) (W0:World) (Q:(Nat→Prop)→(Nat→Prop)→Goroutine→World→Prop) (φ:Ph) (c0:Frame) (cs:List Frame) (W:World) (a b:Option Addr) (ca cb:Nat) (l:List Int) (hu:Sl W (.slice a l.length ca) 1 (l.map fun x=>[num x])) (hv:Sl W (.slice b l.length cb) 1 (l.map fun x=>[num x])) (hl:l.length≤1000000)
  (hcont:∀ W1:World,Old W W1→GoM Tryd.prog true E Fz Arg W0 Q φ [] (c0.finish (.bool true)) cs W1) :
  GoM Tryd.prog true E Fz Arg W0 Q φ [] (Fr 32 #[.slice a l.length ca,.slice b l.length cb,zu,zu,zu,zu,zu,zu,zu,zu,zu,zu,zu,zu,zu,zu,zu,zu,zu,zu,zu,zu,zu,zu,zu,zu] [.code yad]) (c0 :: cs) W:=by
 have hL:=ybc a b ca cb l W hu hv hl
 have hok:∀ f,FL.fn f→zaL Tryd.prog (.func f)=true→okFn Tryd.prog true f:=fun f hf _=>zhG (List.all_eq_true.1 zpF f hf)
 rw [ybm]
 refine Gm.seq ?_
 refine Gm.lone (F:=FL) _ rfl rfl rfl (by simp [Fence.list]) hok (by kernel_rfl) (by kernel_rfl) hL ?_
 clear hL
 intro t1 V1 hL
 refine Gm.seq ?_
 refine Gm.lone (F:=FL) _ rfl rfl rfl (by simp [Fence.list]) hok (by kernel_rfl) (by kernel_rfl) hL ?_
 clear hL
 intro t2 V2 hL
 refine Gm.seq ?_
 refine Gm.lone (F:=FL) _ rfl rfl rfl (by simp [Fence.list]) hok (by kernel_rfl) (by kernel_rfl) hL ?_
 clear hL
 intro t3 V3 hL
 refine Gm.seq ?_
 refine Gm.lone (F:=FL) _ rfl rfl rfl (by simp [Fence.list]) hok (by kernel_rfl) (by kernel_rfl) hL ?_
 clear hL
 rintro t4 V4 ⟨o4,h4⟩
 exact Gm.ret Tryd.func32 (ybo _ _ h4) (hcont V4 o4)
end Go.Proofs.YtolholkjeehamaaDoor

namespace Go.Proofs.YtolholkjeehamaaDoor
open Go.RowKit Go.Con Go.Conc
local instance:Lone:=zcG
noncomputable def yai:Code:=match Tryd.f9.body with | some c=>c | none=>.skip
noncomputable def lg0:Code:=seqL yai
noncomputable def yca:Code:=seqR yai
noncomputable def lg1:Code:=seqL (seqL yca)
noncomputable def lg2:Code:=match seqR (seqL yca) with | .cond _ x _=>seqL x | c=>c
noncomputable def yce:Code:=seqR yca
noncomputable def lg3:Code:=seqL yce
noncomputable def ycf:Code:=seqR yce
noncomputable def lg4:Code:=seqL ycf
noncomputable def ycg:Code:=seqR ycf
noncomputable def lg5:Code:=seqL ycg
noncomputable def ych:Code:=seqR ycg
noncomputable def lg7:Code:=seqL ych
noncomputable def yci:Code:=seqR ych
noncomputable def lg8:Code:=seqL yci
noncomputable def ycq:Code:=seqR yci
noncomputable def lg9:Code:=seqL ycq
theorem ybx:yai=.seq lg0 (.seq (.seq lg1 (.cond (.tmp 15) (.seq lg2 .ret) .skip)) (.seq lg3 (.seq lg4 (.seq lg5 (.seq lg7 (.seq lg8 (.seq lg9 .ret))))))):=by kernel_rfl
theorem yby:Tryd.f9.body=some yai:=by kernel_rfl
noncomputable def oplg2:Array Oper:=opsOf lg2
theorem ycr:lg2=.region 2 oplg2 false:=by kernel_rfl
noncomputable def oplg9:Array Oper:=opsOf lg9
theorem ycs:lg9=.region 9 oplg9 false:=by kernel_rfl
def LgA (d:Dit) (r:zaR) (l:Lg) (al:Option Addr) (cap:Nat) (W:World) (t:Array Value) (W2:World):Prop :=
 Old W W2∧∃ (B:Nat) (v13 v14 v15:Value),t=#[d.val r,.agg #[num l.lo,num l.hi,.slice al l.ops.length cap],.pointer (some ⟨B,0,none⟩),.pointer (some ⟨B+1,0,none⟩),.bool false,zu,zu,zu,zu,zu,zu,zu,zu,v13,v14,v15,zu,zu,zu,zu,zu,zu,zu,zu,zu,zu,zu,zu,zu,zu,zu,zu,zu,zu,zu,zu,zu,zu,zu,zu,zu,zu,zu,zu,zu,zu,zu,zu,zu,zu,zu,zu,zu,zu,zu,zu,zu,zu,zu,zu,zu,zu,zu,zu,zu,zu,zu,zu,zu,zu,zu,zu,zu,zu,zu,zu,zu]∧B+1<W2.heap.size∧(∀ i v,(d.cellsA r)[i]?=some v→W2.cell? ⟨B,i,none⟩=some v)∧(∀ i v,(#[num l.lo,num l.hi,.slice al l.ops.length cap]:Array Value)[i]?=some v→W2.cell? ⟨B+1,i,none⟩=some v)
theorem ybp (d:Dit) (r:zaR) (l:Lg) (al:Option Addr) (cap:Nat) (W:World) (hd:DitSl W d r) (hb:d.Big) (hg:Glob W) (hl:Sl W (.slice al l.ops.length cap) 3 (l.ops.map three)) (hlb:l.ops.length≤281474976710656) :
  zo0 Tryd.prog (FG 9) [lg0,lg1] (fun t W1=>Old W W1∧t.size=77∧(t[15]?=some (.bool true)∨(t[15]?=some (.bool false)∧(d.Small∧l.ops.length≤40)∧LgA d r l al cap W t W1)))
   #[d.val r,.agg #[num l.lo,num l.hi,.slice al l.ops.length cap],zu,zu,zu,zu,zu,zu,zu,zu,zu,zu,zu,zu,zu,zu,zu,zu,zu,zu,zu,zu,zu,zu,zu,zu,zu,zu,zu,zu,zu,zu,zu,zu,zu,zu,zu,zu,zu,zu,zu,zu,zu,zu,zu,zu,zu,zu,zu,zu,zu,zu,zu,zu,zu,zu,zu,zu,zu,zu,zu,zu,zu,zu,zu,zu,zu,zu,zu,zu,zu,zu,zu,zu,zu,zu,zu] W:=by
 intro τ
 generalize hw0:({ W with tape:=τ }:World)=w0
 have hO0:Old W w0:=by rw [← hw0];exact .same rfl
 clear hw0
 generalize hY:(w0.alloc (.cells (d.cellsA r) 31)).alloc (.cells #[num l.lo,num l.hi,.slice al l.ops.length cap] 35)=Y
 obtain⟨oY,sY,g1,g2⟩:=ycw hY
 have hcd:d.cellsA r=#[r.h,r.t,num d.begin_,num d.week,num d.from_,num d.long,r.f,r.s,r.l,num d.flow.1,num d.flow.2,num d.loss.1,num d.loss.2,r.p]:=rfl
 rw [hcd] at hY
 simp only [lg0,yai,seqL,seqR,Tryd.f9]
 gi_wp2
 clear hcd hY
 intro τ1
 generalize hw1:({ Y with tape:=τ1 }:World)=w1
 have h1:w1.heap=Y.heap:=by rw [← hw1]
 clear hw1
 have hOw:Old W w1:=hO0.trans (oY.trans (.same h1))
 have cell0:∀ (b:Nat) (cs:Array Value) (T:TypeId),Y.heap[b]?=some (.cells cs T (0,0))→∀ w2,Old w1 w2→∀ i v,cs[i]?=some v→w2.cell? ⟨b,i,none⟩=some v:=fun b cs T hb w2 o i v hv=>by
  have hl:=(Array.getElem?_eq_some_iff.1 hb).1
  rw [o.cell ⟨b,i,none⟩ (by rw [h1];exact hl)]
  unfold World.cell?
  dsimp only
  rw [h1,hb]
  exact hv
 have CO:=Lib.hid (cell0 _ _ _ g1)
 have CL:=Lib.hid (cell0 _ _ _ g2)
 have hBl:w0.heap.size+2≤w1.heap.size:=by rw [h1];omega
 clear cell0 g1 g2 sY oY h1
 have HD:=Lib.hid hd
 have HG:=Lib.hid hg
 have HL:=Lib.hid hl
 have k19:=toFG 9 (m:=0) (zlS d r l.lo l.hi (.slice al l.ops.length cap) (l.ops.map three) w1 (hd.old hOw) hb (hl.old hOw) (by rw [List.length_map];exact hlb))
 rw [List.length_map] at k19
 clear hd hg hl hlb
 obtain⟨c0,c1,c2,c3,c4,c5,c6,c7,c8,c9,c10,c11,c12,c13⟩:=zaS (CO.out w1 (Old.refl _))
 have q0:=CL.out w1 (Old.refl _) 0 _ rfl
 have q1:=CL.out w1 (Old.refl _) 1 _ rfl
 have q2:=CL.out w1 (Old.refl _) 2 _ rfl
 simp only [lg1,ycq,yci,ych,ycg,ycf,yce,yca,yai,seqL,seqR,Tryd.f9]
 cases hgr:zbG d l.ops.length with
 | true =>
  rw [hgr] at k19
  gi_wp2_with (first
   | (gi_at_call 19;refine CallsIn.mono k19 ?_;rintro e w2 ⟨rfl,x2⟩)
   | gi_in)
  first | exact⟨hOw.trans (.nx x2),rfl,.inl rfl⟩ | exact⟨hOw.trans (.nx x2),rfl,rfl⟩
 | false =>
 rw [hgr] at k19
 have hs:=zgU hgr
 have hls:l.ops.length≤40:=by
  unfold zbG at hgr
  simp only [Bool.or_eq_false_iff,decide_eq_false_iff_not] at hgr
  omega
 have HR:=Lib.hid (And.intro hs hls)
 clear hgr hs hls
 gi_wp2_with (first
  | (gi_at_call 19;refine CallsIn.mono k19 ?_;rintro e w2 ⟨rfl,x2⟩;clear c0 c1 c2 c3 c4 c5 c6 c7 c8 c9 c10 c11 c12 c13;clear q0 q1 q2)
  | gi_in)
 have oB2:Old w1 w2:=.nx x2
 exact⟨hOw.trans oB2,rfl,.inr ⟨rfl,HR.out,hOw.trans oB2,w0.heap.size,_,_,_,rfl,by have:=oB2.size;omega,CO.out w2 oB2,CL.out w2 oB2⟩⟩
end Go.Proofs.YtolholkjeehamaaDoor

namespace Go.Proofs.YtolholkjeehamaaDoor
open Go.RowKit
theorem ybq (u v:Value) (l m:List Int) (w:World) (hu:Sl w u 1 (l.map fun x=>[num x])) (hv:Sl w v 1 (m.map fun x=>[num x])) (hl:l.length≤1000000) (hm:m.length≤1000000) :
  CallsIn FL 0 Tryd.prog 37 #[u,v] w fun e w'=>e=.returned (.bool (decide (l=m)))∧Nx w w':=by
 obtain⟨a,cap,rfl⟩:=hu.cases
 obtain⟨a',cap',rfl⟩:=hv.cases
 rw [List.length_map] at hu hv ⊢
 rw [List.length_map]
 have n0:Nx w w:=Below.refl _ _
 by_cases hlm:l.length=m.length
 rotate_left
 ·have hb:((l.length:Int) != (m.length:Int))=true:=by simp;omega
  have H:Hid (l≠m):=fun h=>hlm (by rw [h])
  clear hlm hu hv
  gi_enter Tryd.func37,Tryd.ntmps37
  gi_wp2
  go_ret
  exact⟨by rw [decide_eq_false H.out];rfl,n0⟩
 have hb:((l.length:Int) != (m.length:Int))=false:=by simp [hlm]
 have HL:=Lib.hid hlm
 gi_enter Tryd.func37,Tryd.ntmps37
 clear hlm
 gi_wp2
 gi_loopw [5] (fun i wr=>∃ k:Nat,k≤l.length∧i=num k∧(l=m↔l.drop k=m.drop k)∧Nx w wr) (fun i _=>l.length-(intOf i).toNat)
 case atStart=>exact⟨0,Nat.zero_le _,rfl,Iff.rfl,n0⟩
 case round =>
  obtain⟨k,hk,rfl,he,nr⟩:=hrel
  have hlm:l.length=m.length:=HL.out
  by_cases hlt:k<l.length
  ·obtain⟨b,off,ha,hbl,hcl⟩:=(hu.nx nr).get (by simp;omega)
   subst ha
   have hx:l[k]?=some l[k]:=List.getElem?_eq_getElem hlt
   have hdl:=List.drop_eq_getElem_cons hlt
   generalize hxk:l[k]=x at hx hdl
   have g1:=Sl.one hcl hx
   have hlt2:k<m.length:=by omega
   obtain⟨b',off',ha',hbl',hcl'⟩:=(hv.nx nr).get (by simp;omega)
   subst ha'
   have hy:m[k]?=some m[k]:=List.getElem?_eq_getElem hlt2
   have hdm:=List.drop_eq_getElem_cons hlt2
   generalize hyk:m[k]=y at hy hdm
   have g2:=Sl.one hcl' hy
   rw [hdl,hdm,List.cons.injEq] at he
   have HE:=Lib.hid he
   have b1:k<l.length:=hlt
   have b2:k<m.length:=hlt2
   clear hcl hcl' hu hv he hdl hdm hx hy hxk hyk hlm
   by_cases hxy:x=y
   ·have hb2:(x != y)=false:=by simp [hxy]
    have HE2:Hid (l=m↔l.drop (k+1)=m.drop (k+1)):=by
     show _↔_
     rw [show (l=m↔_) from HE.out]
     simp [hxy]
    clear hxy HE
    gi_upto_region 6 with fail
    gi_big_quiet_th (fail)
    gi_wp2
    exact⟨⟨k+1,hlt,by simp,HE2.out,Nx.drewN nr _⟩,by simp [intOf];omega⟩
   ·have hb2:(x != y)=true:=by simpa using hxy
    have HE2:Hid (l≠m):=by
     show _≠_
     intro h
     exact hxy (HE.out.1 h).1
    clear hxy HE
    gi_upto_region 6 with fail
    gi_big_quiet_th (fail)
    gi_wp2
    go_ret
    exact⟨by rw [decide_eq_false HE2.out];rfl,Nx.drewN nr _⟩
  ·obtain rfl:k=l.length:=by omega
   have HE:Hid (l=m):=by
    show _=_
    rw [he,List.drop_length,hlm,List.drop_length]
   clear hu hv he hlm
   gi_wp2
   go_ret
   exact⟨by rw [decide_eq_true HE.out];rfl,nr⟩
theorem yaj (d:Dit) (r:zaR) (l:Lg) (al:Option Addr) (cap:Nat) (w:World) (hd:DitSl w d r) (hs:d.Small) (hg:Glob w) (hl:Sl w (.slice al l.ops.length cap) 3 (l.ops.map three)) (hls:l.ops.length≤1000000000) :
  CallsIn FL 0 Tryd.prog 38 #[d.val r,.agg #[num l.lo,num l.hi,.slice al l.ops.length cap]] w fun e w'=>e=.returned (num (logS d l))∧Nx w w':=by
 obtain⟨W,hW,n0,hWs,cW⟩:=boxed w d r
 generalize hY:W.alloc (.cells #[num l.lo,num l.hi,.slice al l.ops.length cap] 35)=Y
 have sY:Y.heap.size=w.heap.size+1+1:=by rw [← hY];simp [hWs]
 have nY:Nx W Y:=by rw [← hY];exact zaG (Below.refl _ _) _
 have nwY:Nx w Y:=Nx.trans n0 nY
 have cL:∀ i v,(#[num l.lo,num l.hi,.slice al l.ops.length cap]:Array Value)[i]?=some v→Y.cell? ⟨w.heap.size+1,i,none⟩=some v:=fun i v h=>by rw [← hY,← hWs];exact zaw _ _ _ _ _ h
 obtain⟨c0,c1,c2,c3,c4,c5,c6,c7,c8,c9,c10,c11,c12,c13⟩:=zaS (cW _ nY)
 have q0:=cL 0 _ rfl
 have q1:=cL 1 _ rfl
 have q2:=cL 2 _ rfl
 have kk:CallsIn FL 0 Tryd.prog 72 _ Y fun e w'=>∃ v,e=.returned (.tuple #[.pointer v,num (logS d l)])∧Nx Y w':=(zm2 d r l (.slice al l.ops.length cap) Y (hd.nx nwY) hs (hg.nx nwY) (hl.nx nwY) hls).mono fun e w' ⟨v,h1,h2,_⟩=>⟨v,h1,h2⟩
 clear cL cW hd hg hl
 generalize logS d l=g at *
 gi_enter Tryd.func38,Tryd.ntmps38
 gi_wp2_with (first
  | (gi_at_call 72;refine CallsIn.mono kk ?_;rintro e w2 ⟨v,rfl,n2⟩)
  | gi_in)
 go_ret
 exact⟨rfl,Nx.trans nwY n2⟩
end Go.Proofs.YtolholkjeehamaaDoor

namespace Go.Proofs.YtolholkjeehamaaDoor
open Go.RowKit Go.Con Go.Conc
local instance:Lone:=zcG
noncomputable def yb3:Code:=match Tryd.f10.body with | some c=>c | none=>.skip
noncomputable def o0:Code:=seqL yb3
noncomputable def op1:Code:=seqR yb3
noncomputable def o1:Code:=seqL (seqL op1)
noncomputable def o2:Code:=match seqR (seqL op1) with | .cond _ x _=>seqL x | c=>c
noncomputable def op2:Code:=seqR op1
noncomputable def o3:Code:=seqL op2
noncomputable def op3:Code:=seqR op2
noncomputable def o4:Code:=seqL op3
noncomputable def op4:Code:=seqR op3
noncomputable def o5:Code:=seqL op4
noncomputable def op5:Code:=seqR op4
noncomputable def op6:Code:=seqR op5
noncomputable def o8:Code:=seqL op6
section
variable {F:Fence} {n:Nat} {ops:Array Oper} {C:World→Prop} {a:Act} {dst:Option Nat} {ty:TypeId} {pos:String} {af:Array Edge}
theorem yar {s i:Nat} {x:Int} (h:a.eval (.tmp s)=num x) (hi:a.eval (.tmp i)=num x):YieldsC F n Tryd.prog ops C ⟨dst,.binOp .neq 37 (.tmp s) (.tmp i) 37,ty,pos,af,none⟩ (.bool false) a :=
 yC rfl (fun _=>rfl) fun w _=>by
  generalize a.eval=ρ at h hi ⊢
  simp [execOp,go_sem,h,hi]
theorem ya8 {c s:Nat} {v:Value} (h:a.eval (.tmp c)=.bool false) (h2:a.eval (.tmp s)=v):YieldsC F n Tryd.prog ops C ⟨dst,.pick (.tmp c) (.const (.bool true)) (.tmp s),ty,pos,af,none⟩ v a :=
 yC rfl (fun _=>rfl) fun w _=>by
  generalize a.eval=ρ at h h2 ⊢
  simp [execOp,go_sem,h,h2]
end
end Go.Proofs.YtolholkjeehamaaDoor

namespace Go.Proofs.YtolholkjeehamaaDoor
open Go.RowKit Go.Con Go.Conc
local instance:Lone:=zcG
noncomputable def lg5r:Code:=seqL lg5
noncomputable def yct:Array Oper:=match lg5r with | .region _ ops _=>ops | _=>#[]
theorem ybz:lg5r=.region 5 yct true:=by kernel_rfl
theorem ycb {v0 v1 v4 v9 v10 v11 v12 v13 v14 v15 v16 v17 v18 v19 v20 v21 v22 v23 v24 v25 v26 v27 v28:Value} (d:Dit) (r:zaR) (l:Lg) (al ba ga:Option Addr) (cap n bc gc:Nat) (jf g:Int) (B:Nat) (Wb wr:World) (oR:Old Wb wr)
  (CO:Hid (∀ w2,Old Wb w2→∀ i v,(d.cellsA r)[i]?=some v→w2.cell? ⟨B,i,none⟩=some v)) (CL:Hid (∀ w2,Old Wb w2→∀ i v,(#[num l.lo,num l.hi,.slice al l.ops.length cap]:Array Value)[i]?=some v→w2.cell? ⟨B+1,i,none⟩=some v))
  (KS:Hid (∀ u,Old Wb u→CallsIn (FG 9) 0 Tryd.prog 37 #[.slice ba n bc,.slice ga n gc] u fun e w'=>e=Ending.returned (.bool true)∧Nx u w'))
  (KC:Hid (∀ u,Old Wb u→CallsIn (FG 9) 0 Tryd.prog 38 #[d.val r,.agg #[num l.lo,num l.hi,.slice al l.ops.length cap]] u fun e w'=>e=Ending.returned (num g)∧Nx u w'))
  (KR:Hid (∀ u,Old Wb u→CallsIn (FG 9) 0 Tryd.prog 27 #[d.val r,.agg #[num l.lo,num l.hi,.slice al l.ops.length cap]] u fun e w'=>e=Ending.returned (num g)∧Nx u w')) :
  lg5r.wpIn (FG 9) 0 Tryd.prog (fun e a w'=>e=.normal∧a.defers=[]∧a.tmps=#[v0,v1,.pointer (some ⟨B,0,none⟩),.pointer (some ⟨B+1,0,none⟩),v4,.slice ba n bc,num jf,.slice ga n gc,num jf,v9,v10,v11,v12,v13,v14,v15,v16,v17,v18,v19,v20,v21,v22,v23,v24,v25,v26,v27,v28,.slice ba n bc,.slice ga n gc,.bool true,.bool false,.bool false,num jf,num jf,.bool false,.bool false,.bool false,d.val r,.agg #[num l.lo,num l.hi,.slice al l.ops.length cap],num g,d.val r,.agg #[num l.lo,num l.hi,.slice al l.ops.length cap],num g,.bool false,.bool false,zu,zu,zu,zu,zu,zu,zu,zu,zu,zu,zu,zu,zu,zu,zu,zu,zu,zu,zu,zu,zu,zu,zu,zu,zu,zu,zu,zu,zu,zu]∧Old Wb w') ⟨#[v0,v1,.pointer (some ⟨B,0,none⟩),.pointer (some ⟨B+1,0,none⟩),v4,.slice ba n bc,num jf,.slice ga n gc,num jf,v9,v10,v11,v12,v13,v14,v15,v16,v17,v18,v19,v20,v21,v22,v23,v24,v25,v26,v27,v28,zu,zu,zu,zu,zu,zu,zu,zu,zu,zu,zu,zu,zu,zu,zu,zu,zu,zu,zu,zu,zu,zu,zu,zu,zu,zu,zu,zu,zu,zu,zu,zu,zu,zu,zu,zu,zu,zu,zu,zu,zu,zu,zu,zu,zu,zu,zu,zu],[]⟩ wr:=by
 rw [ybz]
 have oD:Old Wb wr.drew:=oR.trans (.nx (Below.drew (Below.refl _ _)))
 refine zbg (fun x=>Old Wb x) (by kernel_rfl) ?_
 change wpAnyC _ _ _ _ _ _ _ 18 #[false,false,false,false,false,false,false,false,false,false,false,false,false,false,false,false,false,false] _ _
 refine zah (i:=0) (oi:=⟨some 29,.move (.tmp 5),_,_,_,none⟩) (v:=.slice ba n bc) (zaj (by kernel_rfl)) rfl (by kernel_rfl) (by kernel_rfl) (by kernel_rfl) (fun _ _ _ h=>by cases h.1) (zaN rfl) ?_
 simp only [Act.put,List.setIfInBounds_toArray,List.set_cons_succ,List.set_cons_zero]
 refine zah (i:=1) (oi:=⟨some 30,.move (.tmp 7),_,_,_,none⟩) (v:=.slice ga n gc) (zaj (by kernel_rfl)) rfl (by kernel_rfl) (by kernel_rfl) (by kernel_rfl) (fun _ _ _ h=>by cases h.1) (zaN rfl) ?_
 simp only [Act.put,List.setIfInBounds_toArray,List.set_cons_succ,List.set_cons_zero]
 refine zau (i:=2) (o:=⟨some 31,.call { callee:=.value (.func 37),args:=#[.tmp 29,.tmp 30],argTypes:=#[55,55] },_,_,_,none⟩) (by kernel_rfl) rfl rfl (oD) ?_
 intro K hK
 go_simp
 refine CallsIn.mono (((KS.out _ (oD)).mono fun e w' ⟨p,q⟩=>(⟨p,Old.trans (oD) (.nx q)⟩:e=Ending.returned (.bool true)∧Old Wb w'))) ?_
 rintro e v2w ⟨rfl,y2⟩
 refine hK _ _ ?_
 refine zah (i:=3) (oi:=⟨some 32,.unOp .not 4 (.tmp 31),_,_,_,none⟩) (v:=.bool false) (zaj (by kernel_rfl)) rfl (by kernel_rfl) (by kernel_rfl) (by kernel_rfl) (fun _ _ _ h=>by cases h.1) (yC rfl (fun _=>rfl) fun x hx=>by clear CO CL KS KC KR oD oR;simp [execOp,go_sem]) ?_
 simp only [Act.put,List.setIfInBounds_toArray,List.set_cons_succ,List.set_cons_zero]
 refine zah (i:=4) (oi:=⟨some 33,.move (.tmp 32),_,_,_,none⟩) (v:=.bool false) (zaj (by kernel_rfl)) rfl (by kernel_rfl) (by kernel_rfl) (by kernel_rfl) (fun _ _ _ h=>by cases h.1) (zaN rfl) ?_
 simp only [Act.put,List.setIfInBounds_toArray,List.set_cons_succ,List.set_cons_zero]
 refine zah (i:=5) (oi:=⟨some 34,.move (.tmp 6),_,_,_,some (4,false)⟩) (v:=num jf) (zaj (by kernel_rfl)) rfl (by kernel_rfl) (by kernel_rfl) (by kernel_rfl) (fun _ _ _ h=>by cases h.1) (yG (zaN rfl) rfl) ?_
 simp only [Act.put,List.setIfInBounds_toArray,List.set_cons_succ,List.set_cons_zero]
 refine zah (i:=6) (oi:=⟨some 35,.move (.tmp 8),_,_,_,some (4,false)⟩) (v:=num jf) (zaj (by kernel_rfl)) rfl (by kernel_rfl) (by kernel_rfl) (by kernel_rfl) (fun _ _ _ h=>by cases h.1) (yG (zaN rfl) rfl) ?_
 simp only [Act.put,List.setIfInBounds_toArray,List.set_cons_succ,List.set_cons_zero]
 refine zah (i:=7) (oi:=⟨some 36,.binOp .neq 37 (.tmp 34) (.tmp 35) 37,_,_,_,some (4,false)⟩) (v:=.bool false) (zaj (by kernel_rfl)) rfl (by kernel_rfl) (by kernel_rfl) (by kernel_rfl) (fun _ _ _ h=>by cases h.1) (yG (yar rfl rfl) rfl) ?_
 simp only [Act.put,List.setIfInBounds_toArray,List.set_cons_succ,List.set_cons_zero]
 refine zah (i:=8) (oi:=⟨some 37,.pick (.tmp 33) (.const (.bool true)) (.tmp 36),_,_,_,none⟩) (v:=.bool false) (zaj (by kernel_rfl)) rfl (by kernel_rfl) (by kernel_rfl) (by kernel_rfl) (fun _ _ _ h=>by cases h.1) (ya8 rfl rfl) ?_
 simp only [Act.put,List.setIfInBounds_toArray,List.set_cons_succ,List.set_cons_zero]
 refine zah (i:=9) (oi:=⟨some 38,.move (.tmp 37),_,_,_,none⟩) (v:=.bool false) (zaj (by kernel_rfl)) rfl (by kernel_rfl) (by kernel_rfl) (by kernel_rfl) (fun _ _ _ h=>by cases h.1) (zaN rfl) ?_
 simp only [Act.put,List.setIfInBounds_toArray,List.set_cons_succ,List.set_cons_zero]
 refine zah (i:=10) (oi:=⟨some 39,.load 31 (.tmp 2),_,_,_,some (9,false)⟩) (v:=d.val r) (zaj (by kernel_rfl)) rfl (by kernel_rfl) (by kernel_rfl) (by kernel_rfl) (fun _ _ _ h=>by cases h.1) (yG (zc8 rfl (fun x hx=>CO.out x hx)) rfl) ?_
 simp only [Act.put,List.setIfInBounds_toArray,List.set_cons_succ,List.set_cons_zero]
 refine zah (i:=11) (oi:=⟨some 40,.load 35 (.tmp 3),_,_,_,some (9,false)⟩) (v:=.agg #[num l.lo,num l.hi,.slice al l.ops.length cap]) (zaj (by kernel_rfl)) rfl (by kernel_rfl) (by kernel_rfl) (by kernel_rfl) (fun _ _ _ h=>by cases h.1) (yG (yC rfl (fun _=>rfl) fun x hx=>by have e0:=CL.out x hx 0 _ rfl;have e1:=CL.out x hx 1 _ rfl;have e2:=CL.out x hx 2 _ rfl;clear CO CL KS KC KR oD oR;simp [execOp,go_sem,e0,e1,e2]) rfl) ?_
 simp only [Act.put,List.setIfInBounds_toArray,List.set_cons_succ,List.set_cons_zero]
 refine zah (i:=13) (oi:=⟨some 42,.load 31 (.tmp 2),_,_,_,some (9,false)⟩) (v:=d.val r) (zaj (by kernel_rfl)) rfl (by kernel_rfl) (by kernel_rfl) (by kernel_rfl) (fun _ _ _ h=>by cases h.1) (yG (zc8 rfl (fun x hx=>CO.out x hx)) rfl) ?_
 simp only [Act.put,List.setIfInBounds_toArray,List.set_cons_succ,List.set_cons_zero]
 refine zah (i:=14) (oi:=⟨some 43,.load 35 (.tmp 3),_,_,_,some (9,false)⟩) (v:=.agg #[num l.lo,num l.hi,.slice al l.ops.length cap]) (zaj (by kernel_rfl)) rfl (by kernel_rfl) (by kernel_rfl) (by kernel_rfl) (fun _ _ _ h=>by cases h.1) (yG (yC rfl (fun _=>rfl) fun x hx=>by have e0:=CL.out x hx 0 _ rfl;have e1:=CL.out x hx 1 _ rfl;have e2:=CL.out x hx 2 _ rfl;clear CO CL KS KC KR oD oR;simp [execOp,go_sem,e0,e1,e2]) rfl) ?_
 simp only [Act.put,List.setIfInBounds_toArray,List.set_cons_succ,List.set_cons_zero]
 refine zau (i:=12) (o:=⟨some 41,.call { callee:=.value (.func 38),args:=#[.tmp 39,.tmp 40],argTypes:=#[31,35] },_,_,_,some (9,false)⟩) (by kernel_rfl) rfl rfl (y2) ?_
 intro K hK
 go_simp
 refine CallsIn.mono (((KC.out _ (y2)).mono fun e w' ⟨p,q⟩=>(⟨p,Old.trans (y2) (.nx q)⟩:e=Ending.returned (num g)∧Old Wb w'))) ?_
 rintro e v12w ⟨rfl,y12⟩
 refine hK _ _ ?_
 refine zau (i:=15) (o:=⟨some 44,.call { callee:=.value (.func 27),args:=#[.tmp 42,.tmp 43],argTypes:=#[31,35] },_,_,_,some (9,false)⟩) (by kernel_rfl) rfl rfl (y12) ?_
 intro K hK
 go_simp
 refine CallsIn.mono (((KR.out _ (y12)).mono fun e w' ⟨p,q⟩=>(⟨p,Old.trans (y12) (.nx q)⟩:e=Ending.returned (num g)∧Old Wb w'))) ?_
 rintro e v15w ⟨rfl,y15⟩
 refine hK _ _ ?_
 refine zah (i:=16) (oi:=⟨some 45,.binOp .neq 37 (.tmp 41) (.tmp 44) 37,_,_,_,some (9,false)⟩) (v:=.bool false) (zaj (by kernel_rfl)) rfl (by kernel_rfl) (by kernel_rfl) (by kernel_rfl) (fun _ _ _ h=>by cases h.1) (yG (yar rfl rfl) rfl) ?_
 simp only [Act.put,List.setIfInBounds_toArray,List.set_cons_succ,List.set_cons_zero]
 refine zah (i:=17) (oi:=⟨some 46,.pick (.tmp 38) (.const (.bool true)) (.tmp 45),_,_,_,none⟩) (v:=.bool false) (zaj (by kernel_rfl)) rfl (by kernel_rfl) (by kernel_rfl) (by kernel_rfl) (fun _ _ _ h=>by cases h.1) (ya8 rfl rfl) ?_
 simp only [Act.put,List.setIfInBounds_toArray,List.set_cons_succ,List.set_cons_zero]
 refine zbk (by kernel_rfl) (y15) ?_
 exact⟨rfl,rfl,rfl,y15⟩
def LgB (B:Nat) (Wb:World) (t:Array Value) (W2:World):Prop :=
 Old Wb W2∧∃ v0 v1 v4 v5 v6 v7 v8 v9 v10 v11 v12 v13 v14 v15 v16 v17 v18 v19 v20 v21 v22 v23 v24 v25 v26 v27 v28 v29 v30 v31 v32 v33 v34 v35 v36 v37 v38 v39 v40 v41 v42 v43 v44 v45 v46:Value,t=#[v0,v1,.pointer (some ⟨B,0,none⟩),.pointer (some ⟨B+1,0,none⟩),v4,v5,v6,v7,v8,v9,v10,v11,v12,v13,v14,v15,v16,v17,v18,v19,v20,v21,v22,v23,v24,v25,v26,v27,v28,v29,v30,v31,v32,v33,v34,v35,v36,v37,v38,v39,v40,v41,v42,v43,v44,v45,v46,zu,zu,zu,zu,zu,zu,zu,zu,zu,zu,zu,zu,zu,zu,zu,zu,zu,zu,zu,zu,zu,zu,zu,zu,zu,zu,zu,zu,zu,zu]
theorem yb0 {v0 v1 v4 v7 v8 v9 v10 v11 v12 v13 v14 v15 v16 v17 v18 v19 v20 v21 v22:Value} (d:Dit) (r:zaR) (l:Lg) (al ba:Option Addr) (cap n bc:Nat) (jf:Int) (B:Nat) (Wb:World) (hd:DitSl Wb d r) (hs:d.Small) (hg:Glob Wb) (hOk:logS d l=0→d.Ok) (hl:Sl Wb (.slice al l.ops.length cap) 3 (l.ops.map three)) (hls:l.ops.length≤40) (hn:n=(zc9 d l).1.length) (hjf:jf=(zc9 d l).2) (hn1:n≤1000000)
  (hbs:Sl Wb (.slice ba n bc) 1 ((zc9 d l).1.map fun x=>[num x])) (cO:∀ i v,(d.cellsA r)[i]?=some v→Wb.cell? ⟨B,i,none⟩=some v) (cL:∀ i v,(#[num l.lo,num l.hi,.slice al l.ops.length cap]:Array Value)[i]?=some v→Wb.cell? ⟨B+1,i,none⟩=some v) (hB:B+1<Wb.heap.size) :
  zo0 Tryd.prog (FG 9) [lg4,lg5] (LgB B Wb) #[v0,v1,.pointer (some ⟨B,0,none⟩),.pointer (some ⟨B+1,0,none⟩),v4,.slice ba n bc,num jf,v7,v8,v9,v10,v11,v12,v13,v14,v15,v16,v17,v18,v19,v20,v21,v22,zu,zu,zu,zu,zu,zu,zu,zu,zu,zu,zu,zu,zu,zu,zu,zu,zu,zu,zu,zu,zu,zu,zu,zu,zu,zu,zu,zu,zu,zu,zu,zu,zu,zu,zu,zu,zu,zu,zu,zu,zu,zu,zu,zu,zu,zu,zu,zu,zu,zu,zu,zu,zu,zu] Wb:=by
 have CO:=Lib.hid (fun w2 (o:Old Wb w2) i v (h:(d.cellsA r)[i]?=some v)=>(o.cell ⟨B,i,none⟩ (by show B<_;omega)).trans (cO i v h))
 have CL:=Lib.hid (fun w2 (o:Old Wb w2) i v (h:(#[num l.lo,num l.hi,.slice al l.ops.length cap]:Array Value)[i]?=some v)=>(o.cell ⟨B+1,i,none⟩ hB).trans (cL i v h))
 have K36:=Lib.hid (fun w2 (o:Old Wb w2)=>toFG 9 (m:=0) (yax d r l al cap w2 (hd.old o) hs hOk (hl.old o) (by omega)))
 have KC:=Lib.hid (fun u (o:Old Wb u)=>toFG 9 (m:=0) (yaj d r l al cap u (hd.old o) hs (hg.old o) (hl.old o) (by omega)))
 have KR:=Lib.hid (fun u (o:Old Wb u)=>toFG 9 (m:=0) (yaa d r l (.slice al l.ops.length cap) u (hd.old o) hs (hl.old o) (by omega)))
 have HBS:=Lib.hid hbs
 have HN:=Lib.hid hn
 have HJ:=Lib.hid hjf
 clear cO cL hd hg hl hbs hn hOk hs hjf
 intro τ4
 generalize hq4:({ Wb with tape:=τ4 }:World)=u4
 have oA4:Old Wb u4:=by rw [← hq4];exact .same rfl
 clear hq4
 have k36:=K36.out u4 oA4
 rw [← HJ.out] at k36
 have q0:=CL.out u4 oA4 0 _ rfl
 have q1:=CL.out u4 oA4 1 _ rfl
 have q2:=CL.out u4 oA4 2 _ rfl
 obtain⟨c0,c1,c2,c3,c4,c5,c6,c7,c8,c9,c10,c11,c12,c13⟩:=zaS (CO.out u4 oA4)
 simp only [lg4,ycq,yci,ych,ycg,ycf,yce,yca,yai,seqL,seqR,Tryd.f9]
 gi_wp2_with (first
  | (gi_at_call 36;refine CallsIn.mono k36 ?_;rintro e w5 ⟨gu,rfl,x5,hgs⟩;obtain⟨ga,gc,hge⟩:=hgs.cases;rw [List.length_map,← HN.out] at hge;subst hge;clear c0 c1 c2 c3 c4 c5 c6 c7 c8 c9 c10 c11 c12 c13;clear q0 q1 q2 k36)
  | gi_in)
 have oA5:Old Wb w5:=oA4.trans (.nx x5)
 have KS:=Lib.hid (fun u (o:Old w5 u)=>show CallsIn (FG 9) 0 Tryd.prog 37 #[.slice ba n bc,.slice ga n gc] u fun e w'=>e=Ending.returned (.bool true)∧Nx u w' from by
  have h:=toFG 9 (m:=0) (ybq (.slice ba n bc) (.slice ga n gc) (zc9 d l).1 (zc9 d l).1 u (HBS.out.old (oA5.trans o)) (hgs.old o) (by rw [← HN.out];omega) (by rw [← HN.out];omega))
  rw [decide_eq_true rfl] at h
  exact h)
 clear hgs
 intro τ5
 generalize hq5:({ w5 with tape:=τ5 }:World)=u5
 have oB5:Old w5 u5:=by rw [← hq5];exact .same rfl
 clear hq5
 simp only [lg5,ycq,yci,ych,ycg,ycf,yce,yca,yai,seqL,seqR,Tryd.f9]
 gi_upto_region 5 with fail
 refine yac (c':=lg5r) (by kernel_rfl) ?_
 refine wpIn_mono (ycb d r l al ba ga cap n bc gc jf (logS d l) B w5 u5 oB5 (Lib.hid fun w2 o=>CO.out w2 (oA5.trans o)) (Lib.hid fun w2 o=>CL.out w2 (oA5.trans o)) KS (Lib.hid fun w2 o=>KC.out w2 (oA5.trans o)) (Lib.hid fun w2 o=>KR.out w2 (oA5.trans o))) ?_
 rintro e a w' ⟨rfl,hdf,hta,o'⟩
 obtain⟨ta,df⟩:=a
 dsimp only at hdf hta
 subst hta hdf
 clear KS KC KR K36 CO CL
 gi_wp2
 exact⟨oA5.trans o',_,_,_,_,_,_,_,_,_,_,_,_,_,_,_,_,_,_,_,_,_,_,_,_,_,_,_,_,_,_,_,_,_,_,_,_,_,_,_,_,_,_,_,_,_,rfl⟩
end Go.Proofs.YtolholkjeehamaaDoor

namespace Go.Proofs.YtolholkjeehamaaDoor
open Go.RowKit Go.Con Go.Conc
local instance:Lone:=zcG
theorem ybd {d:Dit} {l:Lg} {n m f:Int} {xs ys:List Int} (h1:zou d l n xs f) (h2:logS d l≠0→m=0∧ys=[]) (h3:logS d l=0→yaf d l m ys):m=n∧ys=xs∧f=logS d l∧xs.length≤20:=by
 by_cases h:logS d l=0
 ·obtain⟨hf,hB⟩:=ybg h h1
  obtain⟨e1,e2⟩:=yay (h3 h) hB
  exact⟨e1,e2,by rw [hf,h],hB.few⟩
 ·obtain⟨a,b,c⟩:=h1.1 h
  obtain⟨e1,e2⟩:=h2 h
  subst a b e1 e2
  exact⟨rfl,rfl,c,Nat.zero_le _⟩
def LgT (oa:Option Addr) (oc:Nat) (n:Int) (xs:List Int) (f:Int) (Wb:World) (t:Array Value) (W2:World):Prop :=
 Old Wb W2∧∃ (ga:Option Addr) (gc:Nat),Sl W2 (.slice ga xs.length gc) 1 (xs.map fun x=>[num x])∧xs.length≤20∧t.size=77∧t[9]?=some (num n)∧t[10]?=some (.slice oa xs.length oc)∧t[6]?=some (num f)∧t[11]?=some (num n)∧t[12]?=some (.slice ga xs.length gc)∧t[8]?=some (num f)
theorem yb1 {v0 v1 v4 v5 v7 v8 v11 v12 v13 v14 v15 v16 v17 v18 v19 v20 v21 v22 v23 v24 v25 v26 v27 v28 v29 v30 v31 v32 v33 v34 v35 v36 v37 v38 v39 v40 v41 v42 v43 v44 v45 v46 v47 v48 v49 v50 v51 v52 v53:Value} (d:Dit) (r:zaR) (l:Lg) (al oa:Option Addr) (cap oc:Nat) (n f:Int) (xs:List Int) (B:Nat) (Wb:World) (hd:DitSl Wb d r) (hs:d.Small) (hOk:logS d l=0→d.Ok) (hl:Sl Wb (.slice al l.ops.length cap) 3 (l.ops.map three)) (hls:l.ops.length≤40) (hR:zou d l n xs f)
  (cO:∀ i v,(d.cellsA r)[i]?=some v→Wb.cell? ⟨B,i,none⟩=some v) (cL:∀ i v,(#[num l.lo,num l.hi,.slice al l.ops.length cap]:Array Value)[i]?=some v→Wb.cell? ⟨B+1,i,none⟩=some v) (hB:B+1<Wb.heap.size) :
  zo0 Tryd.prog (FG 9) [lg8] (LgT oa oc n xs f Wb) #[v0,v1,.pointer (some ⟨B,0,none⟩),.pointer (some ⟨B+1,0,none⟩),v4,v5,num f,v7,v8,num n,.slice oa xs.length oc,v11,v12,v13,v14,v15,v16,v17,v18,v19,v20,v21,v22,v23,v24,v25,v26,v27,v28,v29,v30,v31,v32,v33,v34,v35,v36,v37,v38,v39,v40,v41,v42,v43,v44,v45,v46,v47,v48,v49,v50,v51,v52,v53,zu,zu,zu,zu,zu,zu,zu,zu,zu,zu,zu,zu,zu,zu,zu,zu,zu,zu,zu,zu,zu,zu,zu] Wb:=by
 have CO:=Lib.hid (fun w2 (o:Old Wb w2) i v (h:(d.cellsA r)[i]?=some v)=>(o.cell ⟨B,i,none⟩ (by show B<_;omega)).trans (cO i v h))
 have CL:=Lib.hid (fun w2 (o:Old Wb w2) i v (h:(#[num l.lo,num l.hi,.slice al l.ops.length cap]:Array Value)[i]?=some v)=>(o.cell ⟨B+1,i,none⟩ hB).trans (cL i v h))
 have K39:=Lib.hid (fun w2 (o:Old Wb w2)=>toFG 9 (m:=0) (yaz d r l al cap w2 (hd.old o) hs hOk (hl.old o) (by omega)))
 have HR:=Lib.hid hR
 clear cO cL hd hl hR hOk hs hls
 intro τ4
 generalize hq4:({ Wb with tape:=τ4 }:World)=u4
 have oA4:Old Wb u4:=by rw [← hq4];exact .same rfl
 clear hq4
 have k39:=K39.out u4 oA4
 have q0:=CL.out u4 oA4 0 _ rfl
 have q1:=CL.out u4 oA4 1 _ rfl
 have q2:=CL.out u4 oA4 2 _ rfl
 obtain⟨c0,c1,c2,c3,c4,c5,c6,c7,c8,c9,c10,c11,c12,c13⟩:=zaS (CO.out u4 oA4)
 simp only [lg8,ycq,yci,ych,ycg,ycf,yce,yca,yai,seqL,seqR,Tryd.f9]
 gi_wp2_with (first
  | (gi_at_call 39;refine CallsIn.mono k39 ?_;rintro e w5 ⟨m,ys,gu,rfl,x5,hgs,hb1,hb2⟩;obtain⟨e1,e2,e3,e4⟩:=ybd HR.out hb1 hb2;subst e1 e2;rw [← e3];obtain⟨ga,gc,hge⟩:=hgs.cases;rw [List.length_map] at hge;subst hge;clear c0 c1 c2 c3 c4 c5 c6 c7 c8 c9 c10 c11 c12 c13;clear q0 q1 q2 k39 hb1 hb2 e3;have HGS:=Lib.hid hgs;have HE4:=Lib.hid e4;clear hgs e4)
  | gi_in)
 exact⟨oA4.trans (.nx x5),ga,gc,HGS.out,HE4.out,rfl,rfl,rfl,rfl,rfl,rfl,rfl⟩
end Go.Proofs.YtolholkjeehamaaDoor

namespace Go.Proofs.YtolholkjeehamaaDoor
open Go.RowKit Go.Con Go.Conc
local instance:Lone:=zcG
noncomputable def oplg3:Array Oper:=opsOf lg3
theorem ycu:lg3=.region 3 oplg3 false:=by kernel_rfl
noncomputable def oplg7:Array Oper:=opsOf lg7
theorem ycv:lg7=.region 7 oplg7 false:=by kernel_rfl
theorem ya9 (v:Value) (t:Array Value) (h:t[4]?=some v) (σ:Rn):ResultsC Tryd.prog Tryd.f9 (t.map (ren σ)) (ren σ v):=by
 have:=resultsC_tmp (P:=Tryd.prog) (fn:=Tryd.f9) (t:=4) rfl (t.map (ren σ))
 simp only [Array.getD_eq_getD_getElem?,Array.getElem?_map,h,Option.map_some,Option.getD_some] at this
 exact this
theorem ycc (E Fz Arg:Nat→Prop) (W0:World) (hArg:∀ x,Arg x↔x<W0.heap.size) (Post:Value→World→Prop) (φ:Ph) (d:Dit) (r:zaR) (l:Lg) (al:Option Addr) (cap:Nat) (W:World) (hd:DitSl W d r) (hb:d.Big) (hg:Glob W) (hl:Sl W (.slice al l.ops.length cap) 3 (l.ops.map three)) (hlb:l.ops.length≤281474976710656) (hkd:Kind W (.slice al l.ops.length cap))
  (hPost:∀ Fz1 ρ D own A fr W1 W',Here Tryd.prog true E Fz1 Arg W0 ρ D own A fr [] W1 W'→Post (ren ρ (.bool true)) W') :
  GoM Tryd.prog true E Fz Arg W0 (AtEnd Tryd.prog Post) φ [] (Fr 9 #[d.val r,.agg #[num l.lo,num l.hi,.slice al l.ops.length cap],zu,zu,zu,zu,zu,zu,zu,zu,zu,zu,zu,zu,zu,zu,zu,zu,zu,zu,zu,zu,zu,zu,zu,zu,zu,zu,zu,zu,zu,zu,zu,zu,zu,zu,zu,zu,zu,zu,zu,zu,zu,zu,zu,zu,zu,zu,zu,zu,zu,zu,zu,zu,zu,zu,zu,zu,zu,zu,zu,zu,zu,zu,zu,zu,zu,zu,zu,zu,zu,zu,zu,zu,zu,zu,zu] [.code yai]) [] W:=by
 have hgood:zaL Tryd.prog (.func 9)=false:=by kernel_rfl
 have hL:=ybp d r l al cap W hd hb hg hl hlb
 rw [ybx]
 refine Gm.seq ?_
 refine Gm.lone (F:=FG 9) _ rfl rfl rfl (List.mem_cons_self ..) (zdr 9 hgood) (by kernel_rfl) (by kernel_rfl) hL ?_
 clear hL
 intro t0 V0 hL
 refine Gm.seq (Gm.seq ?_)
 refine Gm.lone (F:=FG 9) _ rfl rfl rfl (List.mem_cons_self ..) (zdr 9 hgood) (by kernel_rfl) (by kernel_rfl) hL ?_
 clear hL
 rintro t W1 ⟨hO1,hs,h15 | ⟨h15,⟨hsm,hl40⟩,hO2,B,v13,v14,v15,rfl,hB,cD,cL⟩⟩
 ·refine Gm.cond (b:=true) (zaf h15) rfl ?_
  refine Gm.seq ?_
  rw [ycr]
  refine Gm.region ?_
  rw [show List.range oplg2.size=[0,1] by kernel_rfl]
  refine Gm.enter (o:=⟨some 16,.call { callee:=.value (.func 20),args:=#[],argTypes:=#[] },_,_,_,none⟩) (c:={ callee:=.value (.func 20),args:=#[],argTypes:=#[] }) rfl rfl rfl rfl (by kernel_rfl) Tryd.func20 ziv (by kernel_rfl) ?_
  rw [fr20]
  refine zka E _ Arg W0 hArg _ _ _ _ _ (hg.old hO1) ?_
  intro WL FzL φL hOL
  rw [zbs (o:=⟨some 16,.call { callee:=.value (.func 20),args:=#[],argTypes:=#[] },_,_,_,none⟩) rfl]
  refine Gm.op (o:=⟨some 4,.assign (.tmp 16),_,_,_,none⟩) (.bool true) WL rfl rfl (by kernel_rfl) rfl (zl7 _ (zaf (by simp only [zaC,zay,zax,hs,ne_eq,Nat.reduceEqDiff,not_false_eq_true,Nat.reduceLT]))) id ?_
  refine Gm.regionEnd ?_
  refine Gm.done Tryd.func9 (by kernel_rfl) (ya9 (.bool true) _ (by simp only [zaC,zay,zax,hs,ne_eq,Nat.reduceEqDiff,not_false_eq_true,Nat.reduceLT])) ?_
  exact fun ρ D own A fr W' h=>hPost _ ρ D own A fr _ W' h
 ·refine Gm.cond (b:=false) (zaf h15) rfl ?_
  refine Gm.skip ?_
  clear hO1 hs h15
  have hls:l.ops.length≤1000000000:=by omega
  have hOk:logS d l=0→d.Ok:=fun hlog=>zco (by
   have h:=hlog
   unfold logS at h
   split at h
   ·rename_i g;exact absurd h g
   ·rename_i g;exact Decidable.not_not.1 g)
  refine Gm.seq ?_
  rw [ycu]
  refine Gm.region ?_
  rw [show List.range oplg3.size=[0,1,2,3,4,5,6,7] by kernel_rfl]
  refine Gm.op (o:=⟨some 18,.load 31 (.tmp 2),_,_,_,none⟩) (d.val r) W1 rfl rfl (by kernel_rfl) rfl (zhr _ (zaf rfl) (cD 0 _ rfl) (cD 1 _ rfl) (cD 2 _ rfl) (cD 3 _ rfl) (cD 4 _ rfl) (cD 5 _ rfl) (cD 6 _ rfl) (cD 7 _ rfl) (cD 8 _ rfl) (cD 9 _ rfl) (cD 10 _ rfl) (cD 11 _ rfl) (cD 12 _ rfl) (cD 13 _ rfl)) id ?_
  simp only [putD,List.setIfInBounds_toArray,List.set_cons_succ,List.set_cons_zero]
  refine Gm.op (o:=⟨some 19,.load 35 (.tmp 3),_,_,_,none⟩) (.agg #[num l.lo,num l.hi,.slice al l.ops.length cap]) W1 rfl rfl (by kernel_rfl) rfl (zd7 _ (zaf rfl) (cL 0 _ rfl) (cL 1 _ rfl) (cL 2 _ rfl)) id ?_
  simp only [putD,List.setIfInBounds_toArray,List.set_cons_succ,List.set_cons_zero]
  refine Gm.enter (o:=⟨some 20,.call { callee:=.value (.func 29),args:=#[.tmp 18,.tmp 19],argTypes:=#[31,35] },_,_,_,none⟩) (c:={ callee:=.value (.func 29),args:=#[.tmp 18,.tmp 19],argTypes:=#[31,35] }) rfl rfl rfl rfl (by kernel_rfl) Tryd.func29 zmm (by kernel_rfl) ?_
  dsimp only
  have hargs:∀ t:Array Value,t[18]?=some (d.val r)→t[19]?=some (.agg #[num l.lo,num l.hi,.slice al l.ops.length cap])→(#[Operand.tmp 18,Operand.tmp 19]).map (Fr 9 t []).eval=#[d.val r,.agg #[num l.lo,num l.hi,.slice al l.ops.length cap]]:=fun t h1 h2=>by simp only [List.map_toArray,List.map_cons,List.map_nil,zaf h1,zaf h2]
  rw [hargs _ rfl rfl,fr29]
  clear hargs
  refine zny E _ Arg W0 hArg _ _ _ _ W1 d r l (.slice al l.ops.length cap) (hd.old hO2) hsm (hg.old hO2) (hl.old hO2) (hkd.old hO2) hls ?_
  intro W7 Fz7 φ7 bv hO7 hb7
  obtain⟨ba,bc,hbv⟩:=hb7.cases
  rw [List.length_map] at hbv
  subst hbv
  rw [zbs (o:=⟨some 20,.call { callee:=.value (.func 29),args:=#[.tmp 18,.tmp 19],argTypes:=#[31,35] },_,_,_,none⟩) rfl]
  simp only [putD,List.setIfInBounds_toArray,List.set_cons_succ,List.set_cons_zero]
  refine Gm.op (o:=⟨some 17,.move (.tmp 20),_,_,_,none⟩) (.tuple #[.slice ba (zc9 d l).1.length bc,num (zc9 d l).2]) W7 rfl rfl (by kernel_rfl) rfl (zcT _ (zaf rfl)) id ?_
  simp only [putD,List.setIfInBounds_toArray,List.set_cons_succ,List.set_cons_zero]
  refine Gm.op (o:=⟨some 21,.extract (.tmp 17) 0,_,_,_,none⟩) (.slice ba (zc9 d l).1.length bc) W7 rfl rfl (by kernel_rfl) rfl (zcP (vs:=#[.slice ba (zc9 d l).1.length bc,num (zc9 d l).2]) _ (zaf rfl) rfl) id ?_
  simp only [putD,List.setIfInBounds_toArray,List.set_cons_succ,List.set_cons_zero]
  refine Gm.op (o:=⟨some 22,.extract (.tmp 17) 1,_,_,_,none⟩) (num (zc9 d l).2) W7 rfl rfl (by kernel_rfl) rfl (zcP (vs:=#[.slice ba (zc9 d l).1.length bc,num (zc9 d l).2]) _ (zaf rfl) rfl) id ?_
  simp only [putD,List.setIfInBounds_toArray,List.set_cons_succ,List.set_cons_zero]
  refine Gm.op (o:=⟨some 5,.assign (.tmp 21),_,_,_,none⟩) (.slice ba (zc9 d l).1.length bc) W7 rfl rfl (by kernel_rfl) rfl (zdE _ (zaf rfl)) id ?_
  simp only [putD,List.setIfInBounds_toArray,List.set_cons_succ,List.set_cons_zero]
  refine Gm.op (o:=⟨some 6,.assign (.tmp 22),_,_,_,none⟩) (num (zc9 d l).2) W7 rfl rfl (by kernel_rfl) rfl (zdE _ (zaf rfl)) id ?_
  simp only [putD,List.setIfInBounds_toArray,List.set_cons_succ,List.set_cons_zero]
  refine Gm.regionEnd ?_
  have hO17:=hO2.trans hO7
  have hB7:=Nat.lt_of_lt_of_le hB hO7.size
  have hjl:(zc9 d l).1.length≤1000000:=by
   by_cases hlog:logS d l=0
   ·rw [(yam hlog).2.1];omega
   ·rw [show zc9 d l=([],logS d l) by unfold zc9;rw [if_pos hlog]];simp
  have cD7:∀ i v,(d.cellsA r)[i]?=some v→W7.cell? ⟨B,i,none⟩=some v:=fun i v h=>(hO7.cell ⟨B,i,none⟩ (by show B<_;omega)).trans (cD i v h)
  have cL7:∀ i v,(#[num l.lo,num l.hi,.slice al l.ops.length cap]:Array Value)[i]?=some v→W7.cell? ⟨B+1,i,none⟩=some v:=fun i v h=>(hO7.cell ⟨B+1,i,none⟩ hB).trans (cL i v h)
  have hL:=fun {v0 v1 v4 v7 v8 v9 v10 v11 v12 v13 v14 v15 v16 v17 v18 v19 v20 v21 v22:Value}=>yb0 (v0:=v0) (v1:=v1) (v4:=v4) (v7:=v7) (v8:=v8) (v9:=v9) (v10:=v10) (v11:=v11) (v12:=v12) (v13:=v13) (v14:=v14) (v15:=v15) (v16:=v16) (v17:=v17) (v18:=v18) (v19:=v19) (v20:=v20) (v21:=v21) (v22:=v22) d r l al ba cap (zc9 d l).1.length bc (zc9 d l).2 B W7 (hd.old hO17) hsm (hg.old hO17) hOk (hl.old hO17) hl40 rfl rfl hjl hb7 cD7 cL7 hB7
  clear cD cL hb7
  refine Gm.seq ?_
  refine Gm.lone (F:=FG 9) _ rfl rfl rfl (List.mem_cons_self ..) (zdr 9 hgood) (by kernel_rfl) (by kernel_rfl) hL ?_
  clear hL
  intro t4 V4 hL
  refine Gm.seq ?_
  refine Gm.lone (F:=FG 9) _ rfl rfl rfl (List.mem_cons_self ..) (zdr 9 hgood) (by kernel_rfl) (by kernel_rfl) hL ?_
  clear hL
  rintro t W8 ⟨hO8,v0,v1,v4,v5,v6,v7,v8,v9,v10,v11,v12,v13,v14,v15,v16,v17,v18,v19,v20,v21,v22,v23,v24,v25,v26,v27,v28,v29,v30,v31,v32,v33,v34,v35,v36,v37,v38,v39,v40,v41,v42,v43,v44,v45,v46,rfl⟩
  have hO18:=hO17.trans hO8
  have hB8:=Nat.lt_of_lt_of_le hB7 hO8.size
  have cD8:∀ i v,(d.cellsA r)[i]?=some v→W8.cell? ⟨B,i,none⟩=some v:=fun i v h=>(hO8.cell ⟨B,i,none⟩ (by show B<_;omega)).trans (cD7 i v h)
  have cL8:∀ i v,(#[num l.lo,num l.hi,.slice al l.ops.length cap]:Array Value)[i]?=some v→W8.cell? ⟨B+1,i,none⟩=some v:=fun i v h=>(hO8.cell ⟨B+1,i,none⟩ hB7).trans (cL7 i v h)
  clear cD7 cL7
  refine Gm.seq ?_
  rw [ycv]
  refine Gm.region ?_
  rw [show List.range oplg7.size=[0,1,2,3,4,5,6,7,8,9] by kernel_rfl]
  refine Gm.op (o:=⟨some 48,.load 31 (.tmp 2),_,_,_,none⟩) (d.val r) W8 rfl rfl (by kernel_rfl) rfl (zhr _ (zaf rfl) (cD8 0 _ rfl) (cD8 1 _ rfl) (cD8 2 _ rfl) (cD8 3 _ rfl) (cD8 4 _ rfl) (cD8 5 _ rfl) (cD8 6 _ rfl) (cD8 7 _ rfl) (cD8 8 _ rfl) (cD8 9 _ rfl) (cD8 10 _ rfl) (cD8 11 _ rfl) (cD8 12 _ rfl) (cD8 13 _ rfl)) id ?_
  simp only [putD,List.setIfInBounds_toArray,List.set_cons_succ,List.set_cons_zero]
  refine Gm.op (o:=⟨some 49,.load 35 (.tmp 3),_,_,_,none⟩) (.agg #[num l.lo,num l.hi,.slice al l.ops.length cap]) W8 rfl rfl (by kernel_rfl) rfl (zd7 _ (zaf rfl) (cL8 0 _ rfl) (cL8 1 _ rfl) (cL8 2 _ rfl)) id ?_
  simp only [putD,List.setIfInBounds_toArray,List.set_cons_succ,List.set_cons_zero]
  refine Gm.enter (o:=⟨some 50,.call { callee:=.value (.func 31),args:=#[.tmp 48,.tmp 49],argTypes:=#[31,35] },_,_,_,none⟩) (c:={ callee:=.value (.func 31),args:=#[.tmp 48,.tmp 49],argTypes:=#[31,35] }) rfl rfl rfl rfl (by kernel_rfl) Tryd.func31 zmz (by kernel_rfl) ?_
  dsimp only
  have hargs:∀ t:Array Value,t[48]?=some (d.val r)→t[49]?=some (.agg #[num l.lo,num l.hi,.slice al l.ops.length cap])→(#[Operand.tmp 48,Operand.tmp 49]).map (Fr 9 t []).eval=#[d.val r,.agg #[num l.lo,num l.hi,.slice al l.ops.length cap]]:=fun t h1 h2=>by simp only [List.map_toArray,List.map_cons,List.map_nil,zaf h1,zaf h2]
  rw [hargs _ rfl rfl,fr31]
  clear hargs
  refine znZ E _ Arg W0 hArg _ _ _ _ W8 d r l (.slice al l.ops.length cap) (hd.old hO18) hsm (hg.old hO18) (hl.old hO18) (hkd.old hO18) hls ?_
  intro W9 Fz9 φ9 n ov xs f hO9 hv9 hR
  obtain⟨oa,oc,hov⟩:=hv9.cases
  rw [List.length_map] at hov
  subst hov
  rw [zbs (o:=⟨some 50,.call { callee:=.value (.func 31),args:=#[.tmp 48,.tmp 49],argTypes:=#[31,35] },_,_,_,none⟩) rfl]
  simp only [putD,List.setIfInBounds_toArray,List.set_cons_succ,List.set_cons_zero]
  refine Gm.op (o:=⟨some 47,.move (.tmp 50),_,_,_,none⟩) (.tuple #[num n,.slice oa xs.length oc,num f]) W9 rfl rfl (by kernel_rfl) rfl (zcT _ (zaf rfl)) id ?_
  simp only [putD,List.setIfInBounds_toArray,List.set_cons_succ,List.set_cons_zero]
  refine Gm.op (o:=⟨some 51,.extract (.tmp 47) 0,_,_,_,none⟩) (num n) W9 rfl rfl (by kernel_rfl) rfl (zcP (vs:=#[num n,.slice oa xs.length oc,num f]) _ (zaf rfl) rfl) id ?_
  simp only [putD,List.setIfInBounds_toArray,List.set_cons_succ,List.set_cons_zero]
  refine Gm.op (o:=⟨some 52,.extract (.tmp 47) 1,_,_,_,none⟩) (.slice oa xs.length oc) W9 rfl rfl (by kernel_rfl) rfl (zcP (vs:=#[num n,.slice oa xs.length oc,num f]) _ (zaf rfl) rfl) id ?_
  simp only [putD,List.setIfInBounds_toArray,List.set_cons_succ,List.set_cons_zero]
  refine Gm.op (o:=⟨some 53,.extract (.tmp 47) 2,_,_,_,none⟩) (num f) W9 rfl rfl (by kernel_rfl) rfl (zcP (vs:=#[num n,.slice oa xs.length oc,num f]) _ (zaf rfl) rfl) id ?_
  simp only [putD,List.setIfInBounds_toArray,List.set_cons_succ,List.set_cons_zero]
  refine Gm.op (o:=⟨some 9,.assign (.tmp 51),_,_,_,none⟩) (num n) W9 rfl rfl (by kernel_rfl) rfl (zdE _ (zaf rfl)) id ?_
  simp only [putD,List.setIfInBounds_toArray,List.set_cons_succ,List.set_cons_zero]
  refine Gm.op (o:=⟨some 10,.assign (.tmp 52),_,_,_,none⟩) (.slice oa xs.length oc) W9 rfl rfl (by kernel_rfl) rfl (zdE _ (zaf rfl)) id ?_
  simp only [putD,List.setIfInBounds_toArray,List.set_cons_succ,List.set_cons_zero]
  refine Gm.op (o:=⟨some 6,.assign (.tmp 53),_,_,_,none⟩) (num f) W9 rfl rfl (by kernel_rfl) rfl (zdE _ (zaf rfl)) id ?_
  simp only [putD,List.setIfInBounds_toArray,List.set_cons_succ,List.set_cons_zero]
  refine Gm.regionEnd ?_
  have hO19:=hO18.trans hO9
  have hB9:=Nat.lt_of_lt_of_le hB8 hO9.size
  have hL:=fun {v0 v1 v4 v5 v7 v8 v11 v12 v13 v14 v15 v16 v17 v18 v19 v20 v21 v22 v23 v24 v25 v26 v27 v28 v29 v30 v31 v32 v33 v34 v35 v36 v37 v38 v39 v40 v41 v42 v43 v44 v45 v46 v47 v48 v49 v50 v51 v52 v53:Value}=>yb1 (v0:=v0) (v1:=v1) (v4:=v4) (v5:=v5) (v7:=v7) (v8:=v8) (v11:=v11) (v12:=v12) (v13:=v13) (v14:=v14) (v15:=v15) (v16:=v16) (v17:=v17) (v18:=v18) (v19:=v19) (v20:=v20) (v21:=v21) (v22:=v22) (v23:=v23) (v24:=v24) (v25:=v25) (v26:=v26) (v27:=v27) (v28:=v28) (v29:=v29) (v30:=v30) (v31:=v31) (v32:=v32) (v33:=v33) (v34:=v34) (v35:=v35) (v36:=v36) (v37:=v37) (v38:=v38) (v39:=v39) (v40:=v40) (v41:=v41) (v42:=v42) (v43:=v43) (v44:=v44) (v45:=v45) (v46:=v46) (v47:=v47) (v48:=v48) (v49:=v49) (v50:=v50) (v51:=v51) (v52:=v52) (v53:=v53) d r l al oa cap oc n f xs B W9 (hd.old hO19) hsm hOk (hl.old hO19) hl40 hR (fun i v h=>(hO9.cell ⟨B,i,none⟩ (by show B<_;omega)).trans (cD8 i v h)) (fun i v h=>(hO9.cell ⟨B+1,i,none⟩ hB8).trans (cL8 i v h)) hB9
  clear cD8 cL8 hl hd hkd hR
  refine Gm.seq ?_
  refine Gm.lone (F:=FG 9) _ rfl rfl rfl (List.mem_cons_self ..) (zdr 9 hgood) (by kernel_rfl) (by kernel_rfl) hL ?_
  clear hL
  rintro t W10 ⟨hO910,ga,gc,hgx,hxl,hs,k9,k10,k6,k11,k12,k8⟩
  have hO10:=hO19.trans hO910
  have hox:=hv9.old hO910
  refine Gm.seq ?_
  rw [ycs]
  refine Gm.region ?_
  rw [show List.range oplg9.size=[0,1,2,3,4,5,6,7,8,9,10,11,12,13,14,15,16] by kernel_rfl]
  refine Gm.op (o:=⟨some 61,.move (.tmp 9),_,_,_,none⟩) (num n) W10 rfl rfl (by kernel_rfl) rfl (zdB _ (zaf (by simp only [zaC,zay,zax,hs,k9,k10,k6,k11,k12,k8,ne_eq,Nat.reduceEqDiff,not_false_eq_true,Nat.reduceLT]))) id ?_
  refine Gm.op (o:=⟨some 62,.move (.tmp 11),_,_,_,none⟩) (num n) W10 rfl rfl (by kernel_rfl) rfl (zdB _ (zaf (by simp only [zaC,zay,zax,hs,k9,k10,k6,k11,k12,k8,ne_eq,Nat.reduceEqDiff,not_false_eq_true,Nat.reduceLT]))) id ?_
  refine Gm.op (o:=⟨some 63,.binOp .eql 3 (.tmp 61) (.tmp 62) 3,_,_,_,none⟩) (.bool true) W10 rfl rfl (by kernel_rfl) rfl (zo4 (n:=n) _ (zaf (by simp only [zaC,zay,zax,hs,k9,k10,k6,k11,k12,k8,ne_eq,Nat.reduceEqDiff,not_false_eq_true,Nat.reduceLT])) (zaf (by simp only [zaC,zay,zax,hs,k9,k10,k6,k11,k12,k8,ne_eq,Nat.reduceEqDiff,not_false_eq_true,Nat.reduceLT]))) id ?_
  refine Gm.op (o:=⟨some 64,.move (.tmp 63),_,_,_,none⟩) (.bool true) W10 rfl rfl (by kernel_rfl) rfl (zdB _ (zaf (by simp only [zaC,zay,zax,hs,k9,k10,k6,k11,k12,k8,ne_eq,Nat.reduceEqDiff,not_false_eq_true,Nat.reduceLT]))) id ?_
  refine Gm.op (o:=⟨some 65,.move (.tmp 10),_,_,_,some (3,true)⟩) (.slice oa xs.length oc) W10 rfl (zbI (i:=3) (b:=true) (d:=64) rfl rfl (by simp only [zaC,zay,zax,hs,k9,k10,k6,k11,k12,k8,ne_eq,Nat.reduceEqDiff,not_false_eq_true,Nat.reduceLT])) (by kernel_rfl) rfl (zdB _ (zaf (by simp only [zaC,zay,zax,hs,k9,k10,k6,k11,k12,k8,ne_eq,Nat.reduceEqDiff,not_false_eq_true,Nat.reduceLT]))) id ?_
  refine Gm.op (o:=⟨some 66,.move (.tmp 12),_,_,_,some (3,true)⟩) (.slice ga xs.length gc) W10 rfl (zbI (i:=3) (b:=true) (d:=64) rfl rfl (by simp only [zaC,zay,zax,hs,k9,k10,k6,k11,k12,k8,ne_eq,Nat.reduceEqDiff,not_false_eq_true,Nat.reduceLT])) (by kernel_rfl) rfl (zdB _ (zaf (by simp only [zaC,zay,zax,hs,k9,k10,k6,k11,k12,k8,ne_eq,Nat.reduceEqDiff,not_false_eq_true,Nat.reduceLT]))) id ?_
  refine Gm.enter (o:=⟨some 67,.call { callee:=.value (.func 32),args:=#[.tmp 65,.tmp 66],argTypes:=#[64,64] },_,_,_,some (3,true)⟩) (c:={ callee:=.value (.func 32),args:=#[.tmp 65,.tmp 66],argTypes:=#[64,64] }) rfl (zbI (i:=3) (b:=true) (d:=64) rfl rfl (by simp only [zaC,zay,zax,hs,k9,k10,k6,k11,k12,k8,ne_eq,Nat.reduceEqDiff,not_false_eq_true,Nat.reduceLT])) rfl rfl (by kernel_rfl) Tryd.func32 ybn (by kernel_rfl) ?_
  have hargs:∀ t:Array Value,t[65]?=some (.slice oa xs.length oc)→t[66]?=some (.slice ga xs.length gc)→(#[Operand.tmp 65,Operand.tmp 66]).map (Fr 9 t []).eval=#[.slice oa xs.length oc,.slice ga xs.length gc]:=fun t h1 h2=>by simp only [List.map_toArray,List.map_cons,List.map_nil,zaf h1,zaf h2]
  dsimp only
  rw [hargs _ (by simp only [zaC,zay,zax,hs,k9,k10,k6,k11,k12,k8,ne_eq,Nat.reduceEqDiff,not_false_eq_true,Nat.reduceLT]) (by simp only [zaC,zay,zax,hs,k9,k10,k6,k11,k12,k8,ne_eq,Nat.reduceEqDiff,not_false_eq_true,Nat.reduceLT]),ycy]
  clear hargs
  refine ybw E _ Arg W0 _ _ _ _ _ oa ga oc gc xs hox hgx (by omega) ?_
  intro W11 hO11
  rw [zbs (o:=⟨some 67,.call { callee:=.value (.func 32),args:=#[.tmp 65,.tmp 66],argTypes:=#[64,64] },_,_,_,some (3,true)⟩) rfl]
  refine Gm.op (o:=⟨some 68,.pick (.tmp 64) (.tmp 67) (.const (.bool false)),_,_,_,none⟩) (.bool true) W11 rfl rfl (by kernel_rfl) rfl (zhJ _ (zaf (by simp only [zaC,zay,zax,hs,k9,k10,k6,k11,k12,k8,ne_eq,Nat.reduceEqDiff,not_false_eq_true,Nat.reduceLT])) (zaf (by simp only [zaC,zay,zax,hs,k9,k10,k6,k11,k12,k8,ne_eq,Nat.reduceEqDiff,not_false_eq_true,Nat.reduceLT]))) id ?_
  refine Gm.op (o:=⟨some 69,.move (.tmp 68),_,_,_,none⟩) (.bool true) W11 rfl rfl (by kernel_rfl) rfl (zdB _ (zaf (by simp only [zaC,zay,zax,hs,k9,k10,k6,k11,k12,k8,ne_eq,Nat.reduceEqDiff,not_false_eq_true,Nat.reduceLT]))) id ?_
  refine Gm.op (o:=⟨some 70,.move (.tmp 6),_,_,_,some (8,true)⟩) (num f) W11 rfl (zbI (i:=8) (b:=true) (d:=69) rfl rfl (by simp only [zaC,zay,zax,hs,k9,k10,k6,k11,k12,k8,ne_eq,Nat.reduceEqDiff,not_false_eq_true,Nat.reduceLT])) (by kernel_rfl) rfl (zdB _ (zaf (by simp only [zaC,zay,zax,hs,k9,k10,k6,k11,k12,k8,ne_eq,Nat.reduceEqDiff,not_false_eq_true,Nat.reduceLT]))) id ?_
  refine Gm.op (o:=⟨some 71,.move (.tmp 8),_,_,_,some (8,true)⟩) (num f) W11 rfl (zbI (i:=8) (b:=true) (d:=69) rfl rfl (by simp only [zaC,zay,zax,hs,k9,k10,k6,k11,k12,k8,ne_eq,Nat.reduceEqDiff,not_false_eq_true,Nat.reduceLT])) (by kernel_rfl) rfl (zdB _ (zaf (by simp only [zaC,zay,zax,hs,k9,k10,k6,k11,k12,k8,ne_eq,Nat.reduceEqDiff,not_false_eq_true,Nat.reduceLT]))) id ?_
  refine Gm.op (o:=⟨some 72,.binOp .eql 37 (.tmp 70) (.tmp 71) 37,_,_,_,some (8,true)⟩) (.bool true) W11 rfl (zbI (i:=8) (b:=true) (d:=69) rfl rfl (by simp only [zaC,zay,zax,hs,k9,k10,k6,k11,k12,k8,ne_eq,Nat.reduceEqDiff,not_false_eq_true,Nat.reduceLT])) (by kernel_rfl) rfl (znX (n:=f) _ (zaf (by simp only [zaC,zay,zax,hs,k9,k10,k6,k11,k12,k8,ne_eq,Nat.reduceEqDiff,not_false_eq_true,Nat.reduceLT])) (zaf (by simp only [zaC,zay,zax,hs,k9,k10,k6,k11,k12,k8,ne_eq,Nat.reduceEqDiff,not_false_eq_true,Nat.reduceLT]))) id ?_
  refine Gm.op (o:=⟨some 73,.pick (.tmp 69) (.tmp 72) (.const (.bool false)),_,_,_,none⟩) (.bool true) W11 rfl rfl (by kernel_rfl) rfl (zhJ _ (zaf (by simp only [zaC,zay,zax,hs,k9,k10,k6,k11,k12,k8,ne_eq,Nat.reduceEqDiff,not_false_eq_true,Nat.reduceLT])) (zaf (by simp only [zaC,zay,zax,hs,k9,k10,k6,k11,k12,k8,ne_eq,Nat.reduceEqDiff,not_false_eq_true,Nat.reduceLT]))) id ?_
  refine Gm.op (o:=⟨some 74,.move (.tmp 73),_,_,_,none⟩) (.bool true) W11 rfl rfl (by kernel_rfl) rfl (zdB _ (zaf (by simp only [zaC,zay,zax,hs,k9,k10,k6,k11,k12,k8,ne_eq,Nat.reduceEqDiff,not_false_eq_true,Nat.reduceLT]))) id ?_
  refine Gm.enter (o:=⟨some 75,.call { callee:=.value (.func 20),args:=#[],argTypes:=#[] },_,_,_,some (13,true)⟩) (c:={ callee:=.value (.func 20),args:=#[],argTypes:=#[] }) rfl (zbI (i:=13) (b:=true) (d:=74) rfl rfl (by simp only [zaC,zay,zax,hs,k9,k10,k6,k11,k12,k8,ne_eq,Nat.reduceEqDiff,not_false_eq_true,Nat.reduceLT])) rfl rfl (by kernel_rfl) Tryd.func20 ziv (by kernel_rfl) ?_
  rw [fr20]
  refine zka E _ Arg W0 hArg _ _ _ _ _ (hg.old (hO10.trans hO11)) ?_
  intro WL FzL φL hOL
  rw [zbs (o:=⟨some 75,.call { callee:=.value (.func 20),args:=#[],argTypes:=#[] },_,_,_,some (13,true)⟩) rfl]
  refine Gm.op (o:=⟨some 76,.pick (.tmp 74) (.tmp 75) (.const (.bool false)),_,_,_,none⟩) (.bool true) WL rfl rfl (by kernel_rfl) rfl (zhJ _ (zaf (by simp only [zaC,zay,zax,hs,k9,k10,k6,k11,k12,k8,ne_eq,Nat.reduceEqDiff,not_false_eq_true,Nat.reduceLT])) (zaf (by simp only [zaC,zay,zax,hs,k9,k10,k6,k11,k12,k8,ne_eq,Nat.reduceEqDiff,not_false_eq_true,Nat.reduceLT]))) id ?_
  refine Gm.op (o:=⟨some 4,.assign (.tmp 76),_,_,_,none⟩) (.bool true) WL rfl rfl (by kernel_rfl) rfl (zl7 _ (zaf (by simp only [zaC,zay,zax,hs,k9,k10,k6,k11,k12,k8,ne_eq,Nat.reduceEqDiff,not_false_eq_true,Nat.reduceLT]))) id ?_
  refine Gm.regionEnd ?_
  refine Gm.done Tryd.func9 (by kernel_rfl) (ya9 (.bool true) _ (by simp only [zaC,zay,zax,hs,k9,k10,k6,k11,k12,k8,ne_eq,Nat.reduceEqDiff,not_false_eq_true,Nat.reduceLT])) ?_
  exact fun ρ D own A fr W' h=>hPost _ ρ D own A fr _ W' h
end Go.Proofs.YtolholkjeehamaaDoor

namespace Go.Proofs.YtolholkjeehamaaDoor
open Go.RowKit Go.Con Go.Conc Go.ChangeShapes Go.WideShapes Go.ChangeAt
local instance:Lone:=zcG
theorem fr9 (a0 a1:Value):#[a0,a1]++Array.replicate (Tryd.f9.ntmps-(#[a0,a1]:Array Value).size) zu=#[a0,a1,zu,zu,zu,zu,zu,zu,zu,zu,zu,zu,zu,zu,zu,zu,zu,zu,zu,zu,zu,zu,zu,zu,zu,zu,zu,zu,zu,zu,zu,zu,zu,zu,zu,zu,zu,zu,zu,zu,zu,zu,zu,zu,zu,zu,zu,zu,zu,zu,zu,zu,zu,zu,zu,zu,zu,zu,zu,zu,zu,zu,zu,zu,zu,zu,zu,zu,zu,zu,zu,zu,zu,zu,zu,zu,zu]:=by
 simp only [Tryd.ntmps9,List.size_toArray,List.length_cons,List.length_nil,Nat.reduceAdd,Nat.reduceSub,Array.replicate_succ,Array.replicate_zero,List.push_toArray,List.append_toArray,List.nil_append,List.cons_append]
theorem yb2 (d:Dit) (r:zaR) (l:Lg) (al:Option Addr) (cap:Nat) (W:World) (hd:DitSl W d r) (hb:d.Big) (hg:Glob W) (hl:(Sl W (.slice al l.ops.length cap) 3 (l.ops.map three))) (hkd:(Kind W (.slice al l.ops.length cap))) (hlb:(l.ops.length≤281474976710656)) :
  Con.Fin Tryd.prog (fun u W'=>u=.bool true∧Con.Left W W') (solo (G (Frame.enter Tryd.prog 9 #[d.val r,.agg #[num l.lo,num l.hi,.slice al l.ops.length cap]] .normal) []) W) #[]:=by
 refine zpy Tryd.func9 yby hg (fun v hv=>?_) fun c Post hPost=>?_
 ·simp only [List.mem_cons,List.not_mem_nil,or_false] at hv
  rcases hv with rfl | rfl
  ·exact hd.same
  ·exact Same.agg fun v hv=>by (simp only [List.mem_cons,List.not_mem_nil,or_false] at hv;rcases hv with rfl | rfl | rfl;exact Same.num _;exact Same.num _;exact Same.slice ⟨_,_,_,rfl⟩ hkd)
 ·rw [fr9]
  exact ycc _ _ _ _ (fun _=>Iff.rfl) Post _ d r l al cap _ hd.entry hb hg.entry (hl.entry (by intro l hl x hx;obtain⟨z,_,rfl⟩:=List.mem_map.1 hl;simp only [three,List.mem_cons,List.not_mem_nil,or_false] at hx;rcases hx with rfl | rfl | rfl<;>exact zgb _)) hlb hkd.entry hPost
theorem ya0 (os:Os) (started:os.Started) (H:Type) (enc:TypeId×Value→H) :
  ReturnsInLeavingWide {} Tryd.checked os 9 .any (fun w args=>(Rows.turnLogsSpec.pre enc Tryd.prog Tryd.f9 [] false w args∧laidMetH Tryd.prog zmo w)∧sizedMet enc Tryd.prog Tryd.f9 (OpenSpec.ofChange Rows.turnLogsSpec) false w args)
   (Rows.turnLogsSpec.post enc Tryd.prog Tryd.f9 false true false false):=by
 refine zdb (C:=Tryd.checked) (X:=fun w _=>laidMetH Tryd.prog zmo w) (fun _ _ _ hh h=>h.of_heap hh) zn6 started Tryd.func9
  (ChangeSpec.witness_shaped (enc:=enc) (C:=Tryd.checked) (os:=os) (X:=fun w _=>laidMetH Tryd.prog zmo w) false (World.doorLaid Tryd.prog 600 os)
   #[.agg #[.slice none 0 0,.slice none 0 0,.int .i64 0,.int .i64 0,.int .i64 0,.int .i64 0,.slice none 0 0,.slice none 0 0,.slice none 0 0,.int .i64 0,.int .i64 0,.int .i64 0,.int .i64 0,.slice none 0 0],.agg #[.int .i64 0,.int .i64 0,.slice none 0 0]] 8 rfl (World.shaped_of_RefB (by kernel_rfl) (by kernel_rfl)) (by kernel_rfl) (by kernel_rfl) (by kernel_rfl) (znv os _)) ?_
 intro W base args ds gs before hval0 hW _ hsz hL
 have hval:∀ (j:Nat) t v,Tryd.f9.params[j]?=some t→args[j]?=some v→Value.okWide Tryd.prog W .any base t v:=hval0
 have hW':=hW
 obtain⟨p,q,hA0,hV,rfl,hfz,hnd⟩:=hW
 have hA:DataW.TrodAll enc Tryd.prog W 0 (fun _=>true) true Tryd.f9.params.toList args.toList ds p:=hA0
 rw [Tryd.params9] at hA hval
 obtain⟨v0,v1,d0,d1,p0,p1,rfl,rfl,rfl,h0,h1⟩:=trodAll_two hA
 obtain⟨rfl,rfl⟩:=trodVars_none hV
 have hfit1:Fits 35 d1:=fun n hn=>by
  have:=List.all_eq_true.1 hsz n (DataW.weights_mem_each (P:=Tryd.prog) (j:=1) (t:=35) (d:=d1) (by rw [show Tryd.checked.prog=Tryd.prog from rfl,Tryd.params9];rfl) rfl n hn)
  simpa using this
 obtain⟨l,al,cap,rfl,hl,hkd,hlb⟩:=ybr (hval 1 35 v1 rfl rfl) h1 hfit1
 have hfit:Fits 31 d0:=fun n hn=>by
  have:=List.all_eq_true.1 hsz n (DataW.weights_mem_each (P:=Tryd.prog) (j:=0) (t:=31) (d:=d0) (by rw [show Tryd.checked.prog=Tryd.prog from rfl,Tryd.params9];rfl) rfl n hn)
  simpa using this
 obtain⟨d,r,rfl,hd,hb⟩:=znp (hval 0 31 v0 rfl rfl) h0 hfit
 clear hA0 hval0
 try simp only [List.append_nil] at hW'
 have hlt:=fun x hx=>hW'.lt x hx
 try simp only [Array.size_empty,Nat.add_zero] at hlt
 refine zoq (yb2 d r l al cap W hd hb (zpA hL) hl hkd hlb) fun W' hl=>?_
 have ha:=trodAll_mk2 (zl8 (by kernel_rfl) (of_decide_eq_true (by kernel_rfl)) h0 hl fun x hx=>hlt x (by simp [hx])) (zl8 (by kernel_rfl) (of_decide_eq_true (by kernel_rfl)) h1 hl fun x hx=>hlt x (by simp [hx]))
 try simp only [List.append_nil] at ha
 exact⟨[d0,d1],[],_,[],_,[],hW',trodAll_mk1 (shut_bool Tryd.underlying4 _),ha,rfl,zl6 hl _,fun h=>by cases h⟩
theorem ybe:Rows.TurnLogsSaid :=
 OpenClaim.holds_of_wide_leaving 9 Tryd.f9 rfl rfl rfl rfl rfl rfl rfl ⟨rfl,rfl,rfl,rfl,rfl⟩ rfl rfl rfl rfl rfl (by kernel_rfl) Tryd.func9 (by kernel_rfl)
  (of_decide_eq_true (by kernel_rfl)) (by unfold Func.isWrapper;first | (rw [if_pos (by decide +kernel)];kernel_rfl) | (rw [if_neg (by decide +kernel)];exact⟨rfl,rfl⟩))
  (fun os started H enc _=>ya0 os started H enc)
theorem logs_card:Rows.TurnLogsCardSaid :=
 zfY .later [] [.funcs,.data] true (true,"13bbfa5877394a3cde13138796d6bb679173f8167c87f9ccc98cd9f3e99a425f") false true
  ybe (fun _ h=>by cases h) (by kernel_rfl) (fun _ h=>by cases h) turnLogs_row_tie rfl ⟨rfl,rfl⟩ (by kernel_rfl) rfl
  (fun f fn hf hfn=>by
   obtain rfl:f=9:=Option.some.inj ((show Tryd.prog.funcNamed "crocus/crocuslaw02.TurnLogs" = some 9 by kernel_rfl).symm.trans hf) |>.symm
   obtain rfl:fn=Tryd.f9:=(Option.some.inj (Tryd.func9.symm.trans hfn)).symm
   exact⟨by kernel_rfl,fun j t ht=>by
    rw [Tryd.params9] at ht
    have hm:t∈[31,35]:=by simpa using Array.mem_of_getElem? ht
    have hall:([31,35].all fun u=>!Tryd.prog.wantsStandIn u)=true:=by kernel_rfl
    exact (show Tryd.prog.wantsStandIn t=false by simpa using List.all_eq_true.1 hall t hm)⟩)
  (by kernel_rfl)
#print axioms logs_card
end Go.Proofs.YtolholkjeehamaaDoor

