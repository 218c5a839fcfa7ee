/- For every ditch, any log and any four bytes the law TurnKnown returns true, does not panic, and leaves its arguments as they were. Conditions: the package's variables hold what the program lays in them at its start (laid), and the arguments are values as the card tells. -/
import Derived.Test.YtolholkjeehamaaDoorR1
import Derived.Test.YtolholkjeehamaaDoorR40
import Derived.Test.YtolholkjeehamaaDoorC39
import Derived.Test.YtolholkjeehamaaDoorC34
import Derived.Test.YtolholkjeehamaaDoorC09
import Derived.WalkKit
import Derived.Test.YtolholkjeehamaaDoorProg
import Derived.OwnWalkIn
import Derived.TacticsInMore
import Derived.RegionIn
import Derived.LoopNIn
import Derived.LoopIn
import Derived.RecoverIn
import Derived.Sort.BigQuietIn
import Derived.Sort.CutIn
import Derived.Handy
import Derived.Maps.OwnIn
import Derived.Maps.OwnSet
import Derived.Maps.RangeWalk
import Derived.Sort.MapsRangeIn
import Derived.Laws.IdiomStrings
import Derived.Lib.Hide
import Derived.Maps.AppendAt
import Derived.Lib.SliceRun
import Derived.RangeFuncNested
import Derived.RangeFuncBound
import Derived.RangeFuncCalls
import Derived.RangeFuncLeaves
import Derived.Shelf.Abstract
import Derived.Shelf.RegionOpen
import Derived.Stop.RegionWithIn
import Derived.Sort.QuietThIn
import Derived.StillTail
import Derived.Conc.SmallLaws
import Derived.Laws.MakeOwn
import Derived.Laws.EntriesVeiled
import Derived.Test.YtolholkjeehamaaDoorChecked
import Derived.ProofKit
import Derived.LaidMore
import Derived.OpenShut
import Derived.Stop.Joined
import Derived.Test.YtolholkjeehamaaDoorTie
import Derived.Test.YtolholkjeehamaaDoorCards
import Derived.Conc.LeavingOf
import Derived.SevenTiedAt
import Derived.Carry
import Derived.Orders
import Derived.Deep.Upon
set_option linter.all false
set_option maxRecDepth 100000
set_option maxHeartbeats 4000000
namespace Go.Proofs.YtolholkjeehamaaDoor
open Go.RowKit
theorem scan_all {α:Type} {f:Nat→α→Int}:∀ {l:List α} {i:Nat},(∀ j x,l[j]?=some x→f (i+j) x=0)→scan f i l=0
 | [],_,_=>rfl
 | y :: l,i,H=>by
  rw [scan,if_pos (by simpa using H 0 y rfl)]
  exact scan_all fun j x h=>by
   have:=H (j+1) x (by simpa using h)
   rwa [show i+(j+1)=i+1+j by omega] at this
end Go.Proofs.YtolholkjeehamaaDoor

namespace Go.Proofs.YtolholkjeehamaaDoor
open Go.RowKit Go.Con Go.Conc Go.ChangeShapes Go.WideShapes Go.ChangeAt
section
variable {H:Type} {enc:TypeId×Value→H} {W:World}
theorem log_open {v:Value} {dd:DataW H} {p:List MemPlace} {base:Nat} (hv:Value.okWide Tryd.prog W .any base 35 v) (h:DataW.Trod enc Tryd.prog W 0 (fun _=>true) true 35 v dd p) (hfit:Fits 35 dd) :
  ∃ (l:Lg) (al:Option Addr) (cap:Nat),v=.agg #[num l.lo,num l.hi,.slice al l.ops.length cap]∧Sl W (.slice al l.ops.length cap) 3 (l.ops.map three)∧Kind W (.slice al l.ops.length cap)∧l.ops.length≤281474976710656:=by
 simp only [Value.okWide,Tryd.underlying35] at hv
 obtain⟨cs,rfl,hsz,ts,hts,_,hcell⟩:=hv
 rw [show Tryd.prog.cellTypes Tryd.prog.depth 35=some [3,3,33] by kernel_rfl] at hts
 cases hts
 rw [show Tryd.prog.cellsOf 35=3 by kernel_rfl] at hsz
 obtain⟨fuel,hf⟩:=h
 simp only [Value.cells] at hf
 obtain⟨xs,m,_,hyy,_,hx,hg⟩:=DataW.trod_struct Tryd.underlying35 hf
 simp only [Prod.mk.injEq] at hyy
 obtain⟨rfl,rfl⟩:=hyy
 have hwt:(DataW.agg (xs.map (·.1)):DataW H).weights Tryd.prog 35=DataW.weightsEach Tryd.prog [28,33] (xs.map (·.1)):=by
  unfold DataW.weights
  rw [Tryd.underlying35]
  rfl
 unfold Fits at hfit
 rw [hwt] at hfit
 have hx0:∀ (i:Nat) (y:DataW H×List MemPlace) (t:TypeId),xs[i]?=some y→([28,33]:List TypeId)[i]?=some t→Fits t y.1:=fun i y t hy ht m hm=>hfit m (DataW.weights_mem_each ht (by rw [List.getElem?_map,hy];rfl) m hm)
 obtain⟨l⟩:=cs
 simp only [List.size_toArray] at hsz
 match l,hsz with
 | [u0,u1,u2],_ =>
  have c33:Tryd.prog.cellsOf 33=1:=by kernel_rfl
  have c28:Tryd.prog.cellsOf 28=2:=by kernel_rfl
  have g0:=hg 0 ⟨ "Clock",28,0,false,"","",0⟩ rfl
  have g1:=hg 1 ⟨ "Openings",33,2,false,"","",16⟩ rfl
  rw [List.getElem?_eq_getElem (by rw [hx];simp)] at g0 g1
  dsimp only at g0 g1
  rw [c28] at g0
  rw [c33] at g1
  simp only [List.drop_succ_cons,List.drop_zero,List.take_succ_cons,List.take_zero] at g0 g1
  have kc:Cell.okWide Tryd.prog W .any base 33 u2:=by
   obtain⟨t',h1,h2⟩:=hcell 2 u2 rfl
   have h3:([3,3,33]:List TypeId)[2 % 3]?=some 33:=rfl
   have e:t'=33:=by
    have:=h1.symm.trans h3
    exact Option.some.inj this
   rw [e] at h2
   exact h2
  obtain⟨ops,a1,a2,a3,a4,a5⟩:=sl_open (en:=three) (ok:=fun _=>True) Tryd.underlying33 (by decide +kernel) (fun n cs' y h hff=>read_three Tryd.underlying59 rfl rfl rfl rfl rfl rfl (by kernel_rfl) h) g1 (hx0 1 _ _ (List.getElem?_eq_getElem _) rfl) kc
  obtain⟨⟨n1,n2⟩,q1,_⟩:=read_two Tryd.underlying28 rfl rfl rfl rfl c28 g0
  simp only [two,List.cons.injEq,and_true] at q1
  obtain⟨rfl,rfl⟩:=q1
  rw [show Tryd.prog.cellsOf 59=3 by kernel_rfl] at a1
  obtain⟨al,cap,e⟩:=a1.cases
  rw [List.length_map] at e
  subst e
  exact⟨⟨n1,n2,ops⟩,al,cap,rfl,a1,a3,Nat.le_trans a4 (by decide)⟩
end
end Go.Proofs.YtolholkjeehamaaDoor

namespace Go.Proofs.YtolholkjeehamaaDoor
open Go.RowKit Go.Con Go.Conc Go.ChangeShapes Go.WideShapes Go.ChangeAt
section
variable {H:Type} {enc:TypeId×Value→H} {W:World}
end
section
variable {H:Type} {enc:TypeId×Value→H} {P:Program} {w:World} {base:Nat} {spare:Nat→Bool} {held:Bool}
theorem trodAll_mk5 {t t1 t2 t3 t4:TypeId} {v v1 v2 v3 v4:Value} {d d1 d2 d3 d4:DataW H} {p p1 p2 p3 p4:List MemPlace} (h:DataW.Trod enc P w base spare held t v d p) (h1:DataW.Trod enc P w base spare held t1 v1 d1 p1)
  (h2:DataW.Trod enc P w base spare held t2 v2 d2 p2) (h3:DataW.Trod enc P w base spare held t3 v3 d3 p3) (h4:DataW.Trod enc P w base spare held t4 v4 d4 p4):DataW.TrodAll enc P w base spare held [t,t1,t2,t3,t4] [v,v1,v2,v3,v4] [d,d1,d2,d3,d4] (p++(p1++(p2++(p3++p4)))):=⟨p,p1++(p2++(p3++p4)),h,trodAll_mk4 h1 h2 h3 h4,rfl⟩
end
end Go.Proofs.YtolholkjeehamaaDoor

namespace Go.Proofs.YtolholkjeehamaaDoor
open Go.RowKit Go.Con Go.Conc
local instance:Lone:=mainL
section
variable {dst:Option Nat} {ty:TypeId} {pos:String} {af:Array Edge} {x y c b o:Nat} {w:World} {gd:Option (Nat×Bool)} (e:Operand→Value)
theorem eqb4_run {n m:Bool} (h:e (.tmp x)=.bool n) (h2:e (.tmp y)=.bool m) (hn:n=m) (τ:Tape):(execOp e ⟨dst,.binOp .eql 4 (.tmp x) (.tmp y) 4,ty,pos,af,gd⟩).run Tryd.prog { w with tape:=τ }=.ok (.value (.bool true)) { w with tape:=τ }:=by
 simp [execOp,go_sem,h,h2,hn]
theorem eqcR3_run {n:Int} (h:e (.tmp x)=num n) (h2:e (.const (.int .i64 n))=num n) (τ:Tape):(execOp e ⟨dst,.binOp .eql 3 (.tmp x) (.const (.int .i64 n)) 3,ty,pos,af,gd⟩).run Tryd.prog { w with tape:=τ }=.ok (.value (.bool true)) { w with tape:=τ }:=by
 simp [execOp,go_sem,h,h2]
theorem eqcR37_run {n:Int} (h:e (.tmp x)=num n) (h2:e (.const (.int .i64 n))=num n) (τ:Tape):(execOp e ⟨dst,.binOp .eql 37 (.tmp x) (.const (.int .i64 n)) 37,ty,pos,af,gd⟩).run Tryd.prog { w with tape:=τ }=.ok (.value (.bool true)) { w with tape:=τ }:=by
 simp [execOp,go_sem,h,h2]
end
end Go.Proofs.YtolholkjeehamaaDoor

namespace Go.Proofs.YtolholkjeehamaaDoor
open Go.RowKit
theorem hoursL_mem (n:Nat) (a x:Int):x∈hoursL a n↔a≤x∧x<a+n:=by
 unfold hoursL
 rw [List.mem_map]
 constructor
 ·rintro ⟨i,hi,rfl⟩
  rw [List.mem_range] at hi
  omega
 ·intro h
  exact⟨(x-a).toNat,List.mem_range.2 (by omega),by omega⟩
theorem out_iff {d:Dit} {holder a b c:Int} (h:a≤b):d.out holder a b c=true↔∃ x,(a+c≤x∧x<b+c)∧(d.owner x).1≠holder:=by
 unfold Dit.out
 rw [List.any_eq_true]
 constructor
 ·rintro ⟨x,hx,h1⟩
  rw [hoursL_mem] at hx
  exact⟨x,by omega,by simpa using h1⟩
 ·rintro ⟨x,hx,h1⟩
  exact⟨x,(hoursL_mem ..).2 (by omega),by simpa using h1⟩
def outI (d:Dit) (l:Lg) (n:Int) (i:Nat):Bool:=match l.ops[i]? with | some o=>d.out o.1 o.2.1 o.2.2 n | none=>false
theorem cntI_eq (d:Dit) (l:Lg) (n:Int) (i:Nat):∀ k,cntI (outL d l n k) i=if i<k∧outI d l n i=true then 1 else 0
 | 0=>by simp [outL,cntI]
 | k+1=>by
  have ih:=cntI_eq d l n i k
  have hc:cntI (outL d l n (k+1)) i=cntI (outL d l n k) i+(if outI d l n k=true∧i=k then 1 else 0):=by
   have e:outL d l n (k+1)=outL d l n k++(match l.ops[k]? with | some o=>if d.out o.1 o.2.1 o.2.2 n then [(k:Int)] else [] | none=>[]):=rfl
   rw [e]
   unfold cntI outI
   rw [List.count_append]
   cases l.ops[k]? with
   | none=>simp
   | some o =>
    dsimp only
    by_cases ho:d.out o.1 o.2.1 o.2.2 n=true
    ·rw [if_pos ho,List.count_singleton]
     by_cases hik:i=k
     ·subst hik;simp [ho]
     ·have:((k:Int) == (i:Int))=false:=by simp;omega
      simp [this,hik]
    ·rw [if_neg ho]
     simp [ho]
  rw [hc,ih]
  by_cases hik:i=k
  ·subst hik
   simp
  ·have e1:(i<k+1∧outI d l n i=true)↔(i<k∧outI d l n i=true):=by
    constructor<;>rintro ⟨a,b⟩<;>exact⟨by omega,b⟩
   rw [if_neg (show ¬ (outI d l n k=true∧i=k) from fun h=>hik h.2),Int.add_zero]
   simp only [e1]
theorem manyF_all (d:Dit) (l:Lg) (i:Nat):∀ L:List Nat,(manyF d l L i=L.length↔∀ k∈L,cntI (outL d l (l.lo+k) l.ops.length) i=1)∧(manyF d l L i=0↔∀ k∈L,cntI (outL d l (l.lo+k) l.ops.length) i=0)
 | []=>by simp [manyF]
 | k :: L=>by
  obtain⟨h1,h2⟩:=manyF_all d l i L
  have h3:=manyF_bd d l i L
  have h4:=cntI_bd d l (l.lo+k) i l.ops.length
  have h5:0≤cntI (outL d l (l.lo+k) l.ops.length) i∧cntI (outL d l (l.lo+k) l.ops.length) i≤1:=by split at h4<;>omega
  simp only [manyF,List.length_cons,List.forall_mem_cons,← h1,← h2]
  constructor<;>omega
theorem kks_in:∀ (n k:Nat),k∈kks n↔k<n
 | 0,k=>by simp [kks]
 | n+1,k=>by simp [kks,kks_in n k];omega
theorem belL_get (all:Int) (f:Nat→Int):∀ (k i:Nat),i<k→(belL all f k)[i]?=some (belS all (f i))
 | k+1,i,h=>by
  have hl:=belL_len all f k
  unfold belL
  by_cases e:i=k
  ·subst e
   rw [List.getElem?_append_right (by omega),hl]
   simp
  ·rw [List.getElem?_append_left (by omega)]
   exact belL_get all f k i (by omega)
structure BelOk (d:Dit) (l:Lg) (o:Int×Int×Int) (b:Int):Prop where
 one:b=0∨b=1∨b=2
 sure:b=1↔∀ c,l.lo≤c→c≤l.hi→d.out o.1 o.2.1 o.2.2 c=true
 never:b=2↔∀ c,l.lo≤c→c≤l.hi→d.out o.1 o.2.1 o.2.2 c=false
theorem judge_law {d:Dit} {l:Lg} (h:logS d l=0):(judgeF d l).2=0∧(judgeF d l).1.length=l.ops.length∧∀ (i:Nat) o,l.ops[i]?=some o→∃ b,(judgeF d l).1[i]?=some b∧BelOk d l o b:=by
 obtain⟨hL,hcl⟩:=log_ok h
 have e:judgeF d l=(belL (capN l) (manyF d l (kks (capN l))) l.ops.length,0):=by unfold judgeF;rw [if_neg (by simp [h])]
 rw [e]
 refine⟨rfl,belL_len ..,fun i o ho=>⟨_,belL_get _ _ _ _ (List.getElem?_eq_some_iff.1 ho).1,?_⟩⟩
 have hil:=(List.getElem?_eq_some_iff.1 ho).1
 obtain⟨h1,h2⟩:=manyF_all d l i (kks (capN l))
 rw [kks_len] at h1
 have hcap:(capN l:Int)=l.hi-l.lo+1:=by unfold capN;omega
 have hi:∀ n,outI d l n i=d.out o.1 o.2.1 o.2.2 n:=fun n=>by unfold outI;rw [ho]
 have hk1:manyF d l (kks (capN l)) i=capN l↔∀ c,l.lo≤c→c≤l.hi→d.out o.1 o.2.1 o.2.2 c=true:=by
  rw [h1]
  constructor
  ·intro H c c1 c2
   have:=H (c-l.lo).toNat ((kks_in ..).2 (by omega))
   rw [cntI_eq,show l.lo+((c-l.lo).toNat:Int)=c by omega,hi] at this
   split at this
   ·rename_i g;exact g.2
   ·cases this
  ·intro H k hk
   rw [kks_in] at hk
   rw [cntI_eq,hi,if_pos ⟨hil,H _ (by omega) (by omega)⟩]
 have hk2:manyF d l (kks (capN l)) i=0↔∀ c,l.lo≤c→c≤l.hi→d.out o.1 o.2.1 o.2.2 c=false:=by
  rw [h2]
  constructor
  ·intro H c c1 c2
   have:=H (c-l.lo).toNat ((kks_in ..).2 (by omega))
   rw [cntI_eq,show l.lo+((c-l.lo).toNat:Int)=c by omega,hi] at this
   split at this
   ·cases this
   ·rename_i g
    cases hb:d.out o.1 o.2.1 o.2.2 c with
    | false=>rfl
    | true=>exact absurd ⟨hil,hb⟩ g
  ·intro H k hk
   rw [kks_in] at hk
   rw [cntI_eq,hi,if_neg (by rw [H _ (by omega) (by omega)];simp)]
 generalize manyF d l (kks (capN l)) i=m at hk1 hk2 ⊢
 unfold belS
 refine⟨?_,?_,?_⟩
 ·split
  ·exact .inr (.inl rfl)
  ·split
   ·exact .inr (.inr rfl)
   ·exact .inl rfl
 ·rw [← hk1]
  split
  ·rename_i g;simp [g]
  ·split<;>rename_i g1 g2<;>simp [g1]
 ·rw [← hk2]
  split
  ·rename_i g
   subst g
   constructor
   ·intro h;cases h
   ·intro h;omega
  ·split<;>rename_i g1 g2<;>simp [g2]
theorem known_law {d:Dit} {l:Lg} {a b:Int} (h:logS d l=0) (ha:l.lo≤a∧a≤b∧b≤l.hi):logS d ⟨a,b,l.ops⟩=0 ∧
  ∀ (i:Nat) o x y,l.ops[i]?=some o→BelOk d l o x→BelOk d ⟨a,b,l.ops⟩ o y→x≠0→y=x:=by
 obtain⟨hL,hcl⟩:=log_ok h
 refine⟨?_,fun i o x y ho hx hy h0=>?_⟩
 ·unfold logS at h ⊢
  split at h
  ·rename_i g;exact absurd h g
  rename_i g
  rw [if_neg g,if_neg (by show ¬ ¬ (-100≤a∧a≤b∧b≤100);omega)]
  split at h
  ·cases h
  rename_i g2
  show (if l.ops.length > 20 then 2 else scan (openF d.holders.length) 0 l.ops)=0
  rw [if_neg g2]
  exact h
 ·rcases hx.one with e | e | e
  ·exact absurd e h0
  ·rw [e]
   exact hy.sure.2 fun c c1 c2=>hx.sure.1 e c (by have:a≤c:=c1;omega) (by have:c≤b:=c2;omega)
  ·rw [e]
   exact hy.never.2 fun c c1 c2=>hx.never.1 e c (by have:a≤c:=c1;omega) (by have:c≤b:=c2;omega)
theorem out_split {d:Dit} {holder a m b c:Int} (h:a≤m∧m≤b):d.out holder a b c=(d.out holder a m c || d.out holder m b c):=by
 rw [Bool.eq_iff_iff,Bool.or_eq_true,out_iff (by omega),out_iff (by omega),out_iff (by omega)]
 constructor
 ·rintro ⟨x,hx,h1⟩
  by_cases hm:x<m+c
  ·exact .inl ⟨x,by omega,h1⟩
  ·exact .inr ⟨x,by omega,h1⟩
 ·rintro (⟨x,hx,h1⟩ | ⟨x,hx,h1⟩)<;>exact⟨x,by omega,h1⟩
theorem split_law {d:Dit} {l:Lg} {n m:Int} {k:Nat} {o:Int×Int×Int} (h:logS d l=0) (hn:l.lo≤n∧n≤l.hi) (ho:l.ops[k]?=some o) (hm:o.2.1<m∧m<o.2.2) :
  logS d ⟨n,n,[o,(o.1,o.2.1,m),(o.1,m,o.2.2)]⟩=0 ∧
  ∀ x y z,BelOk d ⟨n,n,[o,(o.1,o.2.1,m),(o.1,m,o.2.2)]⟩ o x→BelOk d ⟨n,n,[o,(o.1,o.2.1,m),(o.1,m,o.2.2)]⟩ (o.1,o.2.1,m) y→BelOk d ⟨n,n,[o,(o.1,o.2.1,m),(o.1,m,o.2.2)]⟩ (o.1,m,o.2.2) z→(x=1↔y=1∨z=1):=by
 obtain⟨hL,hcl⟩:=log_ok h
 have hop:=hL.op k o ho
 refine⟨?_,fun x y z hx hy hz=>?_⟩
 ·have hc:checkS d=0:=by
   unfold logS at h
   split at h
   ·rename_i g;exact absurd h g
   ·rename_i g;exact Decidable.not_not.1 g
  unfold logS
  rw [if_neg (by simp [hc]),if_neg (by show ¬ ¬ (-100≤n∧n≤n∧n≤100);omega),if_neg (by show ¬ 3 > 20;omega)]
  have hz:∀ (i:Nat) (a b:Int),(0≤a∧a≤999999999)→(0≤b∧b≤999999999)→a<b→b-a≤50→openF d.holders.length i (o.1,a,b)=0:=fun i a b g1 g2 g3 g4=>by
   unfold openF
   rw [if_pos hop.1,if_pos ⟨g1,g2⟩,if_neg (by show ¬ b≤a;omega),if_neg (by show ¬ b-a > 50;omega)]
  refine scan_all fun j x hx=>?_
  match j,hx with
  | 0,hx =>
   obtain rfl:=Option.some.inj hx
   obtain⟨a1,a2,a3,a4,a5⟩:=hop
   exact hz 0 o.2.1 o.2.2 a2 a3 a4 a5
  | 1,hx=>obtain rfl:=Option.some.inj hx;exact hz _ _ _ (by omega) (by omega) (by omega) (by omega)
  | 2,hx=>obtain rfl:=Option.some.inj hx;exact hz _ _ _ (by omega) (by omega) (by omega) (by omega)
 ·have hs:=out_split (d:=d) (holder:=o.1) (a:=o.2.1) (m:=m) (b:=o.2.2) (c:=n) (by omega)
  have one:∀ {p:Int×Int×Int} {x:Int},BelOk d ⟨n,n,[o,(o.1,o.2.1,m),(o.1,m,o.2.2)]⟩ p x→(x=1↔d.out p.1 p.2.1 p.2.2 n=true):=fun {p x} hp=>by
   rw [hp.sure]
   constructor
   ·intro H;exact H n (Int.le_refl _) (Int.le_refl _)
   ·intro H c c1 c2
    obtain rfl:c=n:=Int.le_antisymm c2 c1
    exact H
  rw [one hx,one hy,one hz,hs,Bool.or_eq_true]
end Go.Proofs.YtolholkjeehamaaDoor

namespace Go.Proofs.YtolholkjeehamaaDoor
open Go.RowKit
theorem one28_any (a b n:Int) (w:World) (hab : -1000000000≤a∧a≤b∧b≤1000000000) (hn:0≤n∧n≤1000000) :
  CallsIn FL 0 Tryd.prog 28 #[.agg #[num a,num b],num n] w fun e w'=>e=.returned (num (a+n % (b-a+1)))∧Nx w w':=by
 generalize hW:w.alloc (.cells #[.int .i64 a,.int .i64 b] 28)=W
 have nW:Nx w W:=by rw [← hW];exact (Below.refl _ _).alloc (Nat.le_refl _) _
 have c0:W.cell? ⟨w.heap.size,0,none⟩=some (num a):=by rw [← hW];exact cell_new _ _ _ _ _ rfl
 have c1:W.cell? ⟨w.heap.size,1,none⟩=some (num b):=by rw [← hW];exact cell_new _ _ _ _ _ rfl
 have hm:0≤n % (b-a+1)∧n % (b-a+1)<b-a+1:=⟨Int.emod_nonneg _ (by omega),Int.emod_lt_of_pos _ (by omega)⟩
 have hz:b-a+1≠0:=by omega
 have hne:(b-a+1 == 0)=false:=by simpa using hz
 have h1 : -9223372036854775808≤b-a∧b-a≤9223372036854775807:=by omega
 have h2 : -9223372036854775808≤b-a+1∧b-a+1≤9223372036854775807:=by omega
 have h3 : -9223372036854775808≤n % (b-a+1)∧n % (b-a+1)≤9223372036854775807:=by omega
 have h4 : -9223372036854775808≤a+n % (b-a+1)∧a+n % (b-a+1)≤9223372036854775807:=by omega
 gi_enter Tryd.func28,Tryd.ntmps28
 gi_upto_region 1 with fail
 gi_big_quiet_th (fail)
 gi_wp2
 go_ret
 exact⟨rfl,Nx.drewN nW _⟩
theorem checklog27_any (d:Dit) (r:Rows6) (l:Lg) (v:Value) (w:World) (hd:DitSl w d r) (hs:d.Small) (hl:Sl w v 3 (l.ops.map three)) (hls:l.ops.length≤1000000000) :
  CallsIn FL 0 Tryd.prog 27 #[d.val r,.agg #[num l.lo,num l.hi,v]] w fun e w'=>e=.returned (num (logS d l))∧Nx w w':=by
 obtain⟨a,cap,rfl⟩:=hl.cases
 rw [List.length_map] at hl ⊢
 obtain⟨W,hW,n0,hWs,cW⟩:=boxed w d r
 generalize hY:W.alloc (.cells #[num l.lo,num l.hi,.slice a l.ops.length cap] 35)=Y
 have sY:Y.heap.size=w.heap.size+1+1:=by rw [← hY];simp [hWs]
 have nY:Nx W Y:=by rw [← hY];exact alloc_nx (Below.refl _ _) _
 have nwY:Nx w Y:=Nx.trans n0 nY
 have cq:∀ w1,Nx Y w1→w1.cell? ⟨w.heap.size+1,0,none⟩=some (num l.lo)∧w1.cell? ⟨w.heap.size+1,1,none⟩=some (num l.hi)∧w1.cell? ⟨w.heap.size+1,2,none⟩=some (.slice a l.ops.length cap):=by
  intro w1 n1
  have k:∀ i u,#[num l.lo,num l.hi,.slice a l.ops.length cap][i]?=some u→w1.cell? ⟨w.heap.size+1,i,none⟩=some u:=fun i u h =>
   (n1.cell (p:=⟨w.heap.size+1,i,none⟩) (by show w.heap.size+1<_;omega)).trans (by rw [← hY,← hWs];exact cell_new _ _ _ _ _ h)
  exact⟨k 0 _ rfl,k 1 _ rfl,k 2 _ rfl⟩
 obtain⟨c0,c1,c2,c3,c4,c5,c6,c7,c8,c9,c10,c11,c12,c13⟩:=cells14 (cW _ nY)
 obtain⟨ah,caph,eh⟩:=hd.holders.cases
 rw [List.length_map] at eh
 have CH:=Lib.hid (show ∀ w2,Nx Y w2→w2.cell? ⟨w.heap.size,0,none⟩=some (.slice ah d.holders.length caph) from fun w2 o=>(cW w2 (Nx.trans nY o) 0 r.h rfl).trans (by rw [eh]))
 have k25:=check25_any d r Y (hd.nx nwY) hs
 have hhl:=hs.h
 clear eh
 by_cases hc:checkS d=0
 ·rw [hc] at k25
  by_cases hi : -100≤l.lo∧l.lo≤l.hi∧l.hi≤100
  ·have k70:=fun w1=>mono_tt (inside70_any l.lo l.hi (-100) 100 w1) hi
   by_cases hn:20<l.ops.length
   ·have HA:Hid (logS d l=2):=by show _=_;unfold logS;rw [if_neg (by simp [hc]),if_neg (by simpa using hi),if_pos hn]
    have b1:decide ((l.ops.length:Int) > 20)=true:=by simp;omega
    clear hc cW hl
    gi_enter Tryd.func27,Tryd.ntmps27
    gi_wp2_with (first
     | (gi_at_call 25;refine CallsIn.mono k25 ?_;rintro e w1 ⟨rfl,n1⟩;obtain⟨q0,q1,q2⟩:=cq _ n1)
     | (gi_at_call 70;refine CallsIn.mono (k70 _) ?_;rintro e w2 ⟨rfl,n2⟩;obtain⟨p0,p1,p2⟩:=cq _ (Nx.trans n1 n2))
     | gi_in)
    go_ret
    exact⟨by rw [HA.out];rfl,Nx.trans nwY (Nx.trans n1 n2)⟩
   ·have HL:Hid (logS d l=scan (openF d.holders.length) 0 l.ops):=by show _=_;unfold logS;rw [if_neg (by simp [hc]),if_neg (by simpa using hi),if_neg hn]
    have b1:decide ((l.ops.length:Int) > 20)=false:=by simp;omega
    clear hc cW
    gi_enter Tryd.func27,Tryd.ntmps27
    gi_upto_region 8 with (first
     | (gi_at_call 25;refine CallsIn.mono k25 ?_;rintro e w1 ⟨rfl,n1⟩;obtain⟨q0,q1,q2⟩:=cq _ n1)
     | (gi_at_call 70;refine CallsIn.mono (k70 _) ?_;rintro e w2 ⟨rfl,n2⟩;obtain⟨p0,p1,p2⟩:=cq _ (Nx.trans n1 n2))
     | gi_in)
    have n12:=Nx.trans n1 n2
    have hl2:Sl w2 (.slice a l.ops.length cap) 3 (l.ops.map three):=hl.nx (Nx.trans nwY n12)
    clear hl q0 q1 q2 p0 p1 p2 k25 k70 c0 c1 c2 c3 c4 c5 c6 c7 c8 c9 c10 c11 c12 c13
    gi_wp2
    gi_loopw [6] (fun i wr=>∃ k:Nat,k≤l.ops.length∧i=num k∧(scan (openF d.holders.length) 0 l.ops=scan (openF d.holders.length) k (l.ops.drop k))∧Nx w2 wr) (fun i _=>l.ops.length-(intOf i).toNat)
    case atStart=>exact⟨0,Nat.zero_le _,rfl,rfl,Below.refl _ _⟩
    case round =>
     obtain⟨k,hk,rfl,hsc,nr⟩:=hrel
     obtain⟨q0,q1,q2⟩:=cq _ (Nx.trans n12 nr)
     have ch0:=CH.out _ (Nx.trans n12 nr)
     by_cases hlt:k<l.ops.length
     ·obtain⟨b,off,ha,hbl,hcl⟩:=hl2.get (by simp;omega)
      subst ha
      have hx:l.ops[k]?=some l.ops[k]:=List.getElem?_eq_getElem hlt
      generalize hxk:l.ops[k]=x at hx
      clear hxk
      obtain⟨x1,x2,x3⟩:=x
      obtain⟨g1,g2,g3⟩:=Sl.at3 hcl nr hbl hx
      have HG:=Lib.hid fun h0=>scan_go hx h0 hsc
      have HS:=Lib.hid fun h0=>scan_stop hx h0 hsc
      have nr1:∀ o,Nx w2 (wr.alloc o):=fun o=>alloc_nx nr o
      have ch1:(wr.alloc (.cells #[.int .i64 x1,.int .i64 x2,.int .i64 x3] 59)).cell? ⟨w.heap.size,0,none⟩=some (.slice ah d.holders.length caph):=CH.out _ (Nx.trans n12 (nr1 _))
      have tH:∀ w1,CallsIn FL 0 Tryd.prog 71 #[num x1,num 0,num ((d.holders.length:Int)-1)] w1 _:=fun w1=>in_any x1 0 (d.holders.length-1) w1
      have t1:∀ w1,CallsIn FL 0 Tryd.prog 71 #[num x2,num 0,num 999999999] w1 _:=fun w1=>in_any x2 0 999999999 w1
      have t2:∀ w1,CallsIn FL 0 Tryd.prog 71 #[num x3,num 0,num 999999999] w1 _:=fun w1=>in_any x3 0 999999999 w1
      have hfx:openF d.holders.length k (x1,x2,x3)=if 0≤x1∧x1≤(d.holders.length:Int)-1 then (if (0≤x2∧x2≤999999999)∧(0≤x3∧x3≤999999999) then (if x3≤x2 then 7 else if x3-x2 > 50 then 8 else 0) else 1) else 6:=rfl
      clear hsc hcl hx hl2 hW hY
      have bad:∀ {c:Int},openF d.holders.length k (x1,x2,x3)=c→c≠0→Hid (logS d l=c):=fun {c} h h0=>by
       show _=_;rw [HL.out,HS.out (by rw [h];exact h0),h]
      by_cases hh:0≤x1∧x1≤(d.holders.length:Int)-1
      ·have tH:=fun w1=>mono_tt (tH w1) hh
       rw [if_pos hh] at hfx
       by_cases p1:0≤x2∧x2≤999999999
       ·have t1:=fun w1=>mono_tt (t1 w1) p1
        by_cases p2:0≤x3∧x3≤999999999
        ·have t2:=fun w1=>mono_tt (t2 w1) p2
         rw [if_pos ⟨p1,p2⟩] at hfx
         by_cases p3:x3≤x2
         ·rw [if_pos p3] at hfx
          have HF:=bad hfx (by decide)
          have b2:decide (x3≤x2)=true:=decide_eq_true p3
          clear HG HS hfx bad hh
          gi_wp2_with (first
           | (gi_at_call 71;(first | (with_reducible refine CallsIn.mono (tH _) ?_) | (with_reducible refine CallsIn.mono (t1 _) ?_) | (with_reducible refine CallsIn.mono (t2 _) ?_));rintro e w3 ⟨rfl,rfl⟩)
           | gi_in)
          go_ret
          exact⟨by rw [HF.out];rfl,Nx.trans nwY (Nx.trans n12 (nr1 _))⟩
         ·rw [if_neg p3] at hfx
          have b2:decide (x3≤x2)=false:=decide_eq_false p3
          by_cases p4:x3-x2 > 50
          ·rw [if_pos p4] at hfx
           have HF:=bad hfx (by decide)
           have b3:decide (x3-x2 > 50)=true:=decide_eq_true p4
           clear HG HS hfx bad hh
           gi_wp2_with (first
            | (gi_at_call 71;(first | (with_reducible refine CallsIn.mono (tH _) ?_) | (with_reducible refine CallsIn.mono (t1 _) ?_) | (with_reducible refine CallsIn.mono (t2 _) ?_));rintro e w3 ⟨rfl,rfl⟩)
            | gi_in)
           go_ret
           exact⟨by rw [HF.out];rfl,Nx.trans nwY (Nx.trans n12 (nr1 _))⟩
          ·rw [if_neg p4] at hfx
           have hz:=Lib.hid (HG.out hfx)
           have b3:decide (x3-x2 > 50)=false:=decide_eq_false p4
           clear HG HS hfx bad hh
           gi_wp2_with (first
            | (gi_at_call 71;(first | (with_reducible refine CallsIn.mono (tH _) ?_) | (with_reducible refine CallsIn.mono (t1 _) ?_) | (with_reducible refine CallsIn.mono (t2 _) ?_));rintro e w3 ⟨rfl,rfl⟩)
            | gi_in)
           exact⟨⟨k+1,hlt,by simp,hz.out,nr1 _⟩,by simp [intOf];omega⟩
        ·have t2:=fun w1=>mono_ff (t2 w1) p2
         rw [if_neg fun h=>p2 h.2] at hfx
         have HF:=bad hfx (by decide)
         clear HG HS hfx bad hh
         gi_wp2_with (first
          | (gi_at_call 71;(first | (with_reducible refine CallsIn.mono (tH _) ?_) | (with_reducible refine CallsIn.mono (t1 _) ?_) | (with_reducible refine CallsIn.mono (t2 _) ?_));rintro e w3 ⟨rfl,rfl⟩)
          | gi_in)
         go_ret
         exact⟨by rw [HF.out];rfl,Nx.trans nwY (Nx.trans n12 (nr1 _))⟩
       ·have t1:=fun w1=>mono_ff (t1 w1) p1
        rw [if_neg fun h=>p1 h.1] at hfx
        have HF:=bad hfx (by decide)
        clear HG HS hfx bad hh
        gi_wp2_with (first
         | (gi_at_call 71;(first | (with_reducible refine CallsIn.mono (tH _) ?_) | (with_reducible refine CallsIn.mono (t1 _) ?_) | (with_reducible refine CallsIn.mono (t2 _) ?_));rintro e w3 ⟨rfl,rfl⟩)
         | gi_in)
        go_ret
        exact⟨by rw [HF.out];rfl,Nx.trans nwY (Nx.trans n12 (nr1 _))⟩
      ·have tH:=fun w1=>mono_ff (tH w1) hh
       rw [if_neg hh] at hfx
       have HF:=bad hfx (by decide)
       clear HG HS hfx bad
       gi_wp2_with (first
        | (gi_at_call 71;(first | (with_reducible refine CallsIn.mono (tH _) ?_) | (with_reducible refine CallsIn.mono (t1 _) ?_) | (with_reducible refine CallsIn.mono (t2 _) ?_));rintro e w3 ⟨rfl,rfl⟩)
        | gi_in)
       go_ret
       exact⟨by rw [HF.out];rfl,Nx.trans nwY (Nx.trans n12 (nr1 _))⟩
     ·obtain rfl:k=l.ops.length:=by omega
      have hz:=Lib.hid (scan_end hsc)
      clear hl2 hsc
      gi_wp2
      go_ret
      exact⟨by rw [HL.out,hz.out];rfl,Nx.trans nwY (Nx.trans n12 nr)⟩
  ·have HA:Hid (logS d l=1):=by show _=_;unfold logS;rw [if_neg (by simp [hc]),if_pos hi]
   have k70:=fun w1=>mono_ff (inside70_any l.lo l.hi (-100) 100 w1) hi
   clear hc cW hl hi
   gi_enter Tryd.func27,Tryd.ntmps27
   gi_wp2_with (first
    | (gi_at_call 25;refine CallsIn.mono k25 ?_;rintro e w1 ⟨rfl,n1⟩;obtain⟨q0,q1,q2⟩:=cq _ n1)
    | (gi_at_call 70;refine CallsIn.mono (k70 _) ?_;rintro e w2 ⟨rfl,n2⟩)
    | gi_in)
   go_ret
   exact⟨by rw [HA.out];rfl,Nx.trans nwY (Nx.trans n1 n2)⟩
 ·have HA:Hid (logS d l=checkS d):=by show _=_;unfold logS;rw [if_pos hc]
  have hb:(checkS d != 0)=true:=by simpa using hc
  generalize checkS d=ck at *
  clear hc cW hl
  gi_enter Tryd.func27,Tryd.ntmps27
  gi_wp2_with (first
   | (gi_at_call 25;refine CallsIn.mono k25 ?_;rintro e w1 ⟨rfl,n1⟩)
   | gi_in)
  go_ret
  exact⟨by rw [HA.out];rfl,Nx.trans nwY n1⟩
end Go.Proofs.YtolholkjeehamaaDoor

namespace Go.Proofs.YtolholkjeehamaaDoor
open Go.RowKit Go.Con Go.Conc
local instance:Lone:=mainL
theorem al2' {w W:World} {o1 o2:Obj} (h:(w.alloc o1).alloc o2=W):Old w W∧W.heap.size=w.heap.size+2∧W.heap[w.heap.size]?=some o1∧W.heap[w.heap.size+1]?=some o2:=by
 obtain⟨h1,h2,h3,h4⟩:=al2 h
 exact⟨.nx h4,h3,h1,h2⟩
end Go.Proofs.YtolholkjeehamaaDoor

namespace Go.Con
open Go Go.Conc
def dstOf (ops:Array Oper) (i:Nat):Option Tmp:=(ops[i]?).bind (·.dst)
def edgeTo (ops:Array Oper) (i j:Nat):Bool:=((ops[i]?).map fun o=>o.after.any fun e=>Region.binds .any e && e.on == j).getD false
def neatOps (ops:Array Oper) (n:Nat):Bool :=
 (List.range ops.size).all fun i=>((dstOf ops i).any fun d=>decide (d<n) && (List.range i).all fun j=>dstOf ops j != some d) && ((ops[i]?).any fun o=>o.after.all fun e=>!Region.binds .any e || decide (e.on<i))
def freeOf (ops:Array Oper) (d:Tmp):Bool:=(List.range ops.size).all fun i=>dstOf ops i != some d
theorem dstOf_lt {ops:Array Oper} {i d:Nat} (h:dstOf ops i=some d):i<ops.size:=by
 unfold dstOf at h
 rcases Nat.lt_or_ge i ops.size with g | g
 ·exact g
 ·rw [Array.getElem?_eq_none g] at h;cases h
theorem freeOf_spec {ops:Array Oper} {d:Tmp} (h:freeOf ops d=true) (i:Nat):dstOf ops i≠some d:=by
 intro hi
 unfold freeOf at h
 rw [List.all_eq_true] at h
 have:=h i (List.mem_range.2 (dstOf_lt hi))
 simp [hi] at this
structure AnySt (ops:Array Oper) (vs:Nat→Value) (t0:Array Value) (listed:Array Bool) (t:Array Value):Prop where
 size:t.size=t0.size
 got:∀ i d,listed.getD i true=true→dstOf ops i=some d→t[d]?=some (vs i)
 old:∀ d,freeOf ops d=true→t[d]?=t0[d]?
section
variable [Lone]
variable {P:Program} {maps:Bool} {E Arg:Nat→Prop} {W0:World} {f:FuncId} {k:List Item} {cs:List Frame}
variable {Q:(Nat→Prop)→(Nat→Prop)→Goroutine→World→Prop} {pend:List Nat}
theorem Gm.draw {Fz:Nat→Prop} {φ:Ph} {t:Array Value} {W:World} {id:Nat} {ops:Array Oper} (hm:P.follows .mixedOrders=true) (hg:∀ n,GoM P maps E Fz Arg W0 Q φ pend (Fr f t (.inRegion ops (Region.linearise .any ops n) :: k)) cs { W with drawn:=W.drawn+1 }):GoM P maps E Fz Arg W0 Q φ pend (Fr f t (.code (.region id ops true) :: k)) cs W:=by
 refine GoM.step (fun σ R=>?_) ⟨fun it t' e=>?_,.inl rfl,fun d hdm=>(List.not_mem_nil hdm).elim,.inl rfl⟩ fun τ hτ=>?_
 ·unfold frameSem runSem renFrame
  dsimp only [Fr]
  simp only [List.map_cons,renItem,Bool.not_true,Bool.false_eq_true,if_false]
  refine sr_bind (info_choose _).sr ?_
  rintro n _ rfl
  exact sr_pure rfl
 ·cases e
  rfl
 ·refine⟨Fr f t (.inRegion ops (Region.linearise .any ops (τ W.drawn (.order f id))) :: k),cs,{ W with tape:=τ,drawn:=W.drawn+1 },?_,fun h=>h,?_⟩
  ·unfold frameSem runSem
   dsimp only [Fr]
   simp only [Bool.not_true,Bool.false_eq_true,if_false,Region.schedule,hm,Bool.true_or,if_true]
   rfl
  ·exact Gm.tape (hg _)
theorem all_listed {ops:Array Oper} {n:Nat} (hn:neatOps ops n=true) {listed:Array Bool} (hr:Region.ready .any ops listed=[]) (i:Nat) (hi:i<ops.size):listed.getD i true=true:=by
 induction i using Nat.strongRecOn with
 | _ i ih =>
  cases hc:listed.getD i true with
  | true=>rfl
  | false =>
  exfalso
  have ho:ops[i]?=some ops[i]:=Array.getElem?_eq_getElem hi
  have:i∈Region.ready .any ops listed:=by
   rw [mem_ready]
   refine⟨hc,_,ho,fun e he hb=>?_⟩
   unfold neatOps at hn
   rw [List.all_eq_true] at hn
   have h1:=hn i (List.mem_range.2 hi)
   rw [Bool.and_eq_true] at h1
   have h2:=h1.2
   rw [ho,Option.any_some,Array.all_eq_true_iff_forall_mem] at h2
   have h3:=h2 e he
   rw [hb] at h3
   have h4:e.on<i:=by simpa using h3
   have h5:=ih e.on h4 (Nat.lt_trans h4 hi)
   have h6:e.on<listed.size∨listed.size≤e.on:=Nat.lt_or_ge _ _
   rcases h6 with h6 | h6
   ·simpa [h6] using h5
   ·
    exfalso
    have:listed.getD i true=true:=by
     simp [Array.getElem?_eq_none (show listed.size≤i by omega)]
    rw [this] at hc
    cases hc
  rw [hr] at this
  cases this
theorem neat_dst {ops:Array Oper} {n:Nat} (hn:neatOps ops n=true) {i:Nat} (hi:i<ops.size):∃ d,dstOf ops i=some d∧d<n∧∀ j,j<i→dstOf ops j≠some d:=by
 unfold neatOps at hn
 rw [List.all_eq_true] at hn
 have h1:=hn i (List.mem_range.2 hi)
 rw [Bool.and_eq_true] at h1
 have h2:=h1.1
 cases hd:dstOf ops i with
 | none=>rw [hd] at h2;cases h2
 | some d =>
  rw [hd,Option.any_some,Bool.and_eq_true,List.all_eq_true] at h2
  refine⟨d,rfl,by simpa using h2.1,fun j hj he=>?_⟩
  have:=h2.2 j (List.mem_range.2 hj)
  simp [he] at this
theorem neat_inj {ops:Array Oper} {n:Nat} (hn:neatOps ops n=true) {i j d:Nat} (hi:dstOf ops i=some d) (hj:dstOf ops j=some d):i=j:=by
 rcases Nat.lt_trichotomy i j with h | h | h
 ·obtain⟨d',h1,_,h2⟩:=neat_dst hn (dstOf_lt hj)
  rw [hj] at h1
  cases h1
  exact absurd hi (h2 i h)
 ·exact h
 ·obtain⟨d',h1,_,h2⟩:=neat_dst hn (dstOf_lt hi)
  rw [hi] at h1
  cases h1
  exact absurd hj (h2 j h)
theorem any_go {ops:Array Oper} {C:World→Prop} {vs:Nat→Value} {t0:Array Value} (hn:neatOps ops t0.size=true)
  (hop:∀ i,i<ops.size→∀ t W Fz φ rest,C W→t.size=t0.size→(∀ j d,edgeTo ops i j=true→dstOf ops j=some d→t[d]?=some (vs j))→(∀ d,freeOf ops d=true→t[d]?=t0[d]?) →
   (∀ W' Fz' φ',C W'→GoM P maps E Fz' Arg W0 Q φ' pend (Fr f (putD t (dstOf ops i) (vs i)) (.inRegion ops rest :: k)) cs W')→GoM P maps E Fz Arg W0 Q φ pend (Fr f t (.inRegion ops (i :: rest) :: k)) cs W)
  (hend:∀ t W Fz φ,C W→t.size=t0.size→(∀ j d,dstOf ops j=some d→t[d]?=some (vs j))→(∀ d,freeOf ops d=true→t[d]?=t0[d]?)→GoM P maps E Fz Arg W0 Q φ pend (Fr f t k) cs W) :
  ∀ (fuel x:Nat) (listed:Array Bool) (t:Array Value) (W:World) Fz φ,listed.size=ops.size→((List.range ops.size).countP fun i=>!listed.getD i true)≤fuel→AnySt ops vs t0 listed t→C W →
   GoM P maps E Fz Arg W0 Q φ pend (Fr f t (.inRegion ops (Region.linearise.go .any ops fuel x listed []) :: k)) cs W:=by
 intro fuel
 induction fuel with
 | zero =>
  intro x listed t W Fz φ hs hc hA hC
  simp only [Region.linearise.go,List.reverse_nil]
  refine Gm.regionEnd (hend t W Fz φ hC hA.size (fun j d hj=>hA.got j d ?_ hj) hA.old)
  have h0:((List.range ops.size).countP fun i=>!listed.getD i true)=0:=by omega
  rw [List.countP_eq_zero] at h0
  simpa using h0 j (List.mem_range.2 (dstOf_lt hj))
 | succ fuel ih =>
  intro x listed t W Fz φ hs hc hA hC
  simp only [Region.linearise.go]
  change GoM P maps E Fz Arg W0 Q φ pend (Fr f t (.inRegion ops (match (Region.ready .any ops listed)[x % (Region.ready .any ops listed).length]? with
   | some i=>Region.linearise.go .any ops fuel (x / (Region.ready .any ops listed).length) (listed.setIfInBounds i true) [i]
   | none=>[].reverse) :: k)) cs W
  cases hi:(Region.ready .any ops listed)[x % (Region.ready .any ops listed).length]? with
  | none =>
   have hnil:Region.ready .any ops listed=[]:=by
    cases hr:Region.ready .any ops listed with
    | nil=>rfl
    | cons y ys =>
     rw [hr] at hi
     have hlt:x % (y :: ys).length<(y :: ys).length:=Nat.mod_lt _ (by simp)
     simp at hi
     simp at hlt
     omega
   simp only [List.reverse_nil]
   exact Gm.regionEnd (hend t W Fz φ hC hA.size (fun j d hj=>hA.got j d (all_listed hn hnil j (dstOf_lt hj)) hj) hA.old)
  | some i =>
   simp only []
   rw [linearise_go_acc,List.reverse_singleton,List.singleton_append]
   have hir:=List.mem_of_getElem? hi
   obtain⟨hl,o,ho,hall⟩:=mem_ready.1 hir
   have hlt:i<ops.size:=(Array.getElem?_eq_some_iff.1 ho).1
   obtain⟨di,hdi,hdn,_⟩:=neat_dst hn hlt
   refine hop i hlt t W Fz φ _ hC hA.size (fun j d he hj=>hA.got j d ?_ hj) hA.old fun W' Fz' φ' hC'=>?_
   ·unfold edgeTo at he
    rw [ho] at he
    simp only [Option.map_some,Option.getD_some] at he
    obtain⟨q,hq,he⟩:=Array.any_eq_true.1 he
    rw [Bool.and_eq_true,beq_iff_eq] at he
    obtain⟨hb,rfl⟩:=he
    have:=hall _ (Array.getElem_mem hq) hb
    have hlt2:o.after[q].on<listed.size:=by
     rcases Nat.lt_or_ge o.after[q].on listed.size with h | h
     ·exact h
     ·simp [Array.getElem?_eq_none h] at this
    simpa [hlt2] using this
   ·refine ih _ _ _ _ _ _ (by simp [hs]) ?_ ⟨?_,?_,?_⟩ hC'
    ·have key:∀ (l:List Nat),i∈l→(l.countP fun j=>!(listed.setIfInBounds i true).getD j true)+1≤l.countP fun j=>!listed.getD j true:=by
      intro l
      induction l with
      | nil=>intro h;cases h
      | cons a l ihl =>
       intro h
       have mono:∀ l:List Nat,(l.countP fun j=>!(listed.setIfInBounds i true).getD j true)≤l.countP fun j=>!listed.getD j true:=fun l=>by
        refine List.countP_mono_left fun j _ hj=>?_
        by_cases hij:i=j
        ·subst hij;simp [hs,hlt] at hj
        ·rwa [getD_set_ne true hij] at hj
       by_cases ha:a=i
       ·subst ha
        rw [List.countP_cons,List.countP_cons]
        have h1:(!(listed.setIfInBounds a true).getD a true)=false:=by simp [hs,hlt]
        have h2:(!listed.getD a true)=true:=by rw [hl];rfl
        rw [h1,h2]
        have:=mono l
        simp only [Bool.false_eq_true,if_false,if_true]
        omega
       ·have hm:i∈l:=by
         rcases List.mem_cons.1 h with h | h
         ·exact absurd h.symm ha
         ·exact h
        rw [List.countP_cons,List.countP_cons,getD_set_ne true (Ne.symm ha)]
        have:=ihl hm
        split<;>omega
     have:=key _ (List.mem_range.2 hlt)
     omega
    ·rw [hdi]
     simp only [putD,Array.size_setIfInBounds]
     exact hA.size
    ·intro j d hj hd
     rw [hdi]
     simp only [putD]
     by_cases hij:i=j
     ·subst hij
      rw [hdi] at hd
      cases hd
      exact Array.getElem?_setIfInBounds_self_of_lt (by rw [hA.size];exact hdn)
     ·rw [getD_set_ne true hij] at hj
      have hne:di≠d:=fun h=>hij (neat_inj hn hdi (h ▸ hd))
      rw [Array.getElem?_setIfInBounds_ne hne]
      exact hA.got j d hj hd
    ·intro d hd
     rw [hdi]
     simp only [putD]
     have hne:di≠d:=fun h=>freeOf_spec hd i (h ▸ hdi)
     rw [Array.getElem?_setIfInBounds_ne hne]
     exact hA.old d hd
theorem Gm.regionAny {Fz:Nat→Prop} {φ:Ph} {t0:Array Value} {W:World} {id:Nat} {ops:Array Oper} (hm:P.follows .mixedOrders=true) (C:World→Prop) (vs:Nat→Value) (hn:neatOps ops t0.size=true) (hC:C { W with drawn:=W.drawn+1 })
  (hop:∀ i,i<ops.size→∀ t W Fz φ rest,C W→t.size=t0.size→(∀ j d,edgeTo ops i j=true→dstOf ops j=some d→t[d]?=some (vs j))→(∀ d,freeOf ops d=true→t[d]?=t0[d]?) →
   (∀ W' Fz' φ',C W'→GoM P maps E Fz' Arg W0 Q φ' pend (Fr f (putD t (dstOf ops i) (vs i)) (.inRegion ops rest :: k)) cs W')→GoM P maps E Fz Arg W0 Q φ pend (Fr f t (.inRegion ops (i :: rest) :: k)) cs W)
  (hend:∀ t W Fz φ,C W→t.size=t0.size→(∀ j d,dstOf ops j=some d→t[d]?=some (vs j))→(∀ d,freeOf ops d=true→t[d]?=t0[d]?)→GoM P maps E Fz Arg W0 Q φ pend (Fr f t k) cs W) :
  GoM P maps E Fz Arg W0 Q φ pend (Fr f t0 (.code (.region id ops true) :: k)) cs W:=by
 refine Gm.draw hm fun n=>?_
 unfold Region.linearise
 refine any_go hn hop hend _ _ _ _ _ _ _ (by simp) ?_ ⟨rfl,fun i d hl hd=>?_,fun _ _=>rfl⟩ hC
 ·refine Nat.le_trans List.countP_le_length ?_
  simp
 ·have:=dstOf_lt hd
  simp [this] at hl
end
end Go.Con

namespace Go.Proofs.YtolholkjeehamaaDoor
open Go.RowKit Go.Con Go.Conc
local instance:Lone:=mainL
noncomputable def lawB8:Code:=match Tryd.f8.body with | some c=>c | none=>.skip
noncomputable def kn0:Code:=seqL lawB8
noncomputable def knp1:Code:=seqR lawB8
noncomputable def kn1:Code:=seqL (seqL knp1)
noncomputable def kn2:Code:=match seqR (seqL knp1) with | .cond _ x _=>seqL x | c=>c
noncomputable def knp2:Code:=seqR knp1
noncomputable def kn3:Code:=seqL knp2
noncomputable def knp3:Code:=seqR knp2
noncomputable def kn4:Code:=seqL knp3
noncomputable def knp4:Code:=seqR knp3
noncomputable def kn5:Code:=seqL knp4
noncomputable def knp5:Code:=seqR knp4
noncomputable def kn6:Code:=seqL knp5
noncomputable def knp6:Code:=seqR knp5
noncomputable def kn7:Code:=seqL knp6
noncomputable def knp7:Code:=seqR knp6
noncomputable def kn8:Code:=seqL knp7
noncomputable def knp8:Code:=seqR knp7
noncomputable def kn10:Code:=seqL knp8
noncomputable def knp9:Code:=seqR knp8
noncomputable def kn15:Code:=seqL (seqL knp9)
noncomputable def kn16:Code:=match seqR (seqL knp9) with | .cond _ x _=>seqL x | c=>c
noncomputable def knp10:Code:=seqR knp9
noncomputable def kn17:Code:=seqL knp10
noncomputable def knp11:Code:=seqR knp10
noncomputable def kn18:Code:=seqL knp11
noncomputable def knp12:Code:=seqR knp11
noncomputable def kn19:Code:=seqL (seqL knp12)
noncomputable def kn20:Code:=match seqR (seqL knp12) with | .cond _ x _=>seqL x | c=>c
noncomputable def knp13:Code:=seqR knp12
noncomputable def kn21:Code:=seqL knp13
noncomputable def knp14:Code:=seqR knp13
noncomputable def kn22:Code:=seqL knp14
noncomputable def knp15:Code:=seqR knp14
noncomputable def kn23:Code:=seqL knp15
noncomputable def knp16:Code:=seqR knp15
noncomputable def kn24:Code:=seqL knp16
noncomputable def knp17:Code:=seqR knp16
noncomputable def kn25:Code:=seqL knp17
noncomputable def knp18:Code:=seqR knp17
noncomputable def kn26:Code:=seqL knp18
theorem lawB8_eq:lawB8=.seq kn0 (.seq (.seq kn1 (.cond (.tmp 32) (.seq kn2 .ret) .skip)) (.seq kn3 (.seq kn4 (.seq kn5 (.seq kn6 (.seq kn7 (.seq kn8 (.seq kn10 (.seq (.seq kn15 (.cond (.tmp 115) (.seq kn16 .ret) .skip)) (.seq kn17 (.seq kn18 (.seq (.seq kn19 (.cond (.tmp 133) (.seq kn20 .ret) .skip)) (.seq kn21 (.seq kn22 (.seq kn23 (.seq kn24 (.seq kn25 (.seq kn26 .ret)))))))))))))))))):=by kernel_rfl
theorem lawB8_of:Tryd.f8.body=some lawB8:=by kernel_rfl
noncomputable def opkn2:Array Oper:=opsOf kn2
theorem kn2_eq:kn2=.region 2 opkn2 false:=by kernel_rfl
noncomputable def opkn16:Array Oper:=opsOf kn16
theorem kn16_eq:kn16=.region 16 opkn16 false:=by kernel_rfl
noncomputable def opkn20:Array Oper:=opsOf kn20
theorem kn20_eq:kn20=.region 20 opkn20 false:=by kernel_rfl
noncomputable def opkn26:Array Oper:=opsOf kn26
theorem kn26_eq:kn26=.region 26 opkn26 true:=by kernel_rfl
def KnwA (d:Dit) (r:Rows6) (l:Lg) (al:Option Addr) (cap:Nat) (x y z u:Int) (W:World) (t:Array Value) (W2:World):Prop :=
 Old W W2∧∃ (B:Nat) (v24 v25 v26 v27 v28 v29 v30 v31 v32:Value),t=#[d.val r,.agg #[num l.lo,num l.hi,.slice al l.ops.length cap],.int .u8 x,.int .u8 y,.int .u8 z,.int .u8 u,.pointer (some ⟨B,0,none⟩),.pointer (some ⟨B+1,0,none⟩),undef,undef,undef,undef,.bool false,undef,undef,undef,undef,undef,undef,undef,undef,undef,undef,undef,v24,v25,v26,v27,v28,v29,v30,v31,v32,undef,undef,undef,undef,undef,undef,undef,undef,undef,undef,undef,undef,undef,undef,undef,undef,undef,undef,undef,undef,undef,undef,undef,undef,undef,undef,undef,undef,undef,undef,undef,undef,undef,undef,undef,undef,undef,undef,undef,undef,undef,undef,undef,undef,undef,undef,undef,undef,undef,undef,undef,undef,undef,undef,undef,undef,undef,undef,undef,undef,undef,undef,undef,undef,undef,undef,undef,undef,undef,undef,undef,undef,undef,undef,undef,undef,undef,undef,undef,undef,undef,undef,undef,undef,undef,undef,undef,undef,undef,undef,undef,undef,undef,undef,undef,undef,undef,undef,undef,undef,undef,undef,undef,undef,undef,undef,undef,undef,undef,undef,undef,undef,undef,undef,undef,undef,undef,undef,undef,undef,undef,undef,undef,undef,undef,undef,undef,undef,undef,undef,undef,undef,undef,undef,undef,undef,undef,undef,undef,undef,undef,undef,undef,undef,undef,undef,undef,undef,undef,undef,undef,undef,undef,undef,undef,undef,undef,undef,undef,undef,undef,undef,undef,undef,undef,undef,undef,undef]∧B+1<W2.heap.size∧(∀ i v,(d.cellsA r)[i]?=some v→W2.cell? ⟨B,i,none⟩=some v)∧(∀ i v,(#[num l.lo,num l.hi,.slice al l.ops.length cap]:Array Value)[i]?=some v→W2.cell? ⟨B+1,i,none⟩=some v)
theorem known_lone (d:Dit) (r:Rows6) (l:Lg) (al:Option Addr) (cap:Nat) (x y z u:Int) (W:World) (hd:DitSl W d r) (hb:d.Big) (hg:Glob W) (hl:Sl W (.slice al l.ops.length cap) 3 (l.ops.map three)) (hlb:l.ops.length≤281474976710656) :
  Lones Tryd.prog (FG 8) [kn0,kn1] (fun t W1=>Old W W1∧t.size=201∧(t[32]?=some (.bool true)∨(t[32]?=some (.bool false)∧(logS d l=0∧d.Small)∧KnwA d r l al cap x y z u W t W1)))
   #[d.val r,.agg #[num l.lo,num l.hi,.slice al l.ops.length cap],.int .u8 x,.int .u8 y,.int .u8 z,.int .u8 u,undef,undef,undef,undef,undef,undef,undef,undef,undef,undef,undef,undef,undef,undef,undef,undef,undef,undef,undef,undef,undef,undef,undef,undef,undef,undef,undef,undef,undef,undef,undef,undef,undef,undef,undef,undef,undef,undef,undef,undef,undef,undef,undef,undef,undef,undef,undef,undef,undef,undef,undef,undef,undef,undef,undef,undef,undef,undef,undef,undef,undef,undef,undef,undef,undef,undef,undef,undef,undef,undef,undef,undef,undef,undef,undef,undef,undef,undef,undef,undef,undef,undef,undef,undef,undef,undef,undef,undef,undef,undef,undef,undef,undef,undef,undef,undef,undef,undef,undef,undef,undef,undef,undef,undef,undef,undef,undef,undef,undef,undef,undef,undef,undef,undef,undef,undef,undef,undef,undef,undef,undef,undef,undef,undef,undef,undef,undef,undef,undef,undef,undef,undef,undef,undef,undef,undef,undef,undef,undef,undef,undef,undef,undef,undef,undef,undef,undef,undef,undef,undef,undef,undef,undef,undef,undef,undef,undef,undef,undef,undef,undef,undef,undef,undef,undef,undef,undef,undef,undef,undef,undef,undef,undef,undef,undef,undef,undef,undef,undef,undef,undef,undef,undef,undef,undef,undef,undef,undef,undef,undef,undef,undef,undef,undef,undef] W:=by
 intro τ
 generalize hw0:({ W with tape:=τ }:World)=w0
 have hO0:Old W w0:=by rw [← hw0];exact .same rfl
 clear hw0
 generalize hY:(w0.alloc (.cells (d.cellsA r) 31)).alloc (.cells #[num l.lo,num l.hi,.slice al l.ops.length cap] 35)=Y
 obtain⟨oY,sY,g1,g2⟩:=al2' hY
 have hcd:d.cellsA r=#[r.h,r.t,num d.begin_,num d.week,num d.from_,num d.long,r.f,r.s,r.l,num d.flow.1,num d.flow.2,num d.loss.1,num d.loss.2,r.p]:=rfl
 rw [hcd] at hY
 simp only [kn0,lawB8,seqL,seqR,Tryd.f8]
 gi_wp2
 clear hcd hY
 intro τ1
 generalize hw1:({ Y with tape:=τ1 }:World)=w1
 have h1:w1.heap=Y.heap:=by rw [← hw1]
 clear hw1
 have hOw:Old W w1:=hO0.trans (oY.trans (.same h1))
 have cell0:∀ (b:Nat) (cs:Array Value) (T:TypeId),Y.heap[b]?=some (.cells cs T (0,0))→∀ w2,Old w1 w2→∀ i v,cs[i]?=some v→w2.cell? ⟨b,i,none⟩=some v:=fun b cs T hb w2 o i v hv=>by
  have hl:=(Array.getElem?_eq_some_iff.1 hb).1
  rw [o.cell ⟨b,i,none⟩ (by rw [h1];exact hl)]
  unfold World.cell?
  dsimp only
  rw [h1,hb]
  exact hv
 have CO:=Lib.hid (cell0 _ _ _ g1)
 have CL:=Lib.hid (cell0 _ _ _ g2)
 have hBl:w0.heap.size+2≤w1.heap.size:=by rw [h1];omega
 clear cell0 g1 g2 sY oY h1
 have HD:=Lib.hid hd
 have HG:=Lib.hid hg
 have HL:=Lib.hid hl
 have k19:=toFG 8 (m:=0) (great_big d r l.lo l.hi (.slice al l.ops.length cap) (l.ops.map three) w1 (hd.old hOw) hb (hl.old hOw) (by rw [List.length_map];exact hlb))
 rw [List.length_map] at k19
 clear hd hg hl hlb
 obtain⟨c0,c1,c2,c3,c4,c5,c6,c7,c8,c9,c10,c11,c12,c13⟩:=cells14 (CO.out w1 (Old.refl _))
 have q0:=CL.out w1 (Old.refl _) 0 _ rfl
 have q1:=CL.out w1 (Old.refl _) 1 _ rfl
 have q2:=CL.out w1 (Old.refl _) 2 _ rfl
 simp only [kn1,knp18,knp17,knp16,knp15,knp14,knp13,knp12,knp11,knp10,knp9,knp8,knp7,knp6,knp5,knp4,knp3,knp2,knp1,lawB8,seqL,seqR,Tryd.f8]
 cases hgr:greatS d l.ops.length with
 | true =>
  rw [hgr] at k19
  gi_wp2_with (first
   | (gi_at_call 19;refine CallsIn.mono k19 ?_;rintro e w2 ⟨rfl,x2⟩)
   | gi_in)
  first | exact⟨hOw.trans (.nx x2),rfl,.inl rfl⟩ | exact⟨hOw.trans (.nx x2),rfl,rfl⟩
 | false =>
 rw [hgr] at k19
 have hs:=small_of_great hgr
 have hls:l.ops.length≤1000000000:=by
  unfold greatS at hgr
  simp only [Bool.or_eq_false_iff,decide_eq_false_iff_not] at hgr
  omega
 have k27:=Lib.hid (fun w2 (o:Old w1 w2)=>toFG 8 (m:=0) (checklog27_any d r l (.slice al l.ops.length cap) w2 (HD.out.old (hOw.trans o)) hs (HL.out.old (hOw.trans o)) hls))
 clear hgr
 rcases (Decidable.em (logS d l=0)).symm with hc | hc
 ·have b1:(logS d l != 0)=true:=by simpa using hc
  generalize logS d l=g at *
  gi_wp2_with (first
   | (gi_at_call 19;refine CallsIn.mono k19 ?_;rintro e w2 ⟨rfl,x2⟩;clear c0 c1 c2 c3 c4 c5 c6 c7 c8 c9 c10 c11 c12 c13;clear q0 q1 q2;obtain⟨c0,c1,c2,c3,c4,c5,c6,c7,c8,c9,c10,c11,c12,c13⟩:=cells14 (CO.out w2 (.nx x2));have q0:=CL.out w2 (.nx x2) 0 _ rfl;have q1:=CL.out w2 (.nx x2) 1 _ rfl;have q2:=CL.out w2 (.nx x2) 2 _ rfl;have kk:=k27.out w2 (.nx x2))
   | (gi_at_call 27;refine CallsIn.mono kk ?_;rintro e w3 ⟨rfl,x3⟩)
   | gi_in)
  first | exact⟨hOw.trans (.trans (.nx x2) (.nx x3)),rfl,.inl rfl⟩ | exact⟨hOw.trans (.trans (.nx x2) (.nx x3)),rfl,rfl⟩
 have HC:=Lib.hid hc
 rw [hc] at k27
 clear hc
 gi_wp2_with (first
  | (gi_at_call 19;refine CallsIn.mono k19 ?_;rintro e w2 ⟨rfl,x2⟩;clear c0 c1 c2 c3 c4 c5 c6 c7 c8 c9 c10 c11 c12 c13;clear q0 q1 q2;obtain⟨c0,c1,c2,c3,c4,c5,c6,c7,c8,c9,c10,c11,c12,c13⟩:=cells14 (CO.out w2 (.nx x2));have q0:=CL.out w2 (.nx x2) 0 _ rfl;have q1:=CL.out w2 (.nx x2) 1 _ rfl;have q2:=CL.out w2 (.nx x2) 2 _ rfl;have kk:=k27.out w2 (.nx x2))
  | (gi_at_call 27;refine CallsIn.mono kk ?_;rintro e w3 ⟨rfl,x3⟩;clear c0 c1 c2 c3 c4 c5 c6 c7 c8 c9 c10 c11 c12 c13;clear q0 q1 q2)
  | gi_in)
 have oB2:Old w1 w3:=.trans (.nx x2) (.nx x3)
 refine⟨hOw.trans oB2,rfl,.inr ⟨rfl,by first | exact⟨HC.out,hs⟩ | exact HC.out,?_⟩⟩
 clear k19 k27 kk
 exact⟨hOw.trans oB2,w0.heap.size,_,_,_,_,_,_,_,_,_,rfl,by have:=oB2.size;omega,CO.out w3 oB2,CL.out w3 oB2⟩
end Go.Proofs.YtolholkjeehamaaDoor

namespace Go.Proofs.YtolholkjeehamaaDoor
def leC (x y:Int×Int):Prop:=x.2<y.2∨(x.2=y.2∧y.1≤x.1)
theorem leC.trans {x y z:Int×Int} (h:leC x y) (h2:leC y z):leC x z:=by unfold leC at *;omega
theorem leC.refl (x:Int×Int):leC x x:=by unfold leC;omega
end Go.Proofs.YtolholkjeehamaaDoor

namespace Go.Proofs.YtolholkjeehamaaDoor
open Go.RowKit
structure ElemT (t e:TypeId) (z:Value) (sz by_:Nat):Prop where
 und:Tryd.prog.underlying t=some (.slice e)
 info:∃ i:TypeInfo,Tryd.prog.info? e=some i∧i.zero=some z∧i.size=sz∧i.bytes=by_
 zs:z.cells.size=sz
 pos:0<sz
section
variable {t e:TypeId} {z:Value} {sz by_:Nat} (T:ElemT t e z sz by_)
include T
end
end Go.Proofs.YtolholkjeehamaaDoor

namespace Go.Proofs.YtolholkjeehamaaDoor
open Go.RowKit Go.Con Go.Conc
local instance:Lone:=mainL
noncomputable def lawB5:Code:=match Tryd.f5.body with | some c=>c | none=>.skip
noncomputable def ch0:Code:=seqL lawB5
noncomputable def chp1:Code:=seqR lawB5
noncomputable def ch1:Code:=seqL (seqL chp1)
end Go.Proofs.YtolholkjeehamaaDoor

namespace Go.Proofs.YtolholkjeehamaaDoor
open Go.RowKit Go.Con Go.Conc
local instance:Lone:=mainL
theorem old_then {w u w' : World} (o:Old w u) (hs:u.heap.size≤w'.heap.size) (h:∀ b,b<w.heap.size→w'.heap[b]?=u.heap[b]?):Old w w':=by
 refine⟨Nat.le_trans o.size hs,fun a ha=>?_,fun b hb=>?_,fun b es k hb=>?_⟩
 ·rw [← o.cell a ha]
  unfold World.cell?
  rw [h _ ha]
 ·have hl:b<w.heap.size:=by
   obtain⟨cs,t,fz,e⟩:=hb
   exact (Array.getElem?_eq_some_iff.1 e).1
  obtain⟨cs,t,fz,e⟩:=o.kind b hb
  exact⟨cs,t,fz,(h b hl).trans e⟩
 ·exact (h b (Array.getElem?_eq_some_iff.1 hb).1).trans (o.map b es k hb)
end Go.Proofs.YtolholkjeehamaaDoor

namespace Go.Proofs.YtolholkjeehamaaDoor
open Go.RowKit Go.Con Go.Conc
local instance:Lone:=mainL
noncomputable def lawB14:Code:=match Tryd.f14.body with | some c=>c | none=>.skip
noncomputable def q0:Code:=seqL lawB14
noncomputable def qp1:Code:=seqR lawB14
noncomputable def q1:Code:=seqL qp1
noncomputable def qp2:Code:=seqR qp1
noncomputable def q2:Code:=seqL qp2
noncomputable def qp3:Code:=seqR qp2
noncomputable def q3:Code:=seqL (seqL qp3)
noncomputable def q4:Code:=match seqR (seqL qp3) with | .cond _ x _=>seqL x | c=>c
noncomputable def qp4:Code:=seqR qp3
noncomputable def q5:Code:=seqL qp4
end Go.Proofs.YtolholkjeehamaaDoor

namespace Go.Proofs.YtolholkjeehamaaDoor
open Go.RowKit Go.Con Go.Conc
local instance:Lone:=mainL
def KnwB (d:Dit) (r:Rows6) (l:Lg) (al:Option Addr) (cap:Nat) (x y z u:Int) (B:Nat) (W2:World) (t:Array Value) (W3:World):Prop :=
 Old W2 W3∧∃ (C:Nat) (n m:Int),(l.lo≤n∧n≤m∧m≤l.hi)∧∃ v24 v25 v26 v27 v28 v29 v30 v31 v32 v34 v35 v36 v37 v38 v39 v40 v41 v42 v43 v44 v45 v46 v47 v48 v49 v50:Value,t=#[d.val r,.agg #[num l.lo,num l.hi,.slice al l.ops.length cap],.int .u8 x,.int .u8 y,.int .u8 z,.int .u8 u,.pointer (some ⟨B,0,none⟩),.pointer (some ⟨B+1,0,none⟩),undef,undef,undef,undef,.bool false,.pointer (some ⟨C,0,none⟩),num n,undef,undef,undef,undef,undef,undef,undef,undef,undef,v24,v25,v26,v27,v28,v29,v30,v31,v32,undef,v34,v35,v36,v37,v38,v39,v40,v41,v42,v43,v44,v45,v46,v47,v48,v49,v50,undef,undef,undef,undef,undef,undef,undef,undef,undef,undef,undef,undef,undef,undef,undef,undef,undef,undef,undef,undef,undef,undef,undef,undef,undef,undef,undef,undef,undef,undef,undef,undef,undef,undef,undef,undef,undef,undef,undef,undef,undef,undef,undef,undef,undef,undef,undef,undef,undef,undef,undef,undef,undef,undef,undef,undef,undef,undef,undef,undef,undef,undef,undef,undef,undef,undef,undef,undef,undef,undef,undef,undef,undef,undef,undef,undef,undef,undef,undef,undef,undef,undef,undef,undef,undef,undef,undef,undef,undef,undef,undef,undef,undef,undef,undef,undef,undef,undef,undef,undef,undef,undef,undef,undef,undef,undef,undef,undef,undef,undef,undef,undef,undef,undef,undef,undef,undef,undef,undef,undef,undef,undef,undef,undef,undef,undef,undef,undef,undef,undef,undef,undef,undef,undef,undef,undef,undef,undef,undef,undef,undef,undef,undef,undef,undef,undef,undef,undef,undef,undef]∧W2.heap.size≤C∧C<W3.heap.size∧(∀ i v,(#[num n,num m,.slice al l.ops.length cap]:Array Value)[i]?=some v→W3.cell? ⟨C,i,none⟩=some v)
theorem known_clock {v24 v25 v26 v27 v28 v29 v30 v31 v32:Value} (d:Dit) (r:Rows6) (l:Lg) (al:Option Addr) (cap:Nat) (x y z u:Int) (B:Nat) (W2:World) (hcl : -100≤l.lo∧l.lo≤l.hi∧l.hi≤100) (hx:0≤x∧x≤255) (hy:0≤y∧y≤255) (cL:∀ i v,(#[num l.lo,num l.hi,.slice al l.ops.length cap]:Array Value)[i]?=some v→W2.cell? ⟨B+1,i,none⟩=some v) (hB:B+1<W2.heap.size) :
  Lones Tryd.prog (FG 8) [kn3,kn4,kn5] (KnwB d r l al cap x y z u B W2) #[d.val r,.agg #[num l.lo,num l.hi,.slice al l.ops.length cap],.int .u8 x,.int .u8 y,.int .u8 z,.int .u8 u,.pointer (some ⟨B,0,none⟩),.pointer (some ⟨B+1,0,none⟩),undef,undef,undef,undef,.bool false,undef,undef,undef,undef,undef,undef,undef,undef,undef,undef,undef,v24,v25,v26,v27,v28,v29,v30,v31,v32,undef,undef,undef,undef,undef,undef,undef,undef,undef,undef,undef,undef,undef,undef,undef,undef,undef,undef,undef,undef,undef,undef,undef,undef,undef,undef,undef,undef,undef,undef,undef,undef,undef,undef,undef,undef,undef,undef,undef,undef,undef,undef,undef,undef,undef,undef,undef,undef,undef,undef,undef,undef,undef,undef,undef,undef,undef,undef,undef,undef,undef,undef,undef,undef,undef,undef,undef,undef,undef,undef,undef,undef,undef,undef,undef,undef,undef,undef,undef,undef,undef,undef,undef,undef,undef,undef,undef,undef,undef,undef,undef,undef,undef,undef,undef,undef,undef,undef,undef,undef,undef,undef,undef,undef,undef,undef,undef,undef,undef,undef,undef,undef,undef,undef,undef,undef,undef,undef,undef,undef,undef,undef,undef,undef,undef,undef,undef,undef,undef,undef,undef,undef,undef,undef,undef,undef,undef,undef,undef,undef,undef,undef,undef,undef,undef,undef,undef,undef,undef,undef,undef,undef,undef,undef,undef,undef,undef,undef,undef,undef,undef,undef,undef,undef,undef,undef,undef,undef] W2:=by
 have CL:=Lib.hid (fun w2 (o:Old W2 w2) i v (h:(#[num l.lo,num l.hi,.slice al l.ops.length cap]:Array Value)[i]?=some v)=>(o.cell ⟨B+1,i,none⟩ hB).trans (cL i v h))
 have h1:0≤x % (l.hi-l.lo+1)∧x % (l.hi-l.lo+1)<l.hi-l.lo+1:=⟨Int.emod_nonneg _ (by omega),Int.emod_lt_of_pos _ (by omega)⟩
 have hn:l.lo≤l.lo+x % (l.hi-l.lo+1)∧l.lo+x % (l.hi-l.lo+1)≤l.hi:=by omega
 have k28:=fun u=>toFG 8 (m:=0) (one28_any l.lo l.hi x u (by omega) (by omega))
 generalize l.lo+x % (l.hi-l.lo+1)=n at hn k28 ⊢
 have h2:0≤y % (l.hi-n+1)∧y % (l.hi-n+1)<l.hi-n+1:=⟨Int.emod_nonneg _ (by omega),Int.emod_lt_of_pos _ (by omega)⟩
 have hm:n≤n+y % (l.hi-n+1)∧n+y % (l.hi-n+1)≤l.hi:=by omega
 have k28b:=fun u=>toFG 8 (m:=0) (one28_any n l.hi y u (by omega) (by omega))
 generalize n+y % (l.hi-n+1)=m at hm k28b ⊢
 have k35:=fun p q u=>toFG 8 (m:=0) (span_any p q u)
 clear cL h1 h2
 intro τ3
 generalize hq3:({ W2 with tape:=τ3 }:World)=u3
 have oA3:Old W2 u3:=(Old.refl _).trans (by rw [← hq3];exact .same rfl)
 clear hq3
 have q0:=CL.out u3 oA3 0 _ rfl
 have q1:=CL.out u3 oA3 1 _ rfl
 have q2:=CL.out u3 oA3 2 _ rfl
 generalize hY:u3.alloc (.cells #[num l.lo,num l.hi,.slice al l.ops.length cap] 35)=Y
 have oY:Old u3 Y:=by rw [← hY];exact .nx (alloc_nx (Below.refl _ _) _)
 have gY:Y.heap[u3.heap.size]?=some (.cells #[num l.lo,num l.hi,.slice al l.ops.length cap] 35 (0,0)):=by rw [← hY];exact heap_alloc_new _ _
 have sY:u3.heap.size<Y.heap.size:=by rw [← hY];simp
 simp only [kn3,knp18,knp17,knp16,knp15,knp14,knp13,knp12,knp11,knp10,knp9,knp8,knp7,knp6,knp5,knp4,knp3,knp2,knp1,lawB8,seqL,seqR,Tryd.f8]
 gi_wp2
 clear q0 q1 q2 hY
 have s23:=oA3.size
 intro τ4
 generalize hq4:({ Y with tape:=τ4 }:World)=u4
 have oA4:Old W2 u4:=(oA3.trans oY).trans (by rw [← hq4];exact .same rfl)
 have e4:u4.heap=Y.heap:=by rw [← hq4]
 clear hq4
 have q0:=CL.out u4 oA4 0 _ rfl
 have q1:=CL.out u4 oA4 1 _ rfl
 have kk:=k28 u4
 simp only [kn4,knp18,knp17,knp16,knp15,knp14,knp13,knp12,knp11,knp10,knp9,knp8,knp7,knp6,knp5,knp4,knp3,knp2,knp1,lawB8,seqL,seqR,Tryd.f8]
 gi_wp2_with (first
  | (gi_at_call 28;refine CallsIn.mono kk ?_;rintro e w4 ⟨rfl,x4⟩)
  | gi_in)
 clear q0 q1 kk
 have oB4:Old W2 w4:=oA4.trans (.nx x4)
 have g4:w4.heap[u3.heap.size]?=some (.cells #[num l.lo,num l.hi,.slice al l.ops.length cap] 35 (0,0)):=(x4.block _ (by rw [e4];exact sY)).trans (by rw [e4];exact gY)
 have sC:=oA3.size
 generalize u3.heap.size=C at *
 clear gY sY oY oA4 e4 x4
 intro τ5
 generalize hq5:({ w4 with tape:=τ5 }:World)=u5
 have oA5:Old W2 u5:=oB4.trans (by rw [← hq5];exact .same rfl)
 have g5:u5.heap[C]?=some (.cells #[num l.lo,num l.hi,.slice al l.ops.length cap] 35 (0,0)):=by rw [← hq5];exact g4
 clear hq5 g4
 have hCl:C<u5.heap.size:=lt_of_some g5
 have G5:=Lib.hid g5
 have q1:=CL.out u5 oA5 1 _ rfl
 have nc:Nx u5 u5:=Below.refl _ _
 clear g5
 simp only [kn5,knp18,knp17,knp16,knp15,knp14,knp13,knp12,knp11,knp10,knp9,knp8,knp7,knp6,knp5,knp4,knp3,knp2,knp1,lawB8,seqL,seqR,Tryd.f8]
 gi_wp2_with (first
  | (gi_at_call 28;refine CallsIn.mono (k28b _) ?_;rintro e w4 ⟨rfl,x4⟩;replace nc:=Nx.trans nc x4)
  | (gi_at_call 35;refine CallsIn.mono (k35 _ _ _) ?_;rintro e w6 ⟨rfl,x6⟩;replace nc:=Nx.trans nc x6;have h6:=(nc.block C hCl).trans G5.out;have f0:w6.frozen? ⟨C,0,none⟩=false:=frozen_of_row _ _ _ _ _ h6;have f1:w6.frozen? ⟨C,1,none⟩=false:=frozen_of_row _ _ _ _ _ h6;have z0:w6.cell? ⟨C,0,none⟩=some (num l.lo):=(by unfold World.cell?;dsimp only;rw [h6];rfl);have z1:w6.cell? ⟨C,1,none⟩=some (num l.hi):=(by unfold World.cell?;dsimp only;rw [h6];rfl);clear h6)
  | gi_in)
 skip
 have h7:=(nc.block C hCl).trans G5.out
 have oC5:=oA5.trans (.nx nc)
 refine⟨old_then oC5 (by simp) fun b hb=>?_,C,n,m,⟨hn.1,hm.1,hm.2⟩,_,_,_,_,_,_,_,_,_,_,_,_,_,_,_,_,_,_,_,_,_,_,_,_,_,_,rfl,sC,by have:=oC5.size;have:=nc.size;simp;omega,fun i v h=>?_⟩
 ·rw [heap_setCell_other _ _ _ _ (by show b≠C;omega),heap_setCell_other _ _ _ _ (by show b≠C;omega)]
 ·have hh:((w6.setCell ⟨C,0,none⟩ (num n)).setCell ⟨C,1,none⟩ (num m)).heap[C]?=some (.cells #[num n,num m,.slice al l.ops.length cap] 35 (0,0)):=by
   unfold World.setCell
   simp [Array.getElem?_modify,h7]
  unfold World.cell?
  dsimp only
  rw [hh]
  exact h
end Go.Proofs.YtolholkjeehamaaDoor

namespace Go.Proofs.YtolholkjeehamaaDoor
open Go.RowKit Go.Con Go.Conc
local instance:Lone:=mainL
theorem ex_f {t:Array Value} {g:(Nat→Value)→Array Value} (h:t=g fun i=>t.getD i undef):∃ f,t=g f:=⟨_,h⟩
def KnwC (d:Dit) (r:Rows6) (l:Lg) (al ba ca:Option Addr) (cap bc cc:Nat) (x y z u n:Int) (B C:Nat) (W5:World) (t:Array Value) (W6:World):Prop :=
 (1≤l.ops.length∧l.ops.length≤19)∧∃ f:Nat→Value,t=#[d.val r,.agg #[num l.lo,num l.hi,.slice al l.ops.length cap],.int .u8 x,.int .u8 y,.int .u8 z,.int .u8 u,.pointer (some ⟨B,0,none⟩),.pointer (some ⟨B+1,0,none⟩),undef,undef,undef,undef,(f 12),.pointer (some ⟨C,0,none⟩),num n,.slice ba l.ops.length bc,num 0,.slice ca l.ops.length cc,num 0,(f 19),undef,undef,undef,undef,(f 24),(f 25),(f 26),(f 27),(f 28),(f 29),(f 30),(f 31),(f 32),undef,(f 34),(f 35),(f 36),(f 37),(f 38),(f 39),(f 40),(f 41),(f 42),(f 43),(f 44),(f 45),(f 46),(f 47),(f 48),(f 49),(f 50),(f 51),(f 52),(f 53),(f 54),(f 55),(f 56),(f 57),(f 58),(f 59),(f 60),(f 61),(f 62),(f 63),(f 64),(f 65),(f 66),(f 67),(f 68),(f 69),(f 70),(f 71),(f 72),(f 73),(f 74),(f 75),(f 76),(f 77),(f 78),(f 79),(f 80),(f 81),(f 82),(f 83),(f 84),(f 85),(f 86),(f 87),(f 88),(f 89),(f 90),(f 91),(f 92),(f 93),(f 94),(f 95),(f 96),(f 97),(f 98),(f 99),(f 100),(f 101),(f 102),(f 103),(f 104),(f 105),(f 106),(f 107),(f 108),(f 109),(f 110),(f 111),(f 112),(f 113),(f 114),(f 115),undef,undef,undef,undef,undef,undef,undef,undef,undef,undef,undef,undef,undef,undef,undef,undef,undef,undef,undef,undef,undef,undef,undef,undef,undef,undef,undef,undef,undef,undef,undef,undef,undef,undef,undef,undef,undef,undef,undef,undef,undef,undef,undef,undef,undef,undef,undef,undef,undef,undef,undef,undef,undef,undef,undef,undef,undef,undef,undef,undef,undef,undef,undef,undef,undef,undef,undef,undef,undef,undef,undef,undef,undef,undef,undef,undef,undef,undef,undef,undef,undef,undef,undef,undef,undef]
theorem known_loops {v24 v25 v26 v27 v28 v29 v30 v31 v32 v34 v35 v36 v37 v38 v39 v40 v41 v42 v43 v44 v45 v46 v47 v48 v49 v50 v51 v52 v53 v54 v55 v56 v57 v58 v59 v60 v61 v62:Value} (d:Dit) (r:Rows6) (l:Lg) (al ba ca:Option Addr) (cap bc cc:Nat) (x y z u n:Int) (B C:Nat) (W5:World) (bl cl:List Int) (hbl:bl.length=l.ops.length) (hcl:cl.length=l.ops.length) (hbc:∀ (i:Nat) bv cv,bl[i]?=some bv→cl[i]?=some cv→bv≠0→cv=bv) (hbs:Sl W5 (.slice ba l.ops.length bc) 1 (bl.map fun x=>[num x])) (hcs:Sl W5 (.slice ca l.ops.length cc) 1 (cl.map fun x=>[num x])) (hlb:l.ops.length≤20) (cL:∀ i v,(#[num l.lo,num l.hi,.slice al l.ops.length cap]:Array Value)[i]?=some v→W5.cell? ⟨B+1,i,none⟩=some v) (hB:B+1<W5.heap.size) :
  Lones Tryd.prog (FG 8) [kn8,kn10,kn15] (fun t W6=>Old W5 W6∧t.size=201∧(t[115]?=some (.bool true)∨(t[115]?=some (.bool false)∧KnwC d r l al ba ca cap bc cc x y z u n B C W5 t W6))) #[d.val r,.agg #[num l.lo,num l.hi,.slice al l.ops.length cap],.int .u8 x,.int .u8 y,.int .u8 z,.int .u8 u,.pointer (some ⟨B,0,none⟩),.pointer (some ⟨B+1,0,none⟩),undef,undef,undef,undef,.bool false,.pointer (some ⟨C,0,none⟩),num n,.slice ba l.ops.length bc,num 0,.slice ca l.ops.length cc,num 0,undef,undef,undef,undef,undef,v24,v25,v26,v27,v28,v29,v30,v31,v32,undef,v34,v35,v36,v37,v38,v39,v40,v41,v42,v43,v44,v45,v46,v47,v48,v49,v50,v51,v52,v53,v54,v55,v56,v57,v58,v59,v60,v61,v62,undef,undef,undef,undef,undef,undef,undef,undef,undef,undef,undef,undef,undef,undef,undef,undef,undef,undef,undef,undef,undef,undef,undef,undef,undef,undef,undef,undef,undef,undef,undef,undef,undef,undef,undef,undef,undef,undef,undef,undef,undef,undef,undef,undef,undef,undef,undef,undef,undef,undef,undef,undef,undef,undef,undef,undef,undef,undef,undef,undef,undef,undef,undef,undef,undef,undef,undef,undef,undef,undef,undef,undef,undef,undef,undef,undef,undef,undef,undef,undef,undef,undef,undef,undef,undef,undef,undef,undef,undef,undef,undef,undef,undef,undef,undef,undef,undef,undef,undef,undef,undef,undef,undef,undef,undef,undef,undef,undef,undef,undef,undef,undef,undef,undef,undef,undef,undef,undef,undef,undef,undef,undef,undef,undef,undef,undef,undef,undef,undef,undef,undef,undef,undef,undef,undef,undef,undef,undef] W5:=by
 have CL:=Lib.hid (fun w2 (o:Old W5 w2) i v (h:(#[num l.lo,num l.hi,.slice al l.ops.length cap]:Array Value)[i]?=some v)=>(o.cell ⟨B+1,i,none⟩ hB).trans (cL i v h))
 have HBS:=Lib.hid hbs
 have HCS:=Lib.hid hcs
 have HBC:=Lib.hid hbc
 have HBL:=Lib.hid hbl
 have HCLL:=Lib.hid hcl
 clear cL hbs hcs hbc hbl hcl
 intro τ8
 generalize hq8:({ W5 with tape:=τ8 }:World)=u8
 have oA8:Old W5 u8:=(Old.refl _).trans (by rw [← hq8];exact .same rfl)
 clear hq8
 have q2:=CL.out u8 oA8 2 _ rfl
 simp only [kn8,knp18,knp17,knp16,knp15,knp14,knp13,knp12,knp11,knp10,knp9,knp8,knp7,knp6,knp5,knp4,knp3,knp2,knp1,lawB8,seqL,seqR,Tryd.f8]
 gi_wp2
 clear q2
 intro τ10
 generalize hq10:({ u8 with tape:=τ10 }:World)=u10
 have oA10:Old W5 u10:=oA8.trans (by rw [← hq10];exact .same rfl)
 clear hq10
 simp only [kn10,knp18,knp17,knp16,knp15,knp14,knp13,knp12,knp11,knp10,knp9,knp8,knp7,knp6,knp5,knp4,knp3,knp2,knp1,lawB8,seqL,seqR,Tryd.f8]
 gi_wp2
 gi_loopw [19] (fun i wr=>∃ k:Nat,k≤l.ops.length∧i=num k∧Old W5 wr) (fun i _=>l.ops.length-(intOf i).toNat)
 case atStart=>exact⟨0,Nat.zero_le _,rfl,oA10⟩
 case round =>
  obtain⟨k,hk,rfl,oR⟩:=hrel
  by_cases hlt:k<l.ops.length
  ·obtain⟨b2,off2,ha2,hbl2,hcl2⟩:=HBS.out.get (by rw [List.length_map,HBL.out];omega)
   subst ha2
   obtain⟨b3,off3,ha3,hbl3,hcl3⟩:=HCS.out.get (by rw [List.length_map,HCLL.out];omega)
   subst ha3
   have hkb:k<bl.length:=by rw [HBL.out];exact hlt
   have hkc:k<cl.length:=by rw [HCLL.out];exact hlt
   have h1:bl[k]?=some bl[k]:=List.getElem?_eq_getElem hkb
   have h2:cl[k]?=some cl[k]:=List.getElem?_eq_getElem hkc
   generalize bl[k]=bv at h1
   generalize cl[k]=cv at h2
   have hv:=HBC.out k bv cv h1 h2
   have f1:wr.cell? ⟨b2,off2+k,none⟩=some (num bv):=(oR.cell ⟨b2,off2+k,none⟩ hbl2).trans (by have:=hcl2 k 0 [num bv] (num bv) (by simp [h1]) rfl;simpa using this)
   have f2:wr.cell? ⟨b3,off3+k,none⟩=some (num cv):=(oR.cell ⟨b3,off3+k,none⟩ hbl3).trans (by have:=hcl3 k 0 [num cv] (num cv) (by simp [h2]) rfl;simpa using this)
   clear hcl2 hcl3 h1 h2 hkb hkc
   by_cases hb:bv=0
   ·have bb:(bv != 0)=false:=by simpa using hb
    clear hv hb
    gi_upto_region 13 with fail
    gi_big_quiet_th (fail)
    gi_wp2
    exact⟨⟨k+1,hlt,by simp,oR.trans (.nx (Nx.drewN (Below.refl _ _) _))⟩,by simp [intOf];omega⟩
   ·have bb:(bv != 0)=true:=by simpa using hb
    have hcv:=hv hb
    subst hcv
    clear hv hb
    gi_upto_region 13 with fail
    gi_big_quiet_th (fail)
    gi_wp2
    exact⟨⟨k+1,hlt,by simp,oR.trans (.nx (Nx.drewN (Below.refl _ _) _))⟩,by simp [intOf];omega⟩
  ·obtain rfl:k=l.ops.length:=by omega
   gi_wp2
   intro τ15
   generalize hq15:({ wr with tape:=τ15 }:World)=u15
   have oA15:Old W5 u15:=oR.trans (by rw [← hq15];exact .same rfl)
   clear hq15
   have q2:=CL.out u15 oA15 2 _ rfl
   simp only [kn15,knp18,knp17,knp16,knp15,knp14,knp13,knp12,knp11,knp10,knp9,knp8,knp7,knp6,knp5,knp4,knp3,knp2,knp1,lawB8,seqL,seqR,Tryd.f8]
   by_cases h0:(l.ops.length:Int)=0
   ·have e0:((l.ops.length:Int) == 0)=true:=by simpa using h0
    gi_wp2
    first | exact⟨oA15,rfl,.inl rfl⟩ | exact⟨oA15,rfl,rfl⟩ | exact⟨oA15,.inl rfl⟩
   ·have e0:((l.ops.length:Int) == 0)=false:=by simpa using h0
    by_cases h20:(20:Int)≤l.ops.length
    ·have hge:¬ ((l.ops.length:Int)<20):=by omega
     gi_wp2
     first | exact⟨oA15,rfl,.inl rfl⟩ | exact⟨oA15,rfl,rfl⟩ | exact⟨oA15,.inl rfl⟩
    ·have hge:(l.ops.length:Int)<20:=by omega
     have hge2:decide ((l.ops.length:Int)≥20)=false:=decide_eq_false (by omega)
     gi_wp2
     have hb:1≤l.ops.length∧l.ops.length≤19:=by omega
     first | exact⟨oA15,rfl,.inr ⟨rfl,hb,ex_f rfl⟩⟩ | exact⟨oA15,.inr ⟨rfl,hb,ex_f rfl⟩⟩
end Go.Proofs.YtolholkjeehamaaDoor

namespace Go.Proofs.YtolholkjeehamaaDoor
open Go.RowKit Go.Con Go.Conc
local instance:Lone:=mainL
def KnwD (d:Dit) (r:Rows6) (l:Lg) (al ba ca:Option Addr) (cap bc cc:Nat) (x y z u n:Int) (B C:Nat) (W6:World) (t:Array Value) (W7:World):Prop :=
 ∃ (k:Nat) (x1 x2 x3:Int) (X:Nat),l.ops[k]?=some (x1,x2,x3)∧2≤x3-x2∧(∃ f:Nat→Value,t=#[d.val r,.agg #[num l.lo,num l.hi,.slice al l.ops.length cap],.int .u8 x,.int .u8 y,.int .u8 z,.int .u8 u,.pointer (some ⟨B,0,none⟩),.pointer (some ⟨B+1,0,none⟩),undef,undef,undef,undef,(f 12),.pointer (some ⟨C,0,none⟩),num n,.slice ba l.ops.length bc,num 0,.slice ca l.ops.length cc,num 0,(f 19),num k,.pointer (some ⟨X,0,none⟩),undef,undef,(f 24),(f 25),(f 26),(f 27),(f 28),(f 29),(f 30),(f 31),(f 32),undef,(f 34),(f 35),(f 36),(f 37),(f 38),(f 39),(f 40),(f 41),(f 42),(f 43),(f 44),(f 45),(f 46),(f 47),(f 48),(f 49),(f 50),(f 51),(f 52),(f 53),(f 54),(f 55),(f 56),(f 57),(f 58),(f 59),(f 60),(f 61),(f 62),(f 63),(f 64),(f 65),(f 66),(f 67),(f 68),(f 69),(f 70),(f 71),(f 72),(f 73),(f 74),(f 75),(f 76),(f 77),(f 78),(f 79),(f 80),(f 81),(f 82),(f 83),(f 84),(f 85),(f 86),(f 87),(f 88),(f 89),(f 90),(f 91),(f 92),(f 93),(f 94),(f 95),(f 96),(f 97),(f 98),(f 99),(f 100),(f 101),(f 102),(f 103),(f 104),(f 105),(f 106),(f 107),(f 108),(f 109),(f 110),(f 111),(f 112),(f 113),(f 114),(f 115),undef,(f 117),(f 118),(f 119),(f 120),(f 121),(f 122),(f 123),(f 124),(f 125),(f 126),(f 127),(f 128),(f 129),(f 130),(f 131),(f 132),(f 133),undef,undef,undef,undef,undef,undef,undef,undef,undef,undef,undef,undef,undef,undef,undef,undef,undef,undef,undef,undef,undef,undef,undef,undef,undef,undef,undef,undef,undef,undef,undef,undef,undef,undef,undef,undef,undef,undef,undef,undef,undef,undef,undef,undef,undef,undef,undef,undef,undef,undef,undef,undef,undef,undef,undef,undef,undef,undef,undef,undef,undef,undef,undef,undef,undef,undef,undef])∧W6.heap.size≤X∧X<W7.heap.size∧W7.heap[X]?=some (.cells #[num x1,num x2,num x3] 59 (0,0))
theorem known_pick {v12 v19 v24 v25 v26 v27 v28 v29 v30 v31 v32 v34 v35 v36 v37 v38 v39 v40 v41 v42 v43 v44 v45 v46 v47 v48 v49 v50 v51 v52 v53 v54 v55 v56 v57 v58 v59 v60 v61 v62 v63 v64 v65 v66 v67 v68 v69 v70 v71 v72 v73 v74 v75 v76 v77 v78 v79 v80 v81 v82 v83 v84 v85 v86 v87 v88 v89 v90 v91 v92 v93 v94 v95 v96 v97 v98 v99 v100 v101 v102 v103 v104 v105 v106 v107 v108 v109 v110 v111 v112 v113 v114 v115:Value} (d:Dit) (r:Rows6) (l:Lg) (al ba ca:Option Addr) (cap bc cc:Nat) (x y z u n:Int) (B C:Nat) (W6:World) (hL:LogOk d l) (hl:Sl W6 (.slice al l.ops.length cap) 3 (l.ops.map three)) (hlb:1≤l.ops.length∧l.ops.length≤19) (hz:0≤z∧z≤255) (cL:∀ i v,(#[num l.lo,num l.hi,.slice al l.ops.length cap]:Array Value)[i]?=some v→W6.cell? ⟨B+1,i,none⟩=some v) (hB:B+1<W6.heap.size) :
  Lones Tryd.prog (FG 8) [kn17,kn18,kn19] (fun t W7=>Old W6 W7∧t.size=201∧(t[133]?=some (.bool true)∨(t[133]?=some (.bool false)∧KnwD d r l al ba ca cap bc cc x y z u n B C W6 t W7))) #[d.val r,.agg #[num l.lo,num l.hi,.slice al l.ops.length cap],.int .u8 x,.int .u8 y,.int .u8 z,.int .u8 u,.pointer (some ⟨B,0,none⟩),.pointer (some ⟨B+1,0,none⟩),undef,undef,undef,undef,v12,.pointer (some ⟨C,0,none⟩),num n,.slice ba l.ops.length bc,num 0,.slice ca l.ops.length cc,num 0,v19,undef,undef,undef,undef,v24,v25,v26,v27,v28,v29,v30,v31,v32,undef,v34,v35,v36,v37,v38,v39,v40,v41,v42,v43,v44,v45,v46,v47,v48,v49,v50,v51,v52,v53,v54,v55,v56,v57,v58,v59,v60,v61,v62,v63,v64,v65,v66,v67,v68,v69,v70,v71,v72,v73,v74,v75,v76,v77,v78,v79,v80,v81,v82,v83,v84,v85,v86,v87,v88,v89,v90,v91,v92,v93,v94,v95,v96,v97,v98,v99,v100,v101,v102,v103,v104,v105,v106,v107,v108,v109,v110,v111,v112,v113,v114,v115,undef,undef,undef,undef,undef,undef,undef,undef,undef,undef,undef,undef,undef,undef,undef,undef,undef,undef,undef,undef,undef,undef,undef,undef,undef,undef,undef,undef,undef,undef,undef,undef,undef,undef,undef,undef,undef,undef,undef,undef,undef,undef,undef,undef,undef,undef,undef,undef,undef,undef,undef,undef,undef,undef,undef,undef,undef,undef,undef,undef,undef,undef,undef,undef,undef,undef,undef,undef,undef,undef,undef,undef,undef,undef,undef,undef,undef,undef,undef,undef,undef,undef,undef,undef,undef] W6:=by
 have CL:=Lib.hid (fun w2 (o:Old W6 w2) i v (h:(#[num l.lo,num l.hi,.slice al l.ops.length cap]:Array Value)[i]?=some v)=>(o.cell ⟨B+1,i,none⟩ hB).trans (cL i v h))
 have HL:=Lib.hid hl
 have hn0:¬ (l.ops.length:Int)=0:=by omega
 clear cL hl
 intro τ17
 generalize hq17:({ W6 with tape:=τ17 }:World)=u17
 have oA17:Old W6 u17:=(Old.refl _).trans (by rw [← hq17];exact .same rfl)
 clear hq17
 have q2:=CL.out u17 oA17 2 _ rfl
 simp only [kn17,knp18,knp17,knp16,knp15,knp14,knp13,knp12,knp11,knp10,knp9,knp8,knp7,knp6,knp5,knp4,knp3,knp2,knp1,lawB8,seqL,seqR,Tryd.f8]
 gi_wp2
 clear q2
 have hk:0≤z % (l.ops.length:Int)∧z % (l.ops.length:Int)<l.ops.length:=⟨Int.emod_nonneg _ hn0,Int.emod_lt_of_pos _ (by omega)⟩
 generalize z % (l.ops.length:Int)=kz at hk ⊢
 obtain⟨k,rfl⟩:=Int.eq_ofNat_of_zero_le hk.1
 have hlt:k<l.ops.length:=by omega
 obtain⟨b,off,ha,hbl,hcl⟩:=HL.out.get (by simp;omega)
 subst ha
 have hx:l.ops[k]?=some l.ops[k]:=List.getElem?_eq_getElem hlt
 generalize l.ops[k]=o at hx
 obtain⟨x1,x2,x3⟩:=o
 have E:=fun (i:Nat) (v:Value) (hv:(three (x1,x2,x3))[i]?=some v) (w2:World) (o:Old W6 w2)=>(o.cell ⟨b,off+k * 3+i,none⟩ hbl).trans (hcl k i (three (x1,x2,x3)) v (by simp [hx]) hv)
 have HX:=Lib.hid hx
 clear hcl hx
 intro τ18
 generalize hq18:({ u17 with tape:=τ18 }:World)=u18
 have oA18:Old W6 u18:=oA17.trans (by rw [← hq18];exact .same rfl)
 clear hq18
 have q2:=CL.out u18 oA18 2 _ rfl
 have g0:=E 0 _ rfl u18 oA18;have g1:=E 1 _ rfl u18 oA18;have g2:=E 2 _ rfl u18 oA18
 rw [Nat.add_zero] at g0
 generalize hY:u18.alloc (.cells #[num x1,num x2,num x3] 59)=Y
 have oY:Old u18 Y:=by rw [← hY];exact .nx (alloc_nx (Below.refl _ _) _)
 have gY:Y.heap[u18.heap.size]?=some (.cells #[num x1,num x2,num x3] 59 (0,0)):=by rw [← hY];exact heap_alloc_new _ _
 have sY:u18.heap.size<Y.heap.size:=by rw [← hY];simp
 clear E
 simp only [kn18,knp18,knp17,knp16,knp15,knp14,knp13,knp12,knp11,knp10,knp9,knp8,knp7,knp6,knp5,knp4,knp3,knp2,knp1,lawB8,seqL,seqR,Tryd.f8]
 gi_wp2
 clear q2 g0 g1 g2 hY
 have sX:=oA18.size
 generalize u18.heap.size=X at *
 intro τ19
 generalize hq19:({ Y with tape:=τ19 }:World)=u19
 have oA19:Old W6 u19:=(oA18.trans oY).trans (by rw [← hq19];exact .same rfl)
 have g19:u19.heap[X]?=some (.cells #[num x1,num x2,num x3] 59 (0,0)):=by rw [← hq19];exact gY
 have s19:X<u19.heap.size:=by rw [← hq19];exact sY
 clear hq19 gY sY oY
 have hop:=hL.op k _ HX.out
 dsimp only at hop
 have q1:u19.cell? ⟨X,1,none⟩=some (num x2):=by unfold World.cell?;dsimp only;rw [g19];rfl
 have q2:u19.cell? ⟨X,2,none⟩=some (num x3):=by unfold World.cell?;dsimp only;rw [g19];rfl
 have G19:=Lib.hid g19
 clear g19
 simp only [kn19,knp18,knp17,knp16,knp15,knp14,knp13,knp12,knp11,knp10,knp9,knp8,knp7,knp6,knp5,knp4,knp3,knp2,knp1,lawB8,seqL,seqR,Tryd.f8]
 by_cases h2:x3-x2<2
 ·have e2:decide (x3-x2<2)=true:=decide_eq_true h2
  gi_wp2
  first | exact⟨oA19,rfl,.inl rfl⟩ | exact⟨oA19,rfl,rfl⟩ | exact⟨oA19,.inl rfl⟩
 ·have e2:decide (x3-x2<2)=false:=decide_eq_false h2
  gi_wp2
  have h3:2≤x3-x2:=by omega
  have hX2:W6.heap.size≤X:=sX
  refine⟨oA19,rfl,.inr ⟨rfl,k,x1,x2,x3,X,HX.out,h3,ex_f rfl,hX2,s19,G19.out⟩⟩
end Go.Proofs.YtolholkjeehamaaDoor

namespace Go.Proofs.YtolholkjeehamaaDoor
open Go.RowKit Go.Con Go.Conc
local instance:Lone:=mainL
def KnwR (d:Dit) (r:Rows6) (l:Lg) (al ba ca:Option Addr) (cap bc cc:Nat) (x y z u n:Int) (B C k X:Nat) (x1 x2 x3:Int) (W7:World) (t:Array Value) (W8:World):Prop :=
 Old W7 W8∧∃ (md:Int) (PB S:Nat),(x2<md∧md<x3)∧(∃ f:Nat→Value,t=#[d.val r,.agg #[num l.lo,num l.hi,.slice al l.ops.length cap],.int .u8 x,.int .u8 y,.int .u8 z,.int .u8 u,.pointer (some ⟨B,0,none⟩),.pointer (some ⟨B+1,0,none⟩),undef,undef,undef,undef,(f 12),.pointer (some ⟨C,0,none⟩),num n,.slice ba l.ops.length bc,num 0,.slice ca l.ops.length cc,num 0,(f 19),num k,.pointer (some ⟨X,0,none⟩),num md,.pointer (some ⟨PB,0,none⟩),(f 24),(f 25),(f 26),(f 27),(f 28),(f 29),(f 30),(f 31),(f 32),undef,(f 34),(f 35),(f 36),(f 37),(f 38),(f 39),(f 40),(f 41),(f 42),(f 43),(f 44),(f 45),(f 46),(f 47),(f 48),(f 49),(f 50),(f 51),(f 52),(f 53),(f 54),(f 55),(f 56),(f 57),(f 58),(f 59),(f 60),(f 61),(f 62),(f 63),(f 64),(f 65),(f 66),(f 67),(f 68),(f 69),(f 70),(f 71),(f 72),(f 73),(f 74),(f 75),(f 76),(f 77),(f 78),(f 79),(f 80),(f 81),(f 82),(f 83),(f 84),(f 85),(f 86),(f 87),(f 88),(f 89),(f 90),(f 91),(f 92),(f 93),(f 94),(f 95),(f 96),(f 97),(f 98),(f 99),(f 100),(f 101),(f 102),(f 103),(f 104),(f 105),(f 106),(f 107),(f 108),(f 109),(f 110),(f 111),(f 112),(f 113),(f 114),(f 115),undef,(f 117),(f 118),(f 119),(f 120),(f 121),(f 122),(f 123),(f 124),(f 125),(f 126),(f 127),(f 128),(f 129),(f 130),(f 131),(f 132),(f 133),undef,(f 135),(f 136),(f 137),(f 138),(f 139),(f 140),(f 141),(f 142),(f 143),(f 144),(f 145),(f 146),(f 147),(f 148),(f 149),(f 150),(f 151),(f 152),(f 153),(f 154),(f 155),(f 156),(f 157),(f 158),(f 159),(f 160),(f 161),(f 162),(f 163),(f 164),(f 165),(f 166),(f 167),undef,undef,undef,undef,undef,undef,undef,undef,undef,undef,undef,undef,undef,undef,undef,undef,undef,undef,undef,undef,undef,undef,undef,undef,undef,undef,undef,undef,undef,undef,undef,undef,undef])∧PB<W8.heap.size∧(∀ i v,(#[num n,num n,.slice (some ⟨S,0,none⟩) 3 3]:Array Value)[i]?=some v→W8.cell? ⟨PB,i,none⟩=some v)∧W8.heap[S]?=some (.cells #[num x1,num x2,num x3,num x1,num x2,num md,num x1,num md,num x3] 59 (0,0))
theorem known_split {v12 v19 v24 v25 v26 v27 v28 v29 v30 v31 v32 v34 v35 v36 v37 v38 v39 v40 v41 v42 v43 v44 v45 v46 v47 v48 v49 v50 v51 v52 v53 v54 v55 v56 v57 v58 v59 v60 v61 v62 v63 v64 v65 v66 v67 v68 v69 v70 v71 v72 v73 v74 v75 v76 v77 v78 v79 v80 v81 v82 v83 v84 v85 v86 v87 v88 v89 v90 v91 v92 v93 v94 v95 v96 v97 v98 v99 v100 v101 v102 v103 v104 v105 v106 v107 v108 v109 v110 v111 v112 v113 v114 v115 v117 v118 v119 v120 v121 v122 v123 v124 v125 v126 v127 v128 v129 v130 v131 v132 v133:Value} (d:Dit) (r:Rows6) (l:Lg) (al ba ca:Option Addr) (cap bc cc:Nat) (x y z u n m:Int) (B C k X:Nat) (x1 x2 x3:Int) (W7:World) (hu:0≤u∧u≤255) (hx:(0≤x2∧x2≤999999999)∧(0≤x3∧x3≤999999999)∧2≤x3-x2) (hn : -100≤n∧n≤100) (hX:W7.heap[X]?=some (.cells #[num x1,num x2,num x3] 59 (0,0))) (cC:∀ i v,(#[num n,num m,.slice al l.ops.length cap]:Array Value)[i]?=some v→W7.cell? ⟨C,i,none⟩=some v) (hC:C<W7.heap.size) :
  Lones Tryd.prog (FG 8) [kn21,kn22,kn23,kn24] (KnwR d r l al ba ca cap bc cc x y z u n B C k X x1 x2 x3 W7) #[d.val r,.agg #[num l.lo,num l.hi,.slice al l.ops.length cap],.int .u8 x,.int .u8 y,.int .u8 z,.int .u8 u,.pointer (some ⟨B,0,none⟩),.pointer (some ⟨B+1,0,none⟩),undef,undef,undef,undef,v12,.pointer (some ⟨C,0,none⟩),num n,.slice ba l.ops.length bc,num 0,.slice ca l.ops.length cc,num 0,v19,num k,.pointer (some ⟨X,0,none⟩),undef,undef,v24,v25,v26,v27,v28,v29,v30,v31,v32,undef,v34,v35,v36,v37,v38,v39,v40,v41,v42,v43,v44,v45,v46,v47,v48,v49,v50,v51,v52,v53,v54,v55,v56,v57,v58,v59,v60,v61,v62,v63,v64,v65,v66,v67,v68,v69,v70,v71,v72,v73,v74,v75,v76,v77,v78,v79,v80,v81,v82,v83,v84,v85,v86,v87,v88,v89,v90,v91,v92,v93,v94,v95,v96,v97,v98,v99,v100,v101,v102,v103,v104,v105,v106,v107,v108,v109,v110,v111,v112,v113,v114,v115,undef,v117,v118,v119,v120,v121,v122,v123,v124,v125,v126,v127,v128,v129,v130,v131,v132,v133,undef,undef,undef,undef,undef,undef,undef,undef,undef,undef,undef,undef,undef,undef,undef,undef,undef,undef,undef,undef,undef,undef,undef,undef,undef,undef,undef,undef,undef,undef,undef,undef,undef,undef,undef,undef,undef,undef,undef,undef,undef,undef,undef,undef,undef,undef,undef,undef,undef,undef,undef,undef,undef,undef,undef,undef,undef,undef,undef,undef,undef,undef,undef,undef,undef,undef,undef] W7:=by
 have oC:∀ w2,Old W7 w2→∀ i v,(#[num n,num m,.slice al l.ops.length cap]:Array Value)[i]?=some v→w2.cell? ⟨C,i,none⟩=some v:=fun w2 o i v h=>(o.cell ⟨C,i,none⟩ hC).trans (cC i v h)
 have CC:=Lib.hid oC
 have hXl:=lt_of_some hX
 have XX:=Lib.hid (fun w2 (o:Old W7 w2) i v (h:(#[num x1,num x2,num x3]:Array Value)[i]?=some v)=>(o.cell ⟨X,i,none⟩ hXl).trans (show W7.cell? ⟨X,i,none⟩=some v by unfold World.cell?;dsimp only;rw [hX];exact h))
 clear oC cC hX
 have h1:0≤u % (x3-x2-1)∧u % (x3-x2-1)<x3-x2-1:=⟨Int.emod_nonneg _ (by omega),Int.emod_lt_of_pos _ (by omega)⟩
 have hne:¬ x3-x2-1=0:=by omega
 have hts:u.tmod (x3-x2-1)=u % (x3-x2-1):=Int.tmod_eq_emod_of_nonneg hu.1
 intro τ21
 generalize hq21:({ W7 with tape:=τ21 }:World)=u21
 have oA21:Old W7 u21:=(Old.refl _).trans (by rw [← hq21];exact .same rfl)
 clear hq21
 have q1:=XX.out u21 oA21 1 _ rfl
 have q2:=XX.out u21 oA21 2 _ rfl
 simp only [kn21,knp18,knp17,knp16,knp15,knp14,knp13,knp12,knp11,knp10,knp9,knp8,knp7,knp6,knp5,knp4,knp3,knp2,knp1,lawB8,seqL,seqR,Tryd.f8]
 gi_big_quiet_th (fail)
 have oB21:Old W7 (u21.drewN nq):=oA21.trans (.nx (Nx.drewN (Below.refl _ _) _))
 clear q1 q2 hts
 refine⟨rfl,rfl,?_⟩
 dsimp only
 have hmd:x2<x2+1+u % (x3-x2-1)∧x2+1+u % (x3-x2-1)<x3:=by omega
 generalize x2+1+u % (x3-x2-1)=md at hmd ⊢
 clear h1 hne
 intro τ22
 generalize hq22:({ (u21.drewN nq) with tape:=τ22 }:World)=u22
 have oA22:Old W7 u22:=oB21.trans (by rw [← hq22];exact .same rfl)
 clear hq22
 have q0:=CC.out u22 oA22 0 _ rfl
 have q1:=CC.out u22 oA22 1 _ rfl
 have q2:=CC.out u22 oA22 2 _ rfl
 generalize hY:u22.alloc (.cells #[num n,num m,.slice al l.ops.length cap] 35)=Y
 have oY:Old u22 Y:=by rw [← hY];exact .nx (alloc_nx (Below.refl _ _) _)
 have gY:Y.heap[u22.heap.size]?=some (.cells #[num n,num m,.slice al l.ops.length cap] 35 (0,0)):=by rw [← hY];exact heap_alloc_new _ _
 simp only [kn22,knp18,knp17,knp16,knp15,knp14,knp13,knp12,knp11,knp10,knp9,knp8,knp7,knp6,knp5,knp4,knp3,knp2,knp1,lawB8,seqL,seqR,Tryd.f8]
 gi_wp2
 clear q0 q1 q2 hY
 have sP:=oA22.size
 generalize u22.heap.size=PB at *
 intro τ23
 generalize hq23:({ Y with tape:=τ23 }:World)=u23
 have oA23:Old W7 u23:=(oA22.trans oY).trans (by rw [← hq23];exact .same rfl)
 have g23:u23.heap[PB]?=some (.cells #[num n,num m,.slice al l.ops.length cap] 35 (0,0)):=by rw [← hq23];exact gY
 clear hq23 gY oY
 have k35:=toFG 8 (m:=0) (span_any n n u23)
 have hPl:PB<u23.heap.size:=lt_of_some g23
 have G23:=Lib.hid g23
 clear g23
 simp only [kn23,knp18,knp17,knp16,knp15,knp14,knp13,knp12,knp11,knp10,knp9,knp8,knp7,knp6,knp5,knp4,knp3,knp2,knp1,lawB8,seqL,seqR,Tryd.f8]
 gi_wp2_with (first
  | (gi_at_call 35;refine CallsIn.mono k35 ?_;rintro e w6 ⟨rfl,x6⟩;have h6:=(x6.block PB hPl).trans G23.out;have f0:w6.frozen? ⟨PB,0,none⟩=false:=frozen_of_row _ _ _ _ _ h6;have f1:w6.frozen? ⟨PB,1,none⟩=false:=frozen_of_row _ _ _ _ _ h6;have z0:w6.cell? ⟨PB,0,none⟩=some (num n):=(by unfold World.cell?;dsimp only;rw [h6];rfl);have z1:w6.cell? ⟨PB,1,none⟩=some (num m):=(by unfold World.cell?;dsimp only;rw [h6];rfl);have H6:=Lib.hid h6;clear h6)
  | gi_in)
 have oC23:Old W7 w6:=oA23.trans (.nx x6)
 have hV:∀ b,b≠PB→((w6.setCell ⟨PB,0,none⟩ (num n)).setCell ⟨PB,1,none⟩ (num n)).heap[b]?=w6.heap[b]?:=fun b hb=>by rw [heap_setCell_other _ _ _ _ (by exact hb),heap_setCell_other _ _ _ _ (by exact hb)]
 have hVP:((w6.setCell ⟨PB,0,none⟩ (num n)).setCell ⟨PB,1,none⟩ (num n)).heap[PB]?=some (.cells #[num n,num n,.slice al l.ops.length cap] 35 (0,0)):=by
  unfold World.setCell
  simp [Array.getElem?_modify,H6.out]
 have hVs:((w6.setCell ⟨PB,0,none⟩ (num n)).setCell ⟨PB,1,none⟩ (num n)).heap.size=w6.heap.size:=by simp
 generalize (w6.setCell ⟨PB,0,none⟩ (num n)).setCell ⟨PB,1,none⟩ (num n)=V at *
 have oV:Old W7 V:=old_then oC23 (by omega) fun b hb=>hV b (by omega)
 clear hV hVs oC23 oA23 H6 G23 f0 f1 z0 z1 x6 k35 oA22 hPl
 intro τ24
 generalize hq24:({ V with tape:=τ24 }:World)=u24
 have oA24:Old W7 u24:=oV.trans (by rw [← hq24];exact .same rfl)
 have g24:u24.heap[PB]?=some (.cells #[num n,num n,.slice al l.ops.length cap] 35 (0,0)):=by rw [← hq24];exact hVP
 clear hq24 hVP
 have q0:=XX.out u24 oA24 0 _ rfl
 have q1:=XX.out u24 oA24 1 _ rfl
 have q2:=XX.out u24 oA24 2 _ rfl
 have hPl:PB<u24.heap.size:=lt_of_some g24
 generalize hT:u24.alloc (.cells #[num x1,num x2,num x3,num x1,num x2,num md,num x1,num md,num x3] 59)=T
 have oT:Old u24 T:=by rw [← hT];exact .nx (alloc_nx (Below.refl _ _) _)
 have gT:T.heap[u24.heap.size]?=some (.cells #[num x1,num x2,num x3,num x1,num x2,num md,num x1,num md,num x3] 59 (0,0)):=by rw [← hT];exact heap_alloc_new _ _
 have gP:T.heap[PB]?=some (.cells #[num n,num n,.slice al l.ops.length cap] 35 (0,0)):=by rw [← hT];exact (heap_alloc_old _ _ hPl).trans g24
 have sT:u24.heap.size<T.heap.size:=by rw [← hT];simp
 have z2:T.cell? ⟨PB,2,none⟩=some (.slice al l.ops.length cap):=by unfold World.cell?;dsimp only;rw [gP];rfl
 have f2:T.frozen? ⟨PB,2,none⟩=false:=frozen_of_row _ _ _ _ _ gP
 have GT:=Lib.hid gT
 have GP:=Lib.hid gP
 clear g24 gT gP
 simp only [kn24,knp18,knp17,knp16,knp15,knp14,knp13,knp12,knp11,knp10,knp9,knp8,knp7,knp6,knp5,knp4,knp3,knp2,knp1,lawB8,seqL,seqR,Tryd.f8]
 gi_wp2
 clear q0 q1 q2 z2 f2 hT
 have hne:u24.heap.size≠PB:=by omega
 have oU:Old W7 T:=oA24.trans oT
 refine⟨old_then oU (by simp) fun b hb=>heap_setCell_other _ _ _ _ (by show b≠PB;omega),md,PB,u24.heap.size,hmd,ex_f rfl,by simp;omega,fun i v h=>?_,(heap_setCell_other _ _ _ _ (by exact hne)).trans GT.out⟩
 have hh:(T.setCell ⟨PB,2,none⟩ (.slice (some ⟨u24.heap.size,0,none⟩) 3 3)).heap[PB]?=some (.cells #[num n,num n,.slice (some ⟨u24.heap.size,0,none⟩) 3 3] 35 (0,0)):=by
  unfold World.setCell
  simp [Array.getElem?_modify,GP.out]
 unfold World.cell?
 dsimp only
 rw [hh]
 exact h
end Go.Proofs.YtolholkjeehamaaDoor

namespace Go.Proofs.YtolholkjeehamaaDoor
open Go.RowKit Go.Con Go.Conc
local instance:Lone:=mainL
noncomputable def body34:Code:=match Tryd.f34.body with | some c=>c | none=>.skip
noncomputable def nr1:Code:=seqL (seqR body34)
end Go.Proofs.YtolholkjeehamaaDoor

namespace Go.Con
open Go Go.Conc
section
variable [Lone]
variable {P:Program} {maps:Bool} {E Fz Arg:Nat→Prop} {W0:World} {f:FuncId} {t:Array Value} {k:List Item} {cs:List Frame} {W:World}
variable {Q:(Nat→Prop)→(Nat→Prop)→Goroutine→World→Prop} {φ:Ph} {pend:List Nat}
theorem Gm.pass {ops:Array Oper} {i:Nat} {rest:List Nat} {o:Oper} (ho:ops[i]?=some o) (hw:Region.wanted o (yielded ops t)=false) (hop:okOp P maps o.op=true) (hv:okVal P (Fr f t []).eval o.op=true)
  (hg:GoM P maps E Fz Arg W0 Q φ pend (Fr f (putD t o.dst undef) (.inRegion ops rest :: k)) cs W):GoM P maps E Fz Arg W0 Q φ pend (Fr f t (.inRegion ops (i :: rest) :: k)) cs W:=by
 have he:(Fr f t (.inRegion ops (i :: rest) :: k)).eval=(Fr f t []).eval:=funext fun x=>by cases x<;>rfl
 refine GoM.step (srh_op rfl rfl ho hop (by rw [he];exact hv)) ⟨fun it t' e=>?_,.inl rfl,fun d hdm=>(List.not_mem_nil hdm).elim,.inl rfl⟩ fun τ hτ=>?_
 ·cases e
  simp only [okItem1,ho,Option.all_some]
  exact hop
 ·refine⟨(Fr f t (.inRegion ops (i :: rest) :: k)).finish undef,cs,{ W with tape:=τ },?_,fun h=>h,?_⟩
  ·unfold frameSem
   dsimp only
   unfold runSem
   dsimp only
   rw [ho]
   simp only [Option.map_some,Option.getD_some,hw,Bool.false_eq_true,if_false]
   rfl
  ·rw [Fr_finish ho]
   exact Gm.tape hg
end
end Go.Con
namespace Go.Proofs.YtolholkjeehamaaDoor
open Go.RowKit Go.Con Go.Conc
theorem unwanted_guard {ops:Array Oper} {o:Oper} {i d:Nat} {b:Bool} {t:Array Value} (hg:o.guard=some (i,b)) (hd:(ops[i]?).bind (·.dst)=some d) (hv:t[d]?=some (.bool (!b))):Region.wanted o (yielded ops t)=false:=by
 unfold Region.wanted yielded
 cases b<;>simp [hg,hd,hv]
section
variable {dst:Option Nat} {ty:TypeId} {pos:String} {af:Array Edge} {x y c:Nat} {w:World} {gd:Option (Nat×Bool)} (e:Operand→Value)
theorem lenS_run {T:TypeId} {elem:TypeId} (hT:Tryd.prog.underlying T=some (.slice elem)) {a:Option Addr} {n k:Nat} (h:e (.tmp x)=.slice a n k) (τ:Tape):(execOp e ⟨dst,.call { callee:=.builtin .len,args:=#[.tmp x],argTypes:=#[T] },ty,pos,af,gd⟩).run Tryd.prog { w with tape:=τ }=.ok (.value (num n)) { w with tape:=τ }:=by
 simp [execOp,resolve,invoke,builtin,go_sem,h,hT]
theorem pickT_run (h:e (.tmp c)=.bool true) (h2:e (.const (.bool true))=.bool true) (τ:Tape):(execOp e ⟨dst,.pick (.tmp c) (.const (.bool true)) (.tmp x),ty,pos,af,gd⟩).run Tryd.prog { w with tape:=τ }=.ok (.value (.bool true)) { w with tape:=τ }:=by
 simp [execOp,go_sem,h,h2]
theorem pickF_run {v:Value} (h:e (.tmp c)=.bool false) (h2:e (.tmp x)=v) (τ:Tape):(execOp e ⟨dst,.pick (.tmp c) (.const (.bool true)) (.tmp x),ty,pos,af,gd⟩).run Tryd.prog { w with tape:=τ }=.ok (.value v) { w with tape:=τ }:=by
 simp [execOp,go_sem,h,h2]
end
end Go.Proofs.YtolholkjeehamaaDoor

namespace Go.Proofs.YtolholkjeehamaaDoor
open Go.RowKit Go.Con Go.Conc
local instance:Lone:=mainL
theorem results8 (v:Value) (t:Array Value) (h:t[12]?=some v) (σ:Rn):ResultsC Tryd.prog Tryd.f8 (t.map (ren σ)) (ren σ v):=by
 have:=resultsC_tmp (P:=Tryd.prog) (fn:=Tryd.f8) (t:=12) rfl (t.map (ren σ))
 simp only [Array.getD_eq_getD_getElem?,Array.getElem?_map,h,Option.map_some,Option.getD_some] at this
 exact this
section
variable {dst:Option Nat} {ty:TypeId} {pos:String} {af:Array Edge} {x y:Nat} {w:World} {gd:Option (Nat×Bool)} (e:Operand→Value)
theorem ix55k_run {b o n c j:Nat} (h:e (.tmp x)=.slice (some ⟨b,o,none⟩) n c) (h2:e (.const (.int .i64 j))=num j) (hn:j<n) (τ:Tape):(execOp e ⟨dst,.indexAddr 55 (.tmp x) (.const (.int .i64 j)),ty,pos,af,gd⟩).run Tryd.prog { w with tape:=τ }=.ok (.value (.pointer (some ⟨b,o+j,none⟩))) { w with tape:=τ }:=by
 simp [execOp,go_sem,h,h2,hn]
theorem ld62g_run {a:Addr} {v:Value} (h:e (.tmp x)=.pointer (some a)) (hc:w.cell? a=some v) (τ:Tape) :
  (execOp e ⟨dst,.load 62 (.tmp x),ty,pos,af,gd⟩).run Tryd.prog { w with tape:=τ }=.ok (.value v) { w with tape:=τ }:=by
 have hc' : ({ w with tape:=τ }:World).cell? a=some v:=hc
 simp [execOp,go_sem,h,hc']
theorem eqc62_run {n m:Int} {q:Bool} (h:e (.tmp x)=num n) (h2:e (.const (.int .i64 m))=num m) (hq:(n == m)=q) (τ:Tape):(execOp e ⟨dst,.binOp .eql 62 (.tmp x) (.const (.int .i64 m)) 62,ty,pos,af,gd⟩).run Tryd.prog { w with tape:=τ }=.ok (.value (.bool q)) { w with tape:=τ }:=by
 subst hq
 simp [execOp,go_sem,h,h2]
end
theorem known_last (E Fz Arg:Nat→Prop) (W0:World) (hArg:∀ x,Arg x↔x<W0.heap.size) (Post:Value→World→Prop) (φ:Ph) (t0:Array Value) (W9:World) (hg:Glob W9) (gb go gc:Nat) (y0 y1 y2:Int) (c0:W9.cell? ⟨gb,go+0,none⟩=some (num y0)) (c1:W9.cell? ⟨gb,go+1,none⟩=some (num y1)) (c2:W9.cell? ⟨gb,go+2,none⟩=some (num y2)) (hgb:gb<W9.heap.size) (hy:y0=1↔y1=1∨y2=1)
  (hs:t0.size=201) (h15:t0[15]?=some (.slice (some ⟨gb,go,none⟩) 3 gc)) (h16:t0[16]?=some (num 0))
  (hPost:∀ Fz1 ρ D own A fr W1 W',Here Tryd.prog true E Fz1 Arg W0 ρ D own A fr [] W1 W'→Post (ren ρ (.bool true)) W') :
  GoM Tryd.prog true E Fz Arg W0 (AtEnd Tryd.prog Post) φ [] (Fr 8 t0 [.code kn26,.code .ret]) [] W9:=by
 rw [kn26_eq]
 by_cases h1:y1=1
 ·have hA1:(y1 == 1)=true:=by simpa using h1
  have hA0:(y0 == 1)=true:=by simpa using hy.2 (.inl h1)
  refine Gm.regionAny (by kernel_rfl) (fun x=>Old W9 x) (fun i=>([num 0,.bool true,.bool true,.slice (some ⟨gb,go,none⟩) 3 gc,num 3,.bool true,.bool true,.bool true,.slice (some ⟨gb,go,none⟩) 3 gc,.pointer (some ⟨gb,go+0,none⟩),num y0,.bool true,.slice (some ⟨gb,go,none⟩) 3 gc,.pointer (some ⟨gb,go+1,none⟩),num y1,.bool true,.bool true,undef,undef,undef,undef,.bool true,.bool true,.bool true,.bool true,.bool true,.bool true,.bool true]:List Value).getD i undef) (by rw [hs];kernel_rfl) (.same rfl) ?_ ?_
  ·intro i hi t W Fz φ rest hC hsz hgot hold hk
   rw [show opkn26.size=28 by kernel_rfl] at hi
   match i,hi with
   | 0,_ =>
    have ef16:t[16]?=_:=(hold 16 (by kernel_rfl)).trans h16
    exact Gm.op (num 0) W rfl rfl (by kernel_rfl) rfl (mvg_run _ (eval_tmp ef16)) id (hk W Fz φ hC)
   | 1,_ =>
    have e0:t[174]?=some (num 0):=hgot 0 174 (by kernel_rfl) (by kernel_rfl)
    exact Gm.op (.bool true) W rfl rfl (by kernel_rfl) rfl (eqcR37_run (n:=0) _ (eval_tmp e0) rfl) id (hk W Fz φ hC)
   | 2,_ =>
    have e1:t[175]?=some (.bool true):=hgot 1 175 (by kernel_rfl) (by kernel_rfl)
    exact Gm.op (.bool true) W rfl rfl (by kernel_rfl) rfl (mvg_run _ (eval_tmp e1)) id (hk W Fz φ hC)
   | 3,_ =>
    have e2:t[176]?=some (.bool true):=hgot 2 176 (by kernel_rfl) (by kernel_rfl)
    have ef15:t[15]?=_:=(hold 15 (by kernel_rfl)).trans h15
    exact Gm.op (.slice (some ⟨gb,go,none⟩) 3 gc) W rfl (wanted_guard (i:=2) (b:=true) (d:=176) rfl rfl e2) (by kernel_rfl) rfl (mvg_run _ (eval_tmp ef15)) id (hk W Fz φ hC)
   | 4,_ =>
    have e2:t[176]?=some (.bool true):=hgot 2 176 (by kernel_rfl) (by kernel_rfl)
    have e3:t[177]?=some (.slice (some ⟨gb,go,none⟩) 3 gc):=hgot 3 177 (by kernel_rfl) (by kernel_rfl)
    exact Gm.op (num 3) W rfl (wanted_guard (i:=2) (b:=true) (d:=176) rfl rfl e2) (by kernel_rfl) rfl (lenS_run (a:=some ⟨gb,go,none⟩) (n:=3) (k:=gc) _ Tryd.underlying55 (eval_tmp e3)) id (hk W Fz φ hC)
   | 5,_ =>
    have e2:t[176]?=some (.bool true):=hgot 2 176 (by kernel_rfl) (by kernel_rfl)
    have e4:t[178]?=some (num 3):=hgot 4 178 (by kernel_rfl) (by kernel_rfl)
    exact Gm.op (.bool true) W rfl (wanted_guard (i:=2) (b:=true) (d:=176) rfl rfl e2) (by kernel_rfl) rfl (eqcR3_run (n:=3) _ (eval_tmp e4) rfl) id (hk W Fz φ hC)
   | 6,_ =>
    have e2:t[176]?=some (.bool true):=hgot 2 176 (by kernel_rfl) (by kernel_rfl)
    have e5:t[179]?=some (.bool true):=hgot 5 179 (by kernel_rfl) (by kernel_rfl)
    exact Gm.op (.bool true) W rfl rfl (by kernel_rfl) rfl (pick_run _ (eval_tmp e2) (eval_tmp e5)) id (hk W Fz φ hC)
   | 7,_ =>
    have e6:t[180]?=some (.bool true):=hgot 6 180 (by kernel_rfl) (by kernel_rfl)
    exact Gm.op (.bool true) W rfl rfl (by kernel_rfl) rfl (mvg_run _ (eval_tmp e6)) id (hk W Fz φ hC)
   | 8,_ =>
    have e7:t[181]?=some (.bool true):=hgot 7 181 (by kernel_rfl) (by kernel_rfl)
    have ef15:t[15]?=_:=(hold 15 (by kernel_rfl)).trans h15
    exact Gm.op (.slice (some ⟨gb,go,none⟩) 3 gc) W rfl (wanted_guard (i:=7) (b:=true) (d:=181) rfl rfl e7) (by kernel_rfl) rfl (mvg_run _ (eval_tmp ef15)) id (hk W Fz φ hC)
   | 9,_ =>
    have e7:t[181]?=some (.bool true):=hgot 7 181 (by kernel_rfl) (by kernel_rfl)
    have e8:t[182]?=some (.slice (some ⟨gb,go,none⟩) 3 gc):=hgot 8 182 (by kernel_rfl) (by kernel_rfl)
    exact Gm.op (.pointer (some ⟨gb,go+0,none⟩)) W rfl (wanted_guard (i:=7) (b:=true) (d:=181) rfl rfl e7) (by kernel_rfl) rfl (ix55k_run (j:=0) (n:=3) (c:=gc) _ (eval_tmp e8) rfl (by omega)) id (hk W Fz φ hC)
   | 10,_ =>
    have e7:t[181]?=some (.bool true):=hgot 7 181 (by kernel_rfl) (by kernel_rfl)
    have e9:t[183]?=some (.pointer (some ⟨gb,go+0,none⟩)):=hgot 9 183 (by kernel_rfl) (by kernel_rfl)
    exact Gm.op (num y0) W rfl (wanted_guard (i:=7) (b:=true) (d:=181) rfl rfl e7) (by kernel_rfl) rfl (ld62g_run _ (eval_tmp e9) ((hC.cell ⟨gb,go+0,none⟩ hgb).trans c0)) id (hk W Fz φ hC)
   | 11,_ =>
    have e7:t[181]?=some (.bool true):=hgot 7 181 (by kernel_rfl) (by kernel_rfl)
    have e10:t[184]?=some (num y0):=hgot 10 184 (by kernel_rfl) (by kernel_rfl)
    exact Gm.op (.bool true) W rfl (wanted_guard (i:=7) (b:=true) (d:=181) rfl rfl e7) (by kernel_rfl) rfl (eqc62_run (n:=y0) (m:=1) _ (eval_tmp e10) rfl hA0) id (hk W Fz φ hC)
   | 12,_ =>
    have e7:t[181]?=some (.bool true):=hgot 7 181 (by kernel_rfl) (by kernel_rfl)
    have ef15:t[15]?=_:=(hold 15 (by kernel_rfl)).trans h15
    exact Gm.op (.slice (some ⟨gb,go,none⟩) 3 gc) W rfl (wanted_guard (i:=7) (b:=true) (d:=181) rfl rfl e7) (by kernel_rfl) rfl (mvg_run _ (eval_tmp ef15)) id (hk W Fz φ hC)
   | 13,_ =>
    have e7:t[181]?=some (.bool true):=hgot 7 181 (by kernel_rfl) (by kernel_rfl)
    have e12:t[186]?=some (.slice (some ⟨gb,go,none⟩) 3 gc):=hgot 12 186 (by kernel_rfl) (by kernel_rfl)
    exact Gm.op (.pointer (some ⟨gb,go+1,none⟩)) W rfl (wanted_guard (i:=7) (b:=true) (d:=181) rfl rfl e7) (by kernel_rfl) rfl (ix55k_run (j:=1) (n:=3) (c:=gc) _ (eval_tmp e12) rfl (by omega)) id (hk W Fz φ hC)
   | 14,_ =>
    have e7:t[181]?=some (.bool true):=hgot 7 181 (by kernel_rfl) (by kernel_rfl)
    have e13:t[187]?=some (.pointer (some ⟨gb,go+1,none⟩)):=hgot 13 187 (by kernel_rfl) (by kernel_rfl)
    exact Gm.op (num y1) W rfl (wanted_guard (i:=7) (b:=true) (d:=181) rfl rfl e7) (by kernel_rfl) rfl (ld62g_run _ (eval_tmp e13) ((hC.cell ⟨gb,go+1,none⟩ hgb).trans c1)) id (hk W Fz φ hC)
   | 15,_ =>
    have e7:t[181]?=some (.bool true):=hgot 7 181 (by kernel_rfl) (by kernel_rfl)
    have e14:t[188]?=some (num y1):=hgot 14 188 (by kernel_rfl) (by kernel_rfl)
    exact Gm.op (.bool true) W rfl (wanted_guard (i:=7) (b:=true) (d:=181) rfl rfl e7) (by kernel_rfl) rfl (eqc62_run (n:=y1) (m:=1) _ (eval_tmp e14) rfl hA1) id (hk W Fz φ hC)
   | 16,_ =>
    have e7:t[181]?=some (.bool true):=hgot 7 181 (by kernel_rfl) (by kernel_rfl)
    have e15:t[189]?=some (.bool true):=hgot 15 189 (by kernel_rfl) (by kernel_rfl)
    exact Gm.op (.bool true) W rfl (wanted_guard (i:=7) (b:=true) (d:=181) rfl rfl e7) (by kernel_rfl) rfl (mvg_run _ (eval_tmp e15)) id (hk W Fz φ hC)
   | 17,_ =>
    have e16:t[190]?=some (.bool true):=hgot 16 190 (by kernel_rfl) (by kernel_rfl)
    have ef15:t[15]?=_:=(hold 15 (by kernel_rfl)).trans h15
    exact Gm.pass rfl (unwanted_guard (i:=16) (b:=false) (d:=190) rfl rfl e16) (by kernel_rfl) rfl (hk W Fz φ hC)
   | 18,_ =>
    have e16:t[190]?=some (.bool true):=hgot 16 190 (by kernel_rfl) (by kernel_rfl)
    have e17:t[191]?=some (undef):=hgot 17 191 (by kernel_rfl) (by kernel_rfl)
    exact Gm.pass rfl (unwanted_guard (i:=16) (b:=false) (d:=190) rfl rfl e16) (by kernel_rfl) rfl (hk W Fz φ hC)
   | 19,_ =>
    have e16:t[190]?=some (.bool true):=hgot 16 190 (by kernel_rfl) (by kernel_rfl)
    have e18:t[192]?=some (undef):=hgot 18 192 (by kernel_rfl) (by kernel_rfl)
    exact Gm.pass rfl (unwanted_guard (i:=16) (b:=false) (d:=190) rfl rfl e16) (by kernel_rfl) rfl (hk W Fz φ hC)
   | 20,_ =>
    have e16:t[190]?=some (.bool true):=hgot 16 190 (by kernel_rfl) (by kernel_rfl)
    have e19:t[193]?=some (undef):=hgot 19 193 (by kernel_rfl) (by kernel_rfl)
    exact Gm.pass rfl (unwanted_guard (i:=16) (b:=false) (d:=190) rfl rfl e16) (by kernel_rfl) rfl (hk W Fz φ hC)
   | 21,_ =>
    have e7:t[181]?=some (.bool true):=hgot 7 181 (by kernel_rfl) (by kernel_rfl)
    have e16:t[190]?=some (.bool true):=hgot 16 190 (by kernel_rfl) (by kernel_rfl)
    have e20:t[194]?=some (undef):=hgot 20 194 (by kernel_rfl) (by kernel_rfl)
    exact Gm.op (.bool true) W rfl (wanted_guard (i:=7) (b:=true) (d:=181) rfl rfl e7) (by kernel_rfl) rfl (pickT_run _ (eval_tmp e16) rfl) id (hk W Fz φ hC)
   | 22,_ =>
    have e7:t[181]?=some (.bool true):=hgot 7 181 (by kernel_rfl) (by kernel_rfl)
    have e11:t[185]?=some (.bool true):=hgot 11 185 (by kernel_rfl) (by kernel_rfl)
    have e21:t[195]?=some (.bool true):=hgot 21 195 (by kernel_rfl) (by kernel_rfl)
    exact Gm.op (.bool true) W rfl (wanted_guard (i:=7) (b:=true) (d:=181) rfl rfl e7) (by kernel_rfl) rfl (eqb4_run (n:=true) (m:=true) _ (eval_tmp e11) (eval_tmp e21) rfl) id (hk W Fz φ hC)
   | 23,_ =>
    have e7:t[181]?=some (.bool true):=hgot 7 181 (by kernel_rfl) (by kernel_rfl)
    have e22:t[196]?=some (.bool true):=hgot 22 196 (by kernel_rfl) (by kernel_rfl)
    exact Gm.op (.bool true) W rfl rfl (by kernel_rfl) rfl (pick_run _ (eval_tmp e7) (eval_tmp e22)) id (hk W Fz φ hC)
   | 24,_ =>
    have e23:t[197]?=some (.bool true):=hgot 23 197 (by kernel_rfl) (by kernel_rfl)
    exact Gm.op (.bool true) W rfl rfl (by kernel_rfl) rfl (mvg_run _ (eval_tmp e23)) id (hk W Fz φ hC)
   | 25,_ =>
    have e24:t[198]?=some (.bool true):=hgot 24 198 (by kernel_rfl) (by kernel_rfl)
    refine Gm.enter (o:=⟨some 199,.call { callee:=.value (.func 20),args:=#[],argTypes:=#[] },_,_,_,some (24,true)⟩) (c:={ callee:=.value (.func 20),args:=#[],argTypes:=#[] }) rfl (wanted_guard (i:=24) (b:=true) (d:=198) rfl rfl e24) rfl rfl (by kernel_rfl) Tryd.func20 body20_of (by kernel_rfl) ?_
    rw [fr20]
    refine flows_go E _ Arg W0 hArg _ _ _ _ _ (hg.old hC) ?_
    intro WL FzL φL hOL
    rw [Fr_finish (o:=⟨some 199,.call { callee:=.value (.func 20),args:=#[],argTypes:=#[] },_,_,_,some (24,true)⟩) rfl]
    exact hk WL FzL φL (hC.trans hOL)
   | 26,_ =>
    have e24:t[198]?=some (.bool true):=hgot 24 198 (by kernel_rfl) (by kernel_rfl)
    have e25:t[199]?=some (.bool true):=hgot 25 199 (by kernel_rfl) (by kernel_rfl)
    exact Gm.op (.bool true) W rfl rfl (by kernel_rfl) rfl (pick_run _ (eval_tmp e24) (eval_tmp e25)) id (hk W Fz φ hC)
   | 27,_ =>
    have e26:t[200]?=some (.bool true):=hgot 26 200 (by kernel_rfl) (by kernel_rfl)
    exact Gm.op (.bool true) W rfl rfl (by kernel_rfl) rfl (asg_run _ (eval_tmp e26)) id (hk W Fz φ hC)
   | n+28,h=>exact absurd h (by omega)
  ·intro t W Fz φ hC hsz hgot hold
   have e12:t[12]?=some (.bool true):=hgot 27 12 (by kernel_rfl)
   refine Gm.done Tryd.func8 (by kernel_rfl) (results8 (.bool true) _ e12) ?_
   exact fun ρ D own A fr W' h=>hPost _ ρ D own A fr _ W' h
 ·have hB1:(y1 == 1)=false:=by simpa using h1
  obtain⟨q,hB2⟩:∃ q,(y2 == 1)=q:=⟨_,rfl⟩
  have hB0:(y0 == 1)=q:=by
   rw [← hB2]
   by_cases h2:y2=1
   ·simp [h2,hy.2 (.inr h2)]
   ·have:¬ y0=1:=fun h=>(hy.1 h).elim h1 h2
    rw [show (y0 == 1)=false by simpa using this,show (y2 == 1)=false by simpa using h2]
  refine Gm.regionAny (by kernel_rfl) (fun x=>Old W9 x) (fun i=>([num 0,.bool true,.bool true,.slice (some ⟨gb,go,none⟩) 3 gc,num 3,.bool true,.bool true,.bool true,.slice (some ⟨gb,go,none⟩) 3 gc,.pointer (some ⟨gb,go+0,none⟩),num y0,.bool q,.slice (some ⟨gb,go,none⟩) 3 gc,.pointer (some ⟨gb,go+1,none⟩),num y1,.bool false,.bool false,.slice (some ⟨gb,go,none⟩) 3 gc,.pointer (some ⟨gb,go+2,none⟩),num y2,.bool q,.bool q,.bool true,.bool true,.bool true,.bool true,.bool true,.bool true]:List Value).getD i undef) (by rw [hs];kernel_rfl) (.same rfl) ?_ ?_
  ·intro i hi t W Fz φ rest hC hsz hgot hold hk
   rw [show opkn26.size=28 by kernel_rfl] at hi
   match i,hi with
   | 0,_ =>
    have ef16:t[16]?=_:=(hold 16 (by kernel_rfl)).trans h16
    exact Gm.op (num 0) W rfl rfl (by kernel_rfl) rfl (mvg_run _ (eval_tmp ef16)) id (hk W Fz φ hC)
   | 1,_ =>
    have e0:t[174]?=some (num 0):=hgot 0 174 (by kernel_rfl) (by kernel_rfl)
    exact Gm.op (.bool true) W rfl rfl (by kernel_rfl) rfl (eqcR37_run (n:=0) _ (eval_tmp e0) rfl) id (hk W Fz φ hC)
   | 2,_ =>
    have e1:t[175]?=some (.bool true):=hgot 1 175 (by kernel_rfl) (by kernel_rfl)
    exact Gm.op (.bool true) W rfl rfl (by kernel_rfl) rfl (mvg_run _ (eval_tmp e1)) id (hk W Fz φ hC)
   | 3,_ =>
    have e2:t[176]?=some (.bool true):=hgot 2 176 (by kernel_rfl) (by kernel_rfl)
    have ef15:t[15]?=_:=(hold 15 (by kernel_rfl)).trans h15
    exact Gm.op (.slice (some ⟨gb,go,none⟩) 3 gc) W rfl (wanted_guard (i:=2) (b:=true) (d:=176) rfl rfl e2) (by kernel_rfl) rfl (mvg_run _ (eval_tmp ef15)) id (hk W Fz φ hC)
   | 4,_ =>
    have e2:t[176]?=some (.bool true):=hgot 2 176 (by kernel_rfl) (by kernel_rfl)
    have e3:t[177]?=some (.slice (some ⟨gb,go,none⟩) 3 gc):=hgot 3 177 (by kernel_rfl) (by kernel_rfl)
    exact Gm.op (num 3) W rfl (wanted_guard (i:=2) (b:=true) (d:=176) rfl rfl e2) (by kernel_rfl) rfl (lenS_run (a:=some ⟨gb,go,none⟩) (n:=3) (k:=gc) _ Tryd.underlying55 (eval_tmp e3)) id (hk W Fz φ hC)
   | 5,_ =>
    have e2:t[176]?=some (.bool true):=hgot 2 176 (by kernel_rfl) (by kernel_rfl)
    have e4:t[178]?=some (num 3):=hgot 4 178 (by kernel_rfl) (by kernel_rfl)
    exact Gm.op (.bool true) W rfl (wanted_guard (i:=2) (b:=true) (d:=176) rfl rfl e2) (by kernel_rfl) rfl (eqcR3_run (n:=3) _ (eval_tmp e4) rfl) id (hk W Fz φ hC)
   | 6,_ =>
    have e2:t[176]?=some (.bool true):=hgot 2 176 (by kernel_rfl) (by kernel_rfl)
    have e5:t[179]?=some (.bool true):=hgot 5 179 (by kernel_rfl) (by kernel_rfl)
    exact Gm.op (.bool true) W rfl rfl (by kernel_rfl) rfl (pick_run _ (eval_tmp e2) (eval_tmp e5)) id (hk W Fz φ hC)
   | 7,_ =>
    have e6:t[180]?=some (.bool true):=hgot 6 180 (by kernel_rfl) (by kernel_rfl)
    exact Gm.op (.bool true) W rfl rfl (by kernel_rfl) rfl (mvg_run _ (eval_tmp e6)) id (hk W Fz φ hC)
   | 8,_ =>
    have e7:t[181]?=some (.bool true):=hgot 7 181 (by kernel_rfl) (by kernel_rfl)
    have ef15:t[15]?=_:=(hold 15 (by kernel_rfl)).trans h15
    exact Gm.op (.slice (some ⟨gb,go,none⟩) 3 gc) W rfl (wanted_guard (i:=7) (b:=true) (d:=181) rfl rfl e7) (by kernel_rfl) rfl (mvg_run _ (eval_tmp ef15)) id (hk W Fz φ hC)
   | 9,_ =>
    have e7:t[181]?=some (.bool true):=hgot 7 181 (by kernel_rfl) (by kernel_rfl)
    have e8:t[182]?=some (.slice (some ⟨gb,go,none⟩) 3 gc):=hgot 8 182 (by kernel_rfl) (by kernel_rfl)
    exact Gm.op (.pointer (some ⟨gb,go+0,none⟩)) W rfl (wanted_guard (i:=7) (b:=true) (d:=181) rfl rfl e7) (by kernel_rfl) rfl (ix55k_run (j:=0) (n:=3) (c:=gc) _ (eval_tmp e8) rfl (by omega)) id (hk W Fz φ hC)
   | 10,_ =>
    have e7:t[181]?=some (.bool true):=hgot 7 181 (by kernel_rfl) (by kernel_rfl)
    have e9:t[183]?=some (.pointer (some ⟨gb,go+0,none⟩)):=hgot 9 183 (by kernel_rfl) (by kernel_rfl)
    exact Gm.op (num y0) W rfl (wanted_guard (i:=7) (b:=true) (d:=181) rfl rfl e7) (by kernel_rfl) rfl (ld62g_run _ (eval_tmp e9) ((hC.cell ⟨gb,go+0,none⟩ hgb).trans c0)) id (hk W Fz φ hC)
   | 11,_ =>
    have e7:t[181]?=some (.bool true):=hgot 7 181 (by kernel_rfl) (by kernel_rfl)
    have e10:t[184]?=some (num y0):=hgot 10 184 (by kernel_rfl) (by kernel_rfl)
    exact Gm.op (.bool q) W rfl (wanted_guard (i:=7) (b:=true) (d:=181) rfl rfl e7) (by kernel_rfl) rfl (eqc62_run (n:=y0) (m:=1) _ (eval_tmp e10) rfl hB0) id (hk W Fz φ hC)
   | 12,_ =>
    have e7:t[181]?=some (.bool true):=hgot 7 181 (by kernel_rfl) (by kernel_rfl)
    have ef15:t[15]?=_:=(hold 15 (by kernel_rfl)).trans h15
    exact Gm.op (.slice (some ⟨gb,go,none⟩) 3 gc) W rfl (wanted_guard (i:=7) (b:=true) (d:=181) rfl rfl e7) (by kernel_rfl) rfl (mvg_run _ (eval_tmp ef15)) id (hk W Fz φ hC)
   | 13,_ =>
    have e7:t[181]?=some (.bool true):=hgot 7 181 (by kernel_rfl) (by kernel_rfl)
    have e12:t[186]?=some (.slice (some ⟨gb,go,none⟩) 3 gc):=hgot 12 186 (by kernel_rfl) (by kernel_rfl)
    exact Gm.op (.pointer (some ⟨gb,go+1,none⟩)) W rfl (wanted_guard (i:=7) (b:=true) (d:=181) rfl rfl e7) (by kernel_rfl) rfl (ix55k_run (j:=1) (n:=3) (c:=gc) _ (eval_tmp e12) rfl (by omega)) id (hk W Fz φ hC)
   | 14,_ =>
    have e7:t[181]?=some (.bool true):=hgot 7 181 (by kernel_rfl) (by kernel_rfl)
    have e13:t[187]?=some (.pointer (some ⟨gb,go+1,none⟩)):=hgot 13 187 (by kernel_rfl) (by kernel_rfl)
    exact Gm.op (num y1) W rfl (wanted_guard (i:=7) (b:=true) (d:=181) rfl rfl e7) (by kernel_rfl) rfl (ld62g_run _ (eval_tmp e13) ((hC.cell ⟨gb,go+1,none⟩ hgb).trans c1)) id (hk W Fz φ hC)
   | 15,_ =>
    have e7:t[181]?=some (.bool true):=hgot 7 181 (by kernel_rfl) (by kernel_rfl)
    have e14:t[188]?=some (num y1):=hgot 14 188 (by kernel_rfl) (by kernel_rfl)
    exact Gm.op (.bool false) W rfl (wanted_guard (i:=7) (b:=true) (d:=181) rfl rfl e7) (by kernel_rfl) rfl (eqc62_run (n:=y1) (m:=1) _ (eval_tmp e14) rfl hB1) id (hk W Fz φ hC)
   | 16,_ =>
    have e7:t[181]?=some (.bool true):=hgot 7 181 (by kernel_rfl) (by kernel_rfl)
    have e15:t[189]?=some (.bool false):=hgot 15 189 (by kernel_rfl) (by kernel_rfl)
    exact Gm.op (.bool false) W rfl (wanted_guard (i:=7) (b:=true) (d:=181) rfl rfl e7) (by kernel_rfl) rfl (mvg_run _ (eval_tmp e15)) id (hk W Fz φ hC)
   | 17,_ =>
    have e16:t[190]?=some (.bool false):=hgot 16 190 (by kernel_rfl) (by kernel_rfl)
    have ef15:t[15]?=_:=(hold 15 (by kernel_rfl)).trans h15
    exact Gm.op (.slice (some ⟨gb,go,none⟩) 3 gc) W rfl (wanted_guard (i:=16) (b:=false) (d:=190) rfl rfl e16) (by kernel_rfl) rfl (mvg_run _ (eval_tmp ef15)) id (hk W Fz φ hC)
   | 18,_ =>
    have e16:t[190]?=some (.bool false):=hgot 16 190 (by kernel_rfl) (by kernel_rfl)
    have e17:t[191]?=some (.slice (some ⟨gb,go,none⟩) 3 gc):=hgot 17 191 (by kernel_rfl) (by kernel_rfl)
    exact Gm.op (.pointer (some ⟨gb,go+2,none⟩)) W rfl (wanted_guard (i:=16) (b:=false) (d:=190) rfl rfl e16) (by kernel_rfl) rfl (ix55k_run (j:=2) (n:=3) (c:=gc) _ (eval_tmp e17) rfl (by omega)) id (hk W Fz φ hC)
   | 19,_ =>
    have e16:t[190]?=some (.bool false):=hgot 16 190 (by kernel_rfl) (by kernel_rfl)
    have e18:t[192]?=some (.pointer (some ⟨gb,go+2,none⟩)):=hgot 18 192 (by kernel_rfl) (by kernel_rfl)
    exact Gm.op (num y2) W rfl (wanted_guard (i:=16) (b:=false) (d:=190) rfl rfl e16) (by kernel_rfl) rfl (ld62g_run _ (eval_tmp e18) ((hC.cell ⟨gb,go+2,none⟩ hgb).trans c2)) id (hk W Fz φ hC)
   | 20,_ =>
    have e16:t[190]?=some (.bool false):=hgot 16 190 (by kernel_rfl) (by kernel_rfl)
    have e19:t[193]?=some (num y2):=hgot 19 193 (by kernel_rfl) (by kernel_rfl)
    exact Gm.op (.bool q) W rfl (wanted_guard (i:=16) (b:=false) (d:=190) rfl rfl e16) (by kernel_rfl) rfl (eqc62_run (n:=y2) (m:=1) _ (eval_tmp e19) rfl hB2) id (hk W Fz φ hC)
   | 21,_ =>
    have e7:t[181]?=some (.bool true):=hgot 7 181 (by kernel_rfl) (by kernel_rfl)
    have e16:t[190]?=some (.bool false):=hgot 16 190 (by kernel_rfl) (by kernel_rfl)
    have e20:t[194]?=some (.bool q):=hgot 20 194 (by kernel_rfl) (by kernel_rfl)
    exact Gm.op (.bool q) W rfl (wanted_guard (i:=7) (b:=true) (d:=181) rfl rfl e7) (by kernel_rfl) rfl (pickF_run _ (eval_tmp e16) (eval_tmp e20)) id (hk W Fz φ hC)
   | 22,_ =>
    have e7:t[181]?=some (.bool true):=hgot 7 181 (by kernel_rfl) (by kernel_rfl)
    have e11:t[185]?=some (.bool q):=hgot 11 185 (by kernel_rfl) (by kernel_rfl)
    have e21:t[195]?=some (.bool q):=hgot 21 195 (by kernel_rfl) (by kernel_rfl)
    exact Gm.op (.bool true) W rfl (wanted_guard (i:=7) (b:=true) (d:=181) rfl rfl e7) (by kernel_rfl) rfl (eqb4_run (n:=q) (m:=q) _ (eval_tmp e11) (eval_tmp e21) rfl) id (hk W Fz φ hC)
   | 23,_ =>
    have e7:t[181]?=some (.bool true):=hgot 7 181 (by kernel_rfl) (by kernel_rfl)
    have e22:t[196]?=some (.bool true):=hgot 22 196 (by kernel_rfl) (by kernel_rfl)
    exact Gm.op (.bool true) W rfl rfl (by kernel_rfl) rfl (pick_run _ (eval_tmp e7) (eval_tmp e22)) id (hk W Fz φ hC)
   | 24,_ =>
    have e23:t[197]?=some (.bool true):=hgot 23 197 (by kernel_rfl) (by kernel_rfl)
    exact Gm.op (.bool true) W rfl rfl (by kernel_rfl) rfl (mvg_run _ (eval_tmp e23)) id (hk W Fz φ hC)
   | 25,_ =>
    have e24:t[198]?=some (.bool true):=hgot 24 198 (by kernel_rfl) (by kernel_rfl)
    refine Gm.enter (o:=⟨some 199,.call { callee:=.value (.func 20),args:=#[],argTypes:=#[] },_,_,_,some (24,true)⟩) (c:={ callee:=.value (.func 20),args:=#[],argTypes:=#[] }) rfl (wanted_guard (i:=24) (b:=true) (d:=198) rfl rfl e24) rfl rfl (by kernel_rfl) Tryd.func20 body20_of (by kernel_rfl) ?_
    rw [fr20]
    refine flows_go E _ Arg W0 hArg _ _ _ _ _ (hg.old hC) ?_
    intro WL FzL φL hOL
    rw [Fr_finish (o:=⟨some 199,.call { callee:=.value (.func 20),args:=#[],argTypes:=#[] },_,_,_,some (24,true)⟩) rfl]
    exact hk WL FzL φL (hC.trans hOL)
   | 26,_ =>
    have e24:t[198]?=some (.bool true):=hgot 24 198 (by kernel_rfl) (by kernel_rfl)
    have e25:t[199]?=some (.bool true):=hgot 25 199 (by kernel_rfl) (by kernel_rfl)
    exact Gm.op (.bool true) W rfl rfl (by kernel_rfl) rfl (pick_run _ (eval_tmp e24) (eval_tmp e25)) id (hk W Fz φ hC)
   | 27,_ =>
    have e26:t[200]?=some (.bool true):=hgot 26 200 (by kernel_rfl) (by kernel_rfl)
    exact Gm.op (.bool true) W rfl rfl (by kernel_rfl) rfl (asg_run _ (eval_tmp e26)) id (hk W Fz φ hC)
   | n+28,h=>exact absurd h (by omega)
  ·intro t W Fz φ hC hsz hgot hold
   have e12:t[12]?=some (.bool true):=hgot 27 12 (by kernel_rfl)
   refine Gm.done Tryd.func8 (by kernel_rfl) (results8 (.bool true) _ e12) ?_
   exact fun ρ D own A fr W' h=>hPost _ ρ D own A fr _ W' h
end Go.Proofs.YtolholkjeehamaaDoor

namespace Go.Proofs.YtolholkjeehamaaDoor
open Go.RowKit Go.Con Go.Conc
local instance:Lone:=mainL
noncomputable def opkn6:Array Oper:=opsOf kn6
theorem kn6_eq:kn6=.region 6 opkn6 false:=by kernel_rfl
noncomputable def opkn7:Array Oper:=opsOf kn7
theorem kn7_eq:kn7=.region 7 opkn7 false:=by kernel_rfl
noncomputable def opkn25:Array Oper:=opsOf kn25
theorem kn25_eq:kn25=.region 25 opkn25 false:=by kernel_rfl
theorem sl_three {w:World} {S:Nat} {a b c a' b' c' a2 b2 c2:Int} (h:w.heap[S]?=some (.cells #[num a,num b,num c,num a',num b',num c',num a2,num b2,num c2] 59 (0,0))):Sl w (.slice (some ⟨S,0,none⟩) 3 3) 3 (([(a,b,c),(a',b',c'),(a2,b2,c2)]:List (Int×Int×Int)).map three):=by
 refine⟨3,.inr ⟨S,0,rfl,lt_of_some h,fun j k l x hj hk=>?_⟩⟩
 unfold World.cell?
 dsimp only
 rw [h]
 rcases j with _ | _ | _ | j
 ·cases hj
  rcases k with _ | _ | _ | k<;>first | (cases hk;rfl) | (simp [three] at hk)
 ·cases hj
  rcases k with _ | _ | _ | k<;>first | (cases hk;rfl) | (simp [three] at hk)
 ·cases hj
  rcases k with _ | _ | _ | k<;>first | (cases hk;rfl) | (simp [three] at hk)
 ·simp at hj
theorem known_pick2 (t:Array Value) (d:Dit) (r:Rows6) (l:Lg) (al ba ca:Option Addr) (cap bc cc:Nat) (x y z u n:Int) (B C:Nat) (W6:World) (hL:LogOk d l) (hl:Sl W6 (.slice al l.ops.length cap) 3 (l.ops.map three)) (hlb:1≤l.ops.length∧l.ops.length≤19) (hz:0≤z∧z≤255) (cL:∀ i v,(#[num l.lo,num l.hi,.slice al l.ops.length cap]:Array Value)[i]?=some v→W6.cell? ⟨B+1,i,none⟩=some v) (hB:B+1<W6.heap.size) (hv:∃ f:Nat→Value,t=#[d.val r,.agg #[num l.lo,num l.hi,.slice al l.ops.length cap],.int .u8 x,.int .u8 y,.int .u8 z,.int .u8 u,.pointer (some ⟨B,0,none⟩),.pointer (some ⟨B+1,0,none⟩),undef,undef,undef,undef,(f 12),.pointer (some ⟨C,0,none⟩),num n,.slice ba l.ops.length bc,num 0,.slice ca l.ops.length cc,num 0,(f 19),undef,undef,undef,undef,(f 24),(f 25),(f 26),(f 27),(f 28),(f 29),(f 30),(f 31),(f 32),undef,(f 34),(f 35),(f 36),(f 37),(f 38),(f 39),(f 40),(f 41),(f 42),(f 43),(f 44),(f 45),(f 46),(f 47),(f 48),(f 49),(f 50),(f 51),(f 52),(f 53),(f 54),(f 55),(f 56),(f 57),(f 58),(f 59),(f 60),(f 61),(f 62),(f 63),(f 64),(f 65),(f 66),(f 67),(f 68),(f 69),(f 70),(f 71),(f 72),(f 73),(f 74),(f 75),(f 76),(f 77),(f 78),(f 79),(f 80),(f 81),(f 82),(f 83),(f 84),(f 85),(f 86),(f 87),(f 88),(f 89),(f 90),(f 91),(f 92),(f 93),(f 94),(f 95),(f 96),(f 97),(f 98),(f 99),(f 100),(f 101),(f 102),(f 103),(f 104),(f 105),(f 106),(f 107),(f 108),(f 109),(f 110),(f 111),(f 112),(f 113),(f 114),(f 115),undef,undef,undef,undef,undef,undef,undef,undef,undef,undef,undef,undef,undef,undef,undef,undef,undef,undef,undef,undef,undef,undef,undef,undef,undef,undef,undef,undef,undef,undef,undef,undef,undef,undef,undef,undef,undef,undef,undef,undef,undef,undef,undef,undef,undef,undef,undef,undef,undef,undef,undef,undef,undef,undef,undef,undef,undef,undef,undef,undef,undef,undef,undef,undef,undef,undef,undef,undef,undef,undef,undef,undef,undef,undef,undef,undef,undef,undef,undef,undef,undef,undef,undef,undef,undef]) :
  Lones Tryd.prog (FG 8) [kn17,kn18,kn19] (fun t W7=>Old W6 W7∧t.size=201∧(t[133]?=some (.bool true)∨(t[133]?=some (.bool false)∧KnwD d r l al ba ca cap bc cc x y z u n B C W6 t W7))) t W6:=by
 obtain⟨f,ht⟩:=hv
 rw [ht]
 exact known_pick d r l al ba ca cap bc cc x y z u n B C W6 hL hl hlb hz cL hB
theorem known_split2 (t:Array Value) (d:Dit) (r:Rows6) (l:Lg) (al ba ca:Option Addr) (cap bc cc:Nat) (x y z u n m:Int) (B C k X:Nat) (x1 x2 x3:Int) (W7:World) (hu:0≤u∧u≤255) (hx:(0≤x2∧x2≤999999999)∧(0≤x3∧x3≤999999999)∧2≤x3-x2) (hn : -100≤n∧n≤100) (hX:W7.heap[X]?=some (.cells #[num x1,num x2,num x3] 59 (0,0))) (cC:∀ i v,(#[num n,num m,.slice al l.ops.length cap]:Array Value)[i]?=some v→W7.cell? ⟨C,i,none⟩=some v) (hC:C<W7.heap.size) (hv:∃ f:Nat→Value,t=#[d.val r,.agg #[num l.lo,num l.hi,.slice al l.ops.length cap],.int .u8 x,.int .u8 y,.int .u8 z,.int .u8 u,.pointer (some ⟨B,0,none⟩),.pointer (some ⟨B+1,0,none⟩),undef,undef,undef,undef,(f 12),.pointer (some ⟨C,0,none⟩),num n,.slice ba l.ops.length bc,num 0,.slice ca l.ops.length cc,num 0,(f 19),num k,.pointer (some ⟨X,0,none⟩),undef,undef,(f 24),(f 25),(f 26),(f 27),(f 28),(f 29),(f 30),(f 31),(f 32),undef,(f 34),(f 35),(f 36),(f 37),(f 38),(f 39),(f 40),(f 41),(f 42),(f 43),(f 44),(f 45),(f 46),(f 47),(f 48),(f 49),(f 50),(f 51),(f 52),(f 53),(f 54),(f 55),(f 56),(f 57),(f 58),(f 59),(f 60),(f 61),(f 62),(f 63),(f 64),(f 65),(f 66),(f 67),(f 68),(f 69),(f 70),(f 71),(f 72),(f 73),(f 74),(f 75),(f 76),(f 77),(f 78),(f 79),(f 80),(f 81),(f 82),(f 83),(f 84),(f 85),(f 86),(f 87),(f 88),(f 89),(f 90),(f 91),(f 92),(f 93),(f 94),(f 95),(f 96),(f 97),(f 98),(f 99),(f 100),(f 101),(f 102),(f 103),(f 104),(f 105),(f 106),(f 107),(f 108),(f 109),(f 110),(f 111),(f 112),(f 113),(f 114),(f 115),undef,(f 117),(f 118),(f 119),(f 120),(f 121),(f 122),(f 123),(f 124),(f 125),(f 126),(f 127),(f 128),(f 129),(f 130),(f 131),(f 132),(f 133),undef,undef,undef,undef,undef,undef,undef,undef,undef,undef,undef,undef,undef,undef,undef,undef,undef,undef,undef,undef,undef,undef,undef,undef,undef,undef,undef,undef,undef,undef,undef,undef,undef,undef,undef,undef,undef,undef,undef,undef,undef,undef,undef,undef,undef,undef,undef,undef,undef,undef,undef,undef,undef,undef,undef,undef,undef,undef,undef,undef,undef,undef,undef,undef,undef,undef,undef]) :
  Lones Tryd.prog (FG 8) [kn21,kn22,kn23,kn24] (KnwR d r l al ba ca cap bc cc x y z u n B C k X x1 x2 x3 W7) t W7:=by
 obtain⟨f,ht⟩:=hv
 rw [ht]
 exact known_split d r l al ba ca cap bc cc x y z u n m B C k X x1 x2 x3 W7 hu hx hn hX cC hC
theorem known_end {v12 v19 v24 v25 v26 v27 v28 v29 v30 v31 v32 v34 v35 v36 v37 v38 v39 v40 v41 v42 v43 v44 v45 v46 v47 v48 v49 v50 v51 v52 v53 v54 v55 v56 v57 v58 v59 v60 v61 v62 v63 v64 v65 v66 v67 v68 v69 v70 v71 v72 v73 v74 v75 v76 v77 v78 v79 v80 v81 v82 v83 v84 v85 v86 v87 v88 v89 v90 v91 v92 v93 v94 v95 v96 v97 v98 v99 v100 v101 v102 v103 v104 v105 v106 v107 v108 v109 v110 v111 v112 v113 v114 v115 v117 v118 v119 v120 v121 v122 v123 v124 v125 v126 v127 v128 v129 v130 v131 v132 v133 v135 v136 v137 v138 v139 v140 v141 v142 v143 v144 v145 v146 v147 v148 v149 v150 v151 v152 v153 v154 v155 v156 v157 v158 v159 v160 v161 v162 v163 v164 v165 v166 v167:Value} (E Fz Arg:Nat→Prop) (W0:World) (hArg:∀ x,Arg x↔x<W0.heap.size) (Post:Value→World→Prop) (φ:Ph) (d:Dit) (r:Rows6) (l:Lg) (al ba ca:Option Addr) (cap bc cc:Nat) (x y z u n m md:Int) (B C k X S PB:Nat) (x1 x2 x3:Int) (W8:World) (hd:DitSl W8 d r) (hsm:d.Small) (hg:Glob W8) (hlog:logS d l=0) (hnm:l.lo≤n∧n≤m∧m≤l.hi) (hxk:l.ops[k]?=some (x1,x2,x3)) (hmd:x2<md∧md<x3) (cD8:∀ i v,(d.cellsA r)[i]?=some v→W8.cell? ⟨B,i,none⟩=some v) (hPB:PB<W8.heap.size) (cP:∀ i v,(#[num n,num n,.slice (some ⟨S,0,none⟩) 3 3]:Array Value)[i]?=some v→W8.cell? ⟨PB,i,none⟩=some v) (gS:W8.heap[S]?=some (.cells #[num x1,num x2,num x3,num x1,num x2,num md,num x1,num md,num x3] 59 (0,0))) (hPost:∀ Fz1 ρ D own A fr W1 W',Here Tryd.prog true E Fz1 Arg W0 ρ D own A fr [] W1 W'→Post (ren ρ (.bool true)) W') :
  GoM Tryd.prog true E Fz Arg W0 (AtEnd Tryd.prog Post) φ [] (Fr 8 #[d.val r,.agg #[num l.lo,num l.hi,.slice al l.ops.length cap],.int .u8 x,.int .u8 y,.int .u8 z,.int .u8 u,.pointer (some ⟨B,0,none⟩),.pointer (some ⟨B+1,0,none⟩),undef,undef,undef,undef,v12,.pointer (some ⟨C,0,none⟩),num n,.slice ba l.ops.length bc,num 0,.slice ca l.ops.length cc,num 0,v19,num k,.pointer (some ⟨X,0,none⟩),num md,.pointer (some ⟨PB,0,none⟩),v24,v25,v26,v27,v28,v29,v30,v31,v32,undef,v34,v35,v36,v37,v38,v39,v40,v41,v42,v43,v44,v45,v46,v47,v48,v49,v50,v51,v52,v53,v54,v55,v56,v57,v58,v59,v60,v61,v62,v63,v64,v65,v66,v67,v68,v69,v70,v71,v72,v73,v74,v75,v76,v77,v78,v79,v80,v81,v82,v83,v84,v85,v86,v87,v88,v89,v90,v91,v92,v93,v94,v95,v96,v97,v98,v99,v100,v101,v102,v103,v104,v105,v106,v107,v108,v109,v110,v111,v112,v113,v114,v115,undef,v117,v118,v119,v120,v121,v122,v123,v124,v125,v126,v127,v128,v129,v130,v131,v132,v133,undef,v135,v136,v137,v138,v139,v140,v141,v142,v143,v144,v145,v146,v147,v148,v149,v150,v151,v152,v153,v154,v155,v156,v157,v158,v159,v160,v161,v162,v163,v164,v165,v166,v167,undef,undef,undef,undef,undef,undef,undef,undef,undef,undef,undef,undef,undef,undef,undef,undef,undef,undef,undef,undef,undef,undef,undef,undef,undef,undef,undef,undef,undef,undef,undef,undef,undef] [.code (.seq kn25 (.seq kn26 .ret))]) [] W8:=by
 obtain⟨hlog3,hsp⟩:=split_law (n:=n) (m:=md) hlog ⟨hnm.1,by omega⟩ hxk hmd
 dsimp only at hlog3 hsp
 have hj3:=judge_law hlog3
 refine Gm.seq ?_
 rw [kn25_eq]
 refine Gm.region ?_
 rw [show List.range opkn25.size=[0,1,2,3,4,5,6,7] by kernel_rfl]
 refine Gm.op (o:=⟨some 169,.load 31 (.tmp 6),_,_,_,none⟩) (d.val r) W8 rfl rfl (by kernel_rfl) rfl (load31_run _ (eval_tmp rfl) (cD8 0 _ rfl) (cD8 1 _ rfl) (cD8 2 _ rfl) (cD8 3 _ rfl) (cD8 4 _ rfl) (cD8 5 _ rfl) (cD8 6 _ rfl) (cD8 7 _ rfl) (cD8 8 _ rfl) (cD8 9 _ rfl) (cD8 10 _ rfl) (cD8 11 _ rfl) (cD8 12 _ rfl) (cD8 13 _ rfl)) id ?_
 simp only [putD,List.setIfInBounds_toArray,List.set_cons_succ,List.set_cons_zero]
 refine Gm.op (o:=⟨some 170,.load 35 (.tmp 23),_,_,_,none⟩) (.agg #[num n,num n,.slice (some ⟨S,0,none⟩) 3 3]) W8 rfl rfl (by kernel_rfl) rfl (load35_run _ (eval_tmp rfl) (cP 0 _ rfl) (cP 1 _ rfl) (cP 2 _ rfl)) id ?_
 simp only [putD,List.setIfInBounds_toArray,List.set_cons_succ,List.set_cons_zero]
 refine Gm.enter (o:=⟨some 171,.call { callee:=.value (.func 29),args:=#[.tmp 169,.tmp 170],argTypes:=#[31,35] },_,_,_,none⟩) (c:={ callee:=.value (.func 29),args:=#[.tmp 169,.tmp 170],argTypes:=#[31,35] }) rfl rfl rfl rfl (by kernel_rfl) Tryd.func29 body29_of (by kernel_rfl) ?_
 dsimp only
 have hargs:∀ t:Array Value,t[169]?=some (d.val r)→t[170]?=some (.agg #[num n,num n,.slice (some ⟨S,0,none⟩) 3 3])→(#[Operand.tmp 169,Operand.tmp 170]).map (Fr 8 t []).eval=#[d.val r,.agg #[num n,num n,.slice (some ⟨S,0,none⟩) 3 3]]:=fun t h1 h2=>by simp only [List.map_toArray,List.map_cons,List.map_nil,eval_tmp h1,eval_tmp h2]
 rw [hargs _ rfl rfl,fr29]
 clear hargs
 refine judge_go E _ Arg W0 hArg _ _ _ _ W8 d r ⟨n,n,[(x1,x2,x3),(x1,x2,md),(x1,md,x3)]⟩ (.slice (some ⟨S,0,none⟩) 3 3) hd hsm hg (sl_three gS) (fun a n c e=>by cases e;exact⟨_,_,_,gS⟩) (by simp) ?_
 intro W9 Fz25 φ25 bv25 hO25 hb25
 rw [hj3.1]
 obtain⟨ga,gc,hbv25⟩:=hb25.cases
 rw [List.length_map,hj3.2.1] at hbv25
 subst hbv25
 rw [Fr_finish (o:=⟨some 171,.call { callee:=.value (.func 29),args:=#[.tmp 169,.tmp 170],argTypes:=#[31,35] },_,_,_,none⟩) rfl]
 simp only [putD,List.setIfInBounds_toArray,List.set_cons_succ,List.set_cons_zero]
 refine Gm.op (o:=⟨some 168,.move (.tmp 171),_,_,_,none⟩) (.tuple #[.slice ga 3 gc,num 0]) W9 rfl rfl (by kernel_rfl) rfl (mv_run _ (eval_tmp rfl)) id ?_
 simp only [putD,List.setIfInBounds_toArray,List.set_cons_succ,List.set_cons_zero]
 refine Gm.op (o:=⟨some 172,.extract (.tmp 168) 0,_,_,_,none⟩) (.slice ga 3 gc) W9 rfl rfl (by kernel_rfl) rfl (extract_run (vs:=#[.slice ga 3 gc,num 0]) _ (eval_tmp rfl) rfl) id ?_
 simp only [putD,List.setIfInBounds_toArray,List.set_cons_succ,List.set_cons_zero]
 refine Gm.op (o:=⟨some 173,.extract (.tmp 168) 1,_,_,_,none⟩) (num 0) W9 rfl rfl (by kernel_rfl) rfl (extract_run (vs:=#[.slice ga 3 gc,num 0]) _ (eval_tmp rfl) rfl) id ?_
 simp only [putD,List.setIfInBounds_toArray,List.set_cons_succ,List.set_cons_zero]
 refine Gm.op (o:=⟨some 15,.assign (.tmp 172),_,_,_,none⟩) (.slice ga 3 gc) W9 rfl rfl (by kernel_rfl) rfl (as_run _ (eval_tmp rfl)) id ?_
 simp only [putD,List.setIfInBounds_toArray,List.set_cons_succ,List.set_cons_zero]
 refine Gm.op (o:=⟨some 16,.assign (.tmp 173),_,_,_,none⟩) (num 0) W9 rfl rfl (by kernel_rfl) rfl (as_run _ (eval_tmp rfl)) id ?_
 simp only [putD,List.setIfInBounds_toArray,List.set_cons_succ,List.set_cons_zero]
 refine Gm.regionEnd ?_
 obtain⟨y0,p0,k0⟩:=hj3.2.2 0 _ rfl
 obtain⟨y1,p1,k1⟩:=hj3.2.2 1 _ rfl
 obtain⟨y2,p2,k2⟩:=hj3.2.2 2 _ rfl
 obtain⟨gb,go,hga,hgl,hgc⟩:=hb25.get (by rw [List.length_map,hj3.2.1];exact Nat.zero_lt_succ 2)
 subst hga
 refine Gm.seq ?_
 refine known_last E _ Arg W0 hArg Post _ _ W9 (hg.old hO25) gb go gc y0 y1 y2 ?_ ?_ ?_ hgl (hsp y0 y1 y2 k0 k1 k2) ?_ ?_ ?_ hPost
 ·have:=hgc 0 0 [num y0] (num y0) (by rw [List.getElem?_map,p0];rfl) rfl;simpa using this
 ·have:=hgc 1 0 [num y1] (num y1) (by rw [List.getElem?_map,p1];rfl) rfl;simpa using this
 ·have:=hgc 2 0 [num y2] (num y2) (by rw [List.getElem?_map,p2];rfl) rfl;simpa using this
 ·rfl
 ·rfl
 ·rfl
theorem known_end2 (t:Array Value) (E Fz Arg:Nat→Prop) (W0:World) (hArg:∀ x,Arg x↔x<W0.heap.size) (Post:Value→World→Prop) (φ:Ph) (d:Dit) (r:Rows6) (l:Lg) (al ba ca:Option Addr) (cap bc cc:Nat) (x y z u n m md:Int) (B C k X S PB:Nat) (x1 x2 x3:Int) (W8:World) (hd:DitSl W8 d r) (hsm:d.Small) (hg:Glob W8) (hlog:logS d l=0) (hnm:l.lo≤n∧n≤m∧m≤l.hi) (hxk:l.ops[k]?=some (x1,x2,x3)) (hmd:x2<md∧md<x3) (cD8:∀ i v,(d.cellsA r)[i]?=some v→W8.cell? ⟨B,i,none⟩=some v) (hPB:PB<W8.heap.size) (cP:∀ i v,(#[num n,num n,.slice (some ⟨S,0,none⟩) 3 3]:Array Value)[i]?=some v→W8.cell? ⟨PB,i,none⟩=some v) (gS:W8.heap[S]?=some (.cells #[num x1,num x2,num x3,num x1,num x2,num md,num x1,num md,num x3] 59 (0,0))) (hPost:∀ Fz1 ρ D own A fr W1 W',Here Tryd.prog true E Fz1 Arg W0 ρ D own A fr [] W1 W'→Post (ren ρ (.bool true)) W') (hv:∃ f:Nat→Value,t=#[d.val r,.agg #[num l.lo,num l.hi,.slice al l.ops.length cap],.int .u8 x,.int .u8 y,.int .u8 z,.int .u8 u,.pointer (some ⟨B,0,none⟩),.pointer (some ⟨B+1,0,none⟩),undef,undef,undef,undef,(f 12),.pointer (some ⟨C,0,none⟩),num n,.slice ba l.ops.length bc,num 0,.slice ca l.ops.length cc,num 0,(f 19),num k,.pointer (some ⟨X,0,none⟩),num md,.pointer (some ⟨PB,0,none⟩),(f 24),(f 25),(f 26),(f 27),(f 28),(f 29),(f 30),(f 31),(f 32),undef,(f 34),(f 35),(f 36),(f 37),(f 38),(f 39),(f 40),(f 41),(f 42),(f 43),(f 44),(f 45),(f 46),(f 47),(f 48),(f 49),(f 50),(f 51),(f 52),(f 53),(f 54),(f 55),(f 56),(f 57),(f 58),(f 59),(f 60),(f 61),(f 62),(f 63),(f 64),(f 65),(f 66),(f 67),(f 68),(f 69),(f 70),(f 71),(f 72),(f 73),(f 74),(f 75),(f 76),(f 77),(f 78),(f 79),(f 80),(f 81),(f 82),(f 83),(f 84),(f 85),(f 86),(f 87),(f 88),(f 89),(f 90),(f 91),(f 92),(f 93),(f 94),(f 95),(f 96),(f 97),(f 98),(f 99),(f 100),(f 101),(f 102),(f 103),(f 104),(f 105),(f 106),(f 107),(f 108),(f 109),(f 110),(f 111),(f 112),(f 113),(f 114),(f 115),undef,(f 117),(f 118),(f 119),(f 120),(f 121),(f 122),(f 123),(f 124),(f 125),(f 126),(f 127),(f 128),(f 129),(f 130),(f 131),(f 132),(f 133),undef,(f 135),(f 136),(f 137),(f 138),(f 139),(f 140),(f 141),(f 142),(f 143),(f 144),(f 145),(f 146),(f 147),(f 148),(f 149),(f 150),(f 151),(f 152),(f 153),(f 154),(f 155),(f 156),(f 157),(f 158),(f 159),(f 160),(f 161),(f 162),(f 163),(f 164),(f 165),(f 166),(f 167),undef,undef,undef,undef,undef,undef,undef,undef,undef,undef,undef,undef,undef,undef,undef,undef,undef,undef,undef,undef,undef,undef,undef,undef,undef,undef,undef,undef,undef,undef,undef,undef,undef]) :
  GoM Tryd.prog true E Fz Arg W0 (AtEnd Tryd.prog Post) φ [] (Fr 8 t [.code (.seq kn25 (.seq kn26 .ret))]) [] W8:=by
 obtain⟨f,ht⟩:=hv
 rw [ht]
 exact known_end E Fz Arg W0 hArg Post φ d r l al ba ca cap bc cc x y z u n m md B C k X S PB x1 x2 x3 W8 hd hsm hg hlog hnm hxk hmd cD8 hPB cP gS hPost
theorem known_go (E Fz Arg:Nat→Prop) (W0:World) (hArg:∀ x,Arg x↔x<W0.heap.size) (Post:Value→World→Prop) (φ:Ph) (d:Dit) (r:Rows6) (l:Lg) (al:Option Addr) (cap:Nat) (x y z u:Int) (W:World) (hd:DitSl W d r) (hb:d.Big) (hg:Glob W) (hl:Sl W (.slice al l.ops.length cap) 3 (l.ops.map three)) (hlb:l.ops.length≤281474976710656) (hkd:Kind W (.slice al l.ops.length cap)) (hx:0≤x∧x≤255) (hy:0≤y∧y≤255) (hz:0≤z∧z≤255) (hu:0≤u∧u≤255)
  (hPost:∀ Fz1 ρ D own A fr W1 W',Here Tryd.prog true E Fz1 Arg W0 ρ D own A fr [] W1 W'→Post (ren ρ (.bool true)) W') :
  GoM Tryd.prog true E Fz Arg W0 (AtEnd Tryd.prog Post) φ [] (Fr 8 #[d.val r,.agg #[num l.lo,num l.hi,.slice al l.ops.length cap],.int .u8 x,.int .u8 y,.int .u8 z,.int .u8 u,undef,undef,undef,undef,undef,undef,undef,undef,undef,undef,undef,undef,undef,undef,undef,undef,undef,undef,undef,undef,undef,undef,undef,undef,undef,undef,undef,undef,undef,undef,undef,undef,undef,undef,undef,undef,undef,undef,undef,undef,undef,undef,undef,undef,undef,undef,undef,undef,undef,undef,undef,undef,undef,undef,undef,undef,undef,undef,undef,undef,undef,undef,undef,undef,undef,undef,undef,undef,undef,undef,undef,undef,undef,undef,undef,undef,undef,undef,undef,undef,undef,undef,undef,undef,undef,undef,undef,undef,undef,undef,undef,undef,undef,undef,undef,undef,undef,undef,undef,undef,undef,undef,undef,undef,undef,undef,undef,undef,undef,undef,undef,undef,undef,undef,undef,undef,undef,undef,undef,undef,undef,undef,undef,undef,undef,undef,undef,undef,undef,undef,undef,undef,undef,undef,undef,undef,undef,undef,undef,undef,undef,undef,undef,undef,undef,undef,undef,undef,undef,undef,undef,undef,undef,undef,undef,undef,undef,undef,undef,undef,undef,undef,undef,undef,undef,undef,undef,undef,undef,undef,undef,undef,undef,undef,undef,undef,undef,undef,undef,undef,undef,undef,undef,undef,undef,undef,undef,undef,undef,undef,undef,undef,undef,undef,undef] [.code lawB8]) [] W:=by
 have hgood:goodFn Tryd.prog (.func 8)=false:=by kernel_rfl
 have hL:=known_lone d r l al cap x y z u W hd hb hg hl hlb
 rw [lawB8_eq]
 refine Gm.seq ?_
 refine Gm.lone (F:=FG 8) _ rfl rfl rfl (List.mem_cons_self ..) (FG_ok 8 hgood) (by kernel_rfl) (by kernel_rfl) hL ?_
 clear hL
 intro t0 V0 hL
 refine Gm.seq (Gm.seq ?_)
 refine Gm.lone (F:=FG 8) _ rfl rfl rfl (List.mem_cons_self ..) (FG_ok 8 hgood) (by kernel_rfl) (by kernel_rfl) hL ?_
 clear hL
 rintro t W1 ⟨hO1,hs,h32 | ⟨h32,⟨hlog,hsm⟩,hO2,B,v24,v25,v26,v27,v28,v29,v30,v31,v32,rfl,hB,cD,cL⟩⟩
 ·refine Gm.cond (b:=true) (eval_tmp h32) rfl ?_
  refine Gm.seq ?_
  rw [kn2_eq]
  refine Gm.region ?_
  rw [show List.range opkn2.size=[0,1] by kernel_rfl]
  refine Gm.enter (o:=⟨some 33,.call { callee:=.value (.func 20),args:=#[],argTypes:=#[] },_,_,_,none⟩) (c:={ callee:=.value (.func 20),args:=#[],argTypes:=#[] }) rfl rfl rfl rfl (by kernel_rfl) Tryd.func20 body20_of (by kernel_rfl) ?_
  rw [fr20]
  refine flows_go E _ Arg W0 hArg _ _ _ _ _ (hg.old hO1) ?_
  intro WL FzL φL hOL
  rw [Fr_finish (o:=⟨some 33,.call { callee:=.value (.func 20),args:=#[],argTypes:=#[] },_,_,_,none⟩) rfl]
  refine Gm.op (o:=⟨some 12,.assign (.tmp 33),_,_,_,none⟩) (.bool true) WL rfl rfl (by kernel_rfl) rfl (asg_run _ (eval_tmp (by simp only [putD_get,putD_same,putD_size,hs,ne_eq,Nat.reduceEqDiff,not_false_eq_true,Nat.reduceLT]))) id ?_
  refine Gm.regionEnd ?_
  refine Gm.done Tryd.func8 (by kernel_rfl) (results8 (.bool true) _ (by simp only [putD_get,putD_same,putD_size,hs,ne_eq,Nat.reduceEqDiff,not_false_eq_true,Nat.reduceLT])) ?_
  exact fun ρ D own A fr W' h=>hPost _ ρ D own A fr _ W' h
 ·refine Gm.cond (b:=false) (eval_tmp h32) rfl ?_
  refine Gm.skip ?_
  clear hO1 hs h32
  have hj:=judge_law hlog
  have hcb:=log_ok hlog
  have hls:l.ops.length≤1000000000:=by have:=hcb.1.few;omega
  have hL:=fun {v24 v25 v26 v27 v28 v29 v30 v31 v32:Value}=>known_clock (v24:=v24) (v25:=v25) (v26:=v26) (v27:=v27) (v28:=v28) (v29:=v29) (v30:=v30) (v31:=v31) (v32:=v32) d r l al cap x y z u B W1 hcb.2 hx hy cL hB
  refine Gm.seq ?_
  refine Gm.lone (F:=FG 8) _ rfl rfl rfl (List.mem_cons_self ..) (FG_ok 8 hgood) (by kernel_rfl) (by kernel_rfl) hL ?_
  clear hL
  intro t3 V3 hL
  refine Gm.seq ?_
  refine Gm.lone (F:=FG 8) _ rfl rfl rfl (List.mem_cons_self ..) (FG_ok 8 hgood) (by kernel_rfl) (by kernel_rfl) hL ?_
  clear hL
  intro t4 V4 hL
  refine Gm.seq ?_
  refine Gm.lone (F:=FG 8) _ rfl rfl rfl (List.mem_cons_self ..) (FG_ok 8 hgood) (by kernel_rfl) (by kernel_rfl) hL ?_
  clear hL
  rintro t W3 ⟨hO3,C,n,m,hnm,v24,v25,v26,v27,v28,v29,v30,v31,v32,v34,v35,v36,v37,v38,v39,v40,v41,v42,v43,v44,v45,v46,v47,v48,v49,v50,rfl,hC1,hC2,cC⟩
  obtain⟨hlog2,hkn⟩:=known_law (a:=n) (b:=m) hlog hnm
  have hj2:=judge_law hlog2
  have oW3:=hO2.trans hO3
  have cD3:∀ i v,(d.cellsA r)[i]?=some v→W3.cell? ⟨B,i,none⟩=some v:=fun i v h=>(hO3.cell ⟨B,i,none⟩ (by show B<_;omega)).trans (cD i v h)
  have cL3:∀ i v,(#[num l.lo,num l.hi,.slice al l.ops.length cap]:Array Value)[i]?=some v→W3.cell? ⟨B+1,i,none⟩=some v:=fun i v h=>(hO3.cell ⟨B+1,i,none⟩ hB).trans (cL i v h)
  have hB3:=Nat.lt_of_lt_of_le hB hO3.size
  clear cD cL
  refine Gm.seq ?_
  rw [kn6_eq]
  refine Gm.region ?_
  rw [show List.range opkn6.size=[0,1,2,3,4,5,6,7] by kernel_rfl]
  refine Gm.op (o:=⟨some 52,.load 31 (.tmp 6),_,_,_,none⟩) (d.val r) W3 rfl rfl (by kernel_rfl) rfl (load31_run _ (eval_tmp rfl) (cD3 0 _ rfl) (cD3 1 _ rfl) (cD3 2 _ rfl) (cD3 3 _ rfl) (cD3 4 _ rfl) (cD3 5 _ rfl) (cD3 6 _ rfl) (cD3 7 _ rfl) (cD3 8 _ rfl) (cD3 9 _ rfl) (cD3 10 _ rfl) (cD3 11 _ rfl) (cD3 12 _ rfl) (cD3 13 _ rfl)) id ?_
  simp only [putD,List.setIfInBounds_toArray,List.set_cons_succ,List.set_cons_zero]
  refine Gm.op (o:=⟨some 53,.load 35 (.tmp 7),_,_,_,none⟩) (.agg #[num l.lo,num l.hi,.slice al l.ops.length cap]) W3 rfl rfl (by kernel_rfl) rfl (load35_run _ (eval_tmp rfl) (cL3 0 _ rfl) (cL3 1 _ rfl) (cL3 2 _ rfl)) id ?_
  simp only [putD,List.setIfInBounds_toArray,List.set_cons_succ,List.set_cons_zero]
  refine Gm.enter (o:=⟨some 54,.call { callee:=.value (.func 29),args:=#[.tmp 52,.tmp 53],argTypes:=#[31,35] },_,_,_,none⟩) (c:={ callee:=.value (.func 29),args:=#[.tmp 52,.tmp 53],argTypes:=#[31,35] }) rfl rfl rfl rfl (by kernel_rfl) Tryd.func29 body29_of (by kernel_rfl) ?_
  dsimp only
  have hargs:∀ t:Array Value,t[52]?=some (d.val r)→t[53]?=some (.agg #[num l.lo,num l.hi,.slice al l.ops.length cap])→(#[Operand.tmp 52,Operand.tmp 53]).map (Fr 8 t []).eval=#[d.val r,.agg #[num l.lo,num l.hi,.slice al l.ops.length cap]]:=fun t h1 h2=>by simp only [List.map_toArray,List.map_cons,List.map_nil,eval_tmp h1,eval_tmp h2]
  rw [hargs _ rfl rfl,fr29]
  clear hargs
  refine judge_go E _ Arg W0 hArg _ _ _ _ W3 d r l (.slice al l.ops.length cap) (hd.old oW3) hsm (hg.old oW3) (hl.old oW3) (hkd.old oW3) hls ?_
  intro W4 Fz6 φ6 bv6 hO6 hb6
  rw [hj.1]
  obtain⟨ba,bc,hbv6⟩:=hb6.cases
  rw [List.length_map,hj.2.1] at hbv6
  subst hbv6
  rw [Fr_finish (o:=⟨some 54,.call { callee:=.value (.func 29),args:=#[.tmp 52,.tmp 53],argTypes:=#[31,35] },_,_,_,none⟩) rfl]
  simp only [putD,List.setIfInBounds_toArray,List.set_cons_succ,List.set_cons_zero]
  refine Gm.op (o:=⟨some 51,.move (.tmp 54),_,_,_,none⟩) (.tuple #[.slice ba l.ops.length bc,num 0]) W4 rfl rfl (by kernel_rfl) rfl (mv_run _ (eval_tmp rfl)) id ?_
  simp only [putD,List.setIfInBounds_toArray,List.set_cons_succ,List.set_cons_zero]
  refine Gm.op (o:=⟨some 55,.extract (.tmp 51) 0,_,_,_,none⟩) (.slice ba l.ops.length bc) W4 rfl rfl (by kernel_rfl) rfl (extract_run (vs:=#[.slice ba l.ops.length bc,num 0]) _ (eval_tmp rfl) rfl) id ?_
  simp only [putD,List.setIfInBounds_toArray,List.set_cons_succ,List.set_cons_zero]
  refine Gm.op (o:=⟨some 56,.extract (.tmp 51) 1,_,_,_,none⟩) (num 0) W4 rfl rfl (by kernel_rfl) rfl (extract_run (vs:=#[.slice ba l.ops.length bc,num 0]) _ (eval_tmp rfl) rfl) id ?_
  simp only [putD,List.setIfInBounds_toArray,List.set_cons_succ,List.set_cons_zero]
  refine Gm.op (o:=⟨some 15,.assign (.tmp 55),_,_,_,none⟩) (.slice ba l.ops.length bc) W4 rfl rfl (by kernel_rfl) rfl (as_run _ (eval_tmp rfl)) id ?_
  simp only [putD,List.setIfInBounds_toArray,List.set_cons_succ,List.set_cons_zero]
  refine Gm.op (o:=⟨some 16,.assign (.tmp 56),_,_,_,none⟩) (num 0) W4 rfl rfl (by kernel_rfl) rfl (as_run _ (eval_tmp rfl)) id ?_
  simp only [putD,List.setIfInBounds_toArray,List.set_cons_succ,List.set_cons_zero]
  refine Gm.regionEnd ?_
  have oW4:=oW3.trans hO6
  have cD4:∀ i v,(d.cellsA r)[i]?=some v→W4.cell? ⟨B,i,none⟩=some v:=fun i v h=>(hO6.cell ⟨B,i,none⟩ (by show B<_;omega)).trans (cD3 i v h)
  have cL4:∀ i v,(#[num l.lo,num l.hi,.slice al l.ops.length cap]:Array Value)[i]?=some v→W4.cell? ⟨B+1,i,none⟩=some v:=fun i v h=>(hO6.cell ⟨B+1,i,none⟩ hB3).trans (cL3 i v h)
  have cC4:∀ i v,(#[num n,num m,.slice al l.ops.length cap]:Array Value)[i]?=some v→W4.cell? ⟨C,i,none⟩=some v:=fun i v h=>(hO6.cell ⟨C,i,none⟩ hC2).trans (cC i v h)
  have hB4:=Nat.lt_of_lt_of_le hB3 hO6.size
  have hC4:=Nat.lt_of_lt_of_le hC2 hO6.size
  clear cD3 cL3 cC
  refine Gm.seq ?_
  rw [kn7_eq]
  refine Gm.region ?_
  rw [show List.range opkn7.size=[0,1,2,3,4,5,6,7] by kernel_rfl]
  refine Gm.op (o:=⟨some 58,.load 31 (.tmp 6),_,_,_,none⟩) (d.val r) W4 rfl rfl (by kernel_rfl) rfl (load31_run _ (eval_tmp rfl) (cD4 0 _ rfl) (cD4 1 _ rfl) (cD4 2 _ rfl) (cD4 3 _ rfl) (cD4 4 _ rfl) (cD4 5 _ rfl) (cD4 6 _ rfl) (cD4 7 _ rfl) (cD4 8 _ rfl) (cD4 9 _ rfl) (cD4 10 _ rfl) (cD4 11 _ rfl) (cD4 12 _ rfl) (cD4 13 _ rfl)) id ?_
  simp only [putD,List.setIfInBounds_toArray,List.set_cons_succ,List.set_cons_zero]
  refine Gm.op (o:=⟨some 59,.load 35 (.tmp 13),_,_,_,none⟩) (.agg #[num n,num m,.slice al l.ops.length cap]) W4 rfl rfl (by kernel_rfl) rfl (load35_run _ (eval_tmp rfl) (cC4 0 _ rfl) (cC4 1 _ rfl) (cC4 2 _ rfl)) id ?_
  simp only [putD,List.setIfInBounds_toArray,List.set_cons_succ,List.set_cons_zero]
  refine Gm.enter (o:=⟨some 60,.call { callee:=.value (.func 29),args:=#[.tmp 58,.tmp 59],argTypes:=#[31,35] },_,_,_,none⟩) (c:={ callee:=.value (.func 29),args:=#[.tmp 58,.tmp 59],argTypes:=#[31,35] }) rfl rfl rfl rfl (by kernel_rfl) Tryd.func29 body29_of (by kernel_rfl) ?_
  dsimp only
  have hargs:∀ t:Array Value,t[58]?=some (d.val r)→t[59]?=some (.agg #[num n,num m,.slice al l.ops.length cap])→(#[Operand.tmp 58,Operand.tmp 59]).map (Fr 8 t []).eval=#[d.val r,.agg #[num n,num m,.slice al l.ops.length cap]]:=fun t h1 h2=>by simp only [List.map_toArray,List.map_cons,List.map_nil,eval_tmp h1,eval_tmp h2]
  rw [hargs _ rfl rfl,fr29]
  clear hargs
  refine judge_go E _ Arg W0 hArg _ _ _ _ W4 d r ⟨n,m,l.ops⟩ (.slice al l.ops.length cap) (hd.old oW4) hsm (hg.old oW4) (hl.old oW4) (hkd.old oW4) hls ?_
  intro W5 Fz7 φ7 bv7 hO7 hb7
  rw [hj2.1]
  obtain⟨ca,cc,hbv7⟩:=hb7.cases
  rw [List.length_map,hj2.2.1] at hbv7
  subst hbv7
  rw [Fr_finish (o:=⟨some 60,.call { callee:=.value (.func 29),args:=#[.tmp 58,.tmp 59],argTypes:=#[31,35] },_,_,_,none⟩) rfl]
  simp only [putD,List.setIfInBounds_toArray,List.set_cons_succ,List.set_cons_zero]
  refine Gm.op (o:=⟨some 57,.move (.tmp 60),_,_,_,none⟩) (.tuple #[.slice ca l.ops.length cc,num 0]) W5 rfl rfl (by kernel_rfl) rfl (mv_run _ (eval_tmp rfl)) id ?_
  simp only [putD,List.setIfInBounds_toArray,List.set_cons_succ,List.set_cons_zero]
  refine Gm.op (o:=⟨some 61,.extract (.tmp 57) 0,_,_,_,none⟩) (.slice ca l.ops.length cc) W5 rfl rfl (by kernel_rfl) rfl (extract_run (vs:=#[.slice ca l.ops.length cc,num 0]) _ (eval_tmp rfl) rfl) id ?_
  simp only [putD,List.setIfInBounds_toArray,List.set_cons_succ,List.set_cons_zero]
  refine Gm.op (o:=⟨some 62,.extract (.tmp 57) 1,_,_,_,none⟩) (num 0) W5 rfl rfl (by kernel_rfl) rfl (extract_run (vs:=#[.slice ca l.ops.length cc,num 0]) _ (eval_tmp rfl) rfl) id ?_
  simp only [putD,List.setIfInBounds_toArray,List.set_cons_succ,List.set_cons_zero]
  refine Gm.op (o:=⟨some 17,.assign (.tmp 61),_,_,_,none⟩) (.slice ca l.ops.length cc) W5 rfl rfl (by kernel_rfl) rfl (as_run _ (eval_tmp rfl)) id ?_
  simp only [putD,List.setIfInBounds_toArray,List.set_cons_succ,List.set_cons_zero]
  refine Gm.op (o:=⟨some 18,.assign (.tmp 62),_,_,_,none⟩) (num 0) W5 rfl rfl (by kernel_rfl) rfl (as_run _ (eval_tmp rfl)) id ?_
  simp only [putD,List.setIfInBounds_toArray,List.set_cons_succ,List.set_cons_zero]
  refine Gm.regionEnd ?_
  have oW5:=oW4.trans hO7
  have cD5:∀ i v,(d.cellsA r)[i]?=some v→W5.cell? ⟨B,i,none⟩=some v:=fun i v h=>(hO7.cell ⟨B,i,none⟩ (by show B<_;omega)).trans (cD4 i v h)
  have cL5:∀ i v,(#[num l.lo,num l.hi,.slice al l.ops.length cap]:Array Value)[i]?=some v→W5.cell? ⟨B+1,i,none⟩=some v:=fun i v h=>(hO7.cell ⟨B+1,i,none⟩ hB4).trans (cL4 i v h)
  have cC5:∀ i v,(#[num n,num m,.slice al l.ops.length cap]:Array Value)[i]?=some v→W5.cell? ⟨C,i,none⟩=some v:=fun i v h=>(hO7.cell ⟨C,i,none⟩ hC4).trans (cC4 i v h)
  have hB5:=Nat.lt_of_lt_of_le hB4 hO7.size
  have hC5:=Nat.lt_of_lt_of_le hC4 hO7.size
  have hbc:∀ (i:Nat) bv cv,(judgeF d l).1[i]?=some bv→(judgeF d ⟨n,m,l.ops⟩).1[i]?=some cv→bv≠0→cv=bv:=by
   intro i bv cv h1 h2 h0
   have hil:i<l.ops.length:=by rw [← hj.2.1];exact (List.getElem?_eq_some_iff.1 h1).1
   have ho:l.ops[i]?=some l.ops[i]:=List.getElem?_eq_getElem hil
   obtain⟨b',e1,k1⟩:=hj.2.2 i _ ho
   obtain⟨c',e2,k2⟩:=hj2.2.2 i _ ho
   rw [h1] at e1
   rw [h2] at e2
   cases e1
   cases e2
   exact hkn i _ _ _ ho k1 k2 h0
  clear cD4 cL4 cC4
  have hL:=fun {v24 v25 v26 v27 v28 v29 v30 v31 v32 v34 v35 v36 v37 v38 v39 v40 v41 v42 v43 v44 v45 v46 v47 v48 v49 v50 v51 v52 v53 v54 v55 v56 v57 v58 v59 v60 v61 v62:Value}=>known_loops (v24:=v24) (v25:=v25) (v26:=v26) (v27:=v27) (v28:=v28) (v29:=v29) (v30:=v30) (v31:=v31) (v32:=v32) (v34:=v34) (v35:=v35) (v36:=v36) (v37:=v37) (v38:=v38) (v39:=v39) (v40:=v40) (v41:=v41) (v42:=v42) (v43:=v43) (v44:=v44) (v45:=v45) (v46:=v46) (v47:=v47) (v48:=v48) (v49:=v49) (v50:=v50) (v51:=v51) (v52:=v52) (v53:=v53) (v54:=v54) (v55:=v55) (v56:=v56) (v57:=v57) (v58:=v58) (v59:=v59) (v60:=v60) (v61:=v61) (v62:=v62) d r l al ba ca cap bc cc x y z u n B C W5 _ _ hj.2.1 hj2.2.1 hbc (hb6.old hO7) hb7 hcb.1.few cL5 hB5
  refine Gm.seq ?_
  refine Gm.lone (F:=FG 8) _ rfl rfl rfl (List.mem_cons_self ..) (FG_ok 8 hgood) (by kernel_rfl) (by kernel_rfl) hL ?_
  clear hL
  intro t8 V8 hL
  refine Gm.seq ?_
  refine Gm.lone (F:=FG 8) _ rfl rfl rfl (List.mem_cons_self ..) (FG_ok 8 hgood) (by kernel_rfl) (by kernel_rfl) hL ?_
  clear hL
  intro t10 V10 hL
  refine Gm.seq (Gm.seq ?_)
  refine Gm.lone (F:=FG 8) _ rfl rfl rfl (List.mem_cons_self ..) (FG_ok 8 hgood) (by kernel_rfl) (by kernel_rfl) hL ?_
  clear hL
  rintro t W6 ⟨hO8,hs,h115 | ⟨h115,hlen,hv⟩⟩
  ·refine Gm.cond (b:=true) (eval_tmp h115) rfl ?_
   refine Gm.seq ?_
   rw [kn16_eq]
   refine Gm.region ?_
   rw [show List.range opkn16.size=[0,1] by kernel_rfl]
   refine Gm.enter (o:=⟨some 116,.call { callee:=.value (.func 20),args:=#[],argTypes:=#[] },_,_,_,none⟩) (c:={ callee:=.value (.func 20),args:=#[],argTypes:=#[] }) rfl rfl rfl rfl (by kernel_rfl) Tryd.func20 body20_of (by kernel_rfl) ?_
   rw [fr20]
   refine flows_go E _ Arg W0 hArg _ _ _ _ _ (hg.old (oW5.trans hO8)) ?_
   intro WL FzL φL hOL
   rw [Fr_finish (o:=⟨some 116,.call { callee:=.value (.func 20),args:=#[],argTypes:=#[] },_,_,_,none⟩) rfl]
   refine Gm.op (o:=⟨some 12,.assign (.tmp 116),_,_,_,none⟩) (.bool true) WL rfl rfl (by kernel_rfl) rfl (asg_run _ (eval_tmp (by simp only [putD_get,putD_same,putD_size,hs,ne_eq,Nat.reduceEqDiff,not_false_eq_true,Nat.reduceLT]))) id ?_
   refine Gm.regionEnd ?_
   refine Gm.done Tryd.func8 (by kernel_rfl) (results8 (.bool true) _ (by simp only [putD_get,putD_same,putD_size,hs,ne_eq,Nat.reduceEqDiff,not_false_eq_true,Nat.reduceLT])) ?_
   exact fun ρ D own A fr W' h=>hPost _ ρ D own A fr _ W' h
  ·refine Gm.cond (b:=false) (eval_tmp h115) rfl ?_
   refine Gm.skip ?_
   clear hs h115 hb6 hb7 hbc
   have oW6:=oW5.trans hO8
   have cL6:∀ i v,(#[num l.lo,num l.hi,.slice al l.ops.length cap]:Array Value)[i]?=some v→W6.cell? ⟨B+1,i,none⟩=some v:=fun i v h=>(hO8.cell ⟨B+1,i,none⟩ hB5).trans (cL5 i v h)
   have hB6:=Nat.lt_of_lt_of_le hB5 hO8.size
   have hL:=known_pick2 t d r l al ba ca cap bc cc x y z u n B C W6 hcb.1 (hl.old oW6) hlen hz cL6 hB6 hv
   refine Gm.seq ?_
   refine Gm.lone (F:=FG 8) _ rfl rfl rfl (List.mem_cons_self ..) (FG_ok 8 hgood) (by kernel_rfl) (by kernel_rfl) hL ?_
   clear hL
   intro t17 V17 hL
   refine Gm.seq ?_
   refine Gm.lone (F:=FG 8) _ rfl rfl rfl (List.mem_cons_self ..) (FG_ok 8 hgood) (by kernel_rfl) (by kernel_rfl) hL ?_
   clear hL
   intro t18 V18 hL
   refine Gm.seq (Gm.seq ?_)
   refine Gm.lone (F:=FG 8) _ rfl rfl rfl (List.mem_cons_self ..) (FG_ok 8 hgood) (by kernel_rfl) (by kernel_rfl) hL ?_
   clear hL
   rintro t W7 ⟨hO9,hs,h133 | ⟨h133,k,x1,x2,x3,X,hxk,h23,hv,hX1,hX2,gX⟩⟩
   ·refine Gm.cond (b:=true) (eval_tmp h133) rfl ?_
    refine Gm.seq ?_
    rw [kn20_eq]
    refine Gm.region ?_
    rw [show List.range opkn20.size=[0,1] by kernel_rfl]
    refine Gm.enter (o:=⟨some 134,.call { callee:=.value (.func 20),args:=#[],argTypes:=#[] },_,_,_,none⟩) (c:={ callee:=.value (.func 20),args:=#[],argTypes:=#[] }) rfl rfl rfl rfl (by kernel_rfl) Tryd.func20 body20_of (by kernel_rfl) ?_
    rw [fr20]
    refine flows_go E _ Arg W0 hArg _ _ _ _ _ (hg.old (oW6.trans hO9)) ?_
    intro WL FzL φL hOL
    rw [Fr_finish (o:=⟨some 134,.call { callee:=.value (.func 20),args:=#[],argTypes:=#[] },_,_,_,none⟩) rfl]
    refine Gm.op (o:=⟨some 12,.assign (.tmp 134),_,_,_,none⟩) (.bool true) WL rfl rfl (by kernel_rfl) rfl (asg_run _ (eval_tmp (by simp only [putD_get,putD_same,putD_size,hs,ne_eq,Nat.reduceEqDiff,not_false_eq_true,Nat.reduceLT]))) id ?_
    refine Gm.regionEnd ?_
    refine Gm.done Tryd.func8 (by kernel_rfl) (results8 (.bool true) _ (by simp only [putD_get,putD_same,putD_size,hs,ne_eq,Nat.reduceEqDiff,not_false_eq_true,Nat.reduceLT])) ?_
    exact fun ρ D own A fr W' h=>hPost _ ρ D own A fr _ W' h
   ·refine Gm.cond (b:=false) (eval_tmp h133) rfl ?_
    refine Gm.skip ?_
    clear hs h133
    have oW7:=oW6.trans hO9
    have o57:=hO8.trans hO9
    have hop:=hcb.1.op k _ hxk
    dsimp only at hop
    have hL:=known_split2 t d r l al ba ca cap bc cc x y z u n m B C k X x1 x2 x3 W7 hu ⟨hop.2.1,hop.2.2.1,h23⟩ (by omega) gX (fun i v h=>(o57.cell ⟨C,i,none⟩ hC5).trans (cC5 i v h)) (Nat.lt_of_lt_of_le hC5 o57.size) hv
    refine Gm.seq ?_
    refine Gm.lone (F:=FG 8) _ rfl rfl rfl (List.mem_cons_self ..) (FG_ok 8 hgood) (by kernel_rfl) (by kernel_rfl) hL ?_
    clear hL
    intro t21 V21 hL
    refine Gm.seq ?_
    refine Gm.lone (F:=FG 8) _ rfl rfl rfl (List.mem_cons_self ..) (FG_ok 8 hgood) (by kernel_rfl) (by kernel_rfl) hL ?_
    clear hL
    intro t22 V22 hL
    refine Gm.seq ?_
    refine Gm.lone (F:=FG 8) _ rfl rfl rfl (List.mem_cons_self ..) (FG_ok 8 hgood) (by kernel_rfl) (by kernel_rfl) hL ?_
    clear hL
    intro t23 V23 hL
    refine Gm.seq ?_
    refine Gm.lone (F:=FG 8) _ rfl rfl rfl (List.mem_cons_self ..) (FG_ok 8 hgood) (by kernel_rfl) (by kernel_rfl) hL ?_
    clear hL
    rintro t W8 ⟨hO10,md,PB,S,hmd,hv,hPB,cP,gS⟩
    exact known_end2 t E _ Arg W0 hArg Post _ d r l al ba ca cap bc cc x y z u n m md B C k X S PB x1 x2 x3 W8 (hd.old (oW7.trans hO10)) hsm (hg.old (oW7.trans hO10)) hlog hnm hxk hmd (fun i v h=>((o57.trans hO10).cell ⟨B,i,none⟩ (by show B<_;omega)).trans (cD5 i v h)) hPB cP gS hPost hv
end Go.Proofs.YtolholkjeehamaaDoor

namespace Go.Proofs.YtolholkjeehamaaDoor
open Go.RowKit Go.Con Go.Conc Go.ChangeShapes Go.WideShapes Go.ChangeAt
local instance:Lone:=mainL
section
variable {H:Type} {enc:TypeId×Value→H} {P:Program} {w:World} {base:Nat} {spare:Nat→Bool} {held:Bool}
theorem trodAll_six {t0 t1 t2 t3 t4 t5:TypeId} {args:Array Value} {ds:List (DataW H)} {ps:List MemPlace} (h:DataW.TrodAll enc P w base spare held [t0,t1,t2,t3,t4,t5] args.toList ds ps) :
  ∃ v0 v1 v2 v3 v4 v5 d0 d1 d2 d3 d4 d5 p0 p1 p2 p3 p4 p5,args=#[v0,v1,v2,v3,v4,v5]∧ds=[d0,d1,d2,d3,d4,d5]∧ps=p0++p1++p2++p3++p4++p5∧DataW.Trod enc P w base spare held t0 v0 d0 p0∧DataW.Trod enc P w base spare held t1 v1 d1 p1∧DataW.Trod enc P w base spare held t2 v2 d2 p2∧DataW.Trod enc P w base spare held t3 v3 d3 p3∧DataW.Trod enc P w base spare held t4 v4 d4 p4∧DataW.Trod enc P w base spare held t5 v5 d5 p5:=by
 obtain⟨v0,vs0,d0,ds0,p0,q0,hargs,rfl,rfl,hd0,hr0⟩:=trodAll_cons h
 obtain⟨v1,vs1,d1,ds1,p1,q1,rfl,rfl,rfl,hd1,hr1⟩:=trodAll_cons hr0
 obtain⟨v2,vs2,d2,ds2,p2,q2,rfl,rfl,rfl,hd2,hr2⟩:=trodAll_cons hr1
 obtain⟨v3,vs3,d3,ds3,p3,q3,rfl,rfl,rfl,hd3,hr3⟩:=trodAll_cons hr2
 obtain⟨v4,vs4,d4,ds4,p4,q4,rfl,rfl,rfl,hd4,hr4⟩:=trodAll_cons hr3
 obtain⟨v5,vs5,d5,ds5,p5,q5,rfl,rfl,rfl,hd5,hr5⟩:=trodAll_cons hr4
 obtain⟨rfl,rfl,rfl⟩:=trodAll_nil hr5
 exact⟨v0,v1,v2,v3,v4,v5,d0,d1,d2,d3,d4,d5,p0,p1,p2,p3,p4,p5,by cases args;simp_all,rfl,by simp,hd0,hd1,hd2,hd3,hd4,hd5⟩
theorem trodAll_mk6 {t0 t1 t2 t3 t4 t5:TypeId} {v0 v1 v2 v3 v4 v5:Value} {d0 d1 d2 d3 d4 d5:DataW H} {p0 p1 p2 p3 p4 p5:List MemPlace} (h0:DataW.Trod enc P w base spare held t0 v0 d0 p0) (h1:DataW.Trod enc P w base spare held t1 v1 d1 p1) (h2:DataW.Trod enc P w base spare held t2 v2 d2 p2) (h3:DataW.Trod enc P w base spare held t3 v3 d3 p3) (h4:DataW.Trod enc P w base spare held t4 v4 d4 p4) (h5:DataW.Trod enc P w base spare held t5 v5 d5 p5):DataW.TrodAll enc P w base spare held [t0,t1,t2,t3,t4,t5] [v0,v1,v2,v3,v4,v5] [d0,d1,d2,d3,d4,d5] (p0++(p1++(p2++(p3++(p4++(p5)))))):=⟨p0,p1++(p2++(p3++(p4++(p5)))),h0,trodAll_mk5 h1 h2 h3 h4 h5,rfl⟩
end
theorem fr8 (a0 a1 a2 a3 a4 a5:Value):#[a0,a1,a2,a3,a4,a5]++Array.replicate (Tryd.f8.ntmps-(#[a0,a1,a2,a3,a4,a5]:Array Value).size) undef=#[a0,a1,a2,a3,a4,a5,undef,undef,undef,undef,undef,undef,undef,undef,undef,undef,undef,undef,undef,undef,undef,undef,undef,undef,undef,undef,undef,undef,undef,undef,undef,undef,undef,undef,undef,undef,undef,undef,undef,undef,undef,undef,undef,undef,undef,undef,undef,undef,undef,undef,undef,undef,undef,undef,undef,undef,undef,undef,undef,undef,undef,undef,undef,undef,undef,undef,undef,undef,undef,undef,undef,undef,undef,undef,undef,undef,undef,undef,undef,undef,undef,undef,undef,undef,undef,undef,undef,undef,undef,undef,undef,undef,undef,undef,undef,undef,undef,undef,undef,undef,undef,undef,undef,undef,undef,undef,undef,undef,undef,undef,undef,undef,undef,undef,undef,undef,undef,undef,undef,undef,undef,undef,undef,undef,undef,undef,undef,undef,undef,undef,undef,undef,undef,undef,undef,undef,undef,undef,undef,undef,undef,undef,undef,undef,undef,undef,undef,undef,undef,undef,undef,undef,undef,undef,undef,undef,undef,undef,undef,undef,undef,undef,undef,undef,undef,undef,undef,undef,undef,undef,undef,undef,undef,undef,undef,undef,undef,undef,undef,undef,undef,undef,undef,undef,undef,undef,undef,undef,undef,undef,undef,undef,undef,undef,undef,undef,undef,undef,undef,undef,undef]:=by
 simp only [Tryd.ntmps8,List.size_toArray,List.length_cons,List.length_nil,Nat.reduceAdd,Nat.reduceSub,Array.replicate_succ,Array.replicate_zero,List.push_toArray,List.append_toArray,List.nil_append,List.cons_append]
theorem known_fin (d:Dit) (r:Rows6) (l:Lg) (al:Option Addr) (cap:Nat) (x2:Int) (x3:Int) (x4:Int) (x5:Int) (W:World) (hd:DitSl W d r) (hb:d.Big) (hg:Glob W) (hl:(Sl W (.slice al l.ops.length cap) 3 (l.ops.map three))) (hkd:(Kind W (.slice al l.ops.length cap))) (hlb:(l.ops.length≤281474976710656)) (hx2:(0≤x2∧x2≤255)) (hx3:(0≤x3∧x3≤255)) (hx4:(0≤x4∧x4≤255)) (hx5:(0≤x5∧x5≤255)) :
  Con.Fin Tryd.prog (fun u W'=>u=.bool true∧Con.Left W W') (solo (G (Frame.enter Tryd.prog 8 #[d.val r,.agg #[num l.lo,num l.hi,.slice al l.ops.length cap],.int .u8 x2,.int .u8 x3,.int .u8 x4,.int .u8 x5] .normal) []) W) #[]:=by
 refine law_fin Tryd.func8 lawB8_of hg (fun v hv=>?_) fun c Post hPost=>?_
 ·simp only [List.mem_cons,List.not_mem_nil,or_false] at hv
  rcases hv with rfl | rfl | rfl | rfl | rfl | rfl
  ·exact hd.same
  ·exact Same.agg fun v hv=>by (simp only [List.mem_cons,List.not_mem_nil,or_false] at hv;rcases hv with rfl | rfl | rfl;exact Same.num _;exact Same.num _;exact Same.slice ⟨_,_,_,rfl⟩ hkd)
  ·exact⟨fun c=>by simp [ren],by simp [ren]⟩
  ·exact⟨fun c=>by simp [ren],by simp [ren]⟩
  ·exact⟨fun c=>by simp [ren],by simp [ren]⟩
  ·exact⟨fun c=>by simp [ren],by simp [ren]⟩
 ·rw [fr8]
  exact known_go _ _ _ _ (fun _=>Iff.rfl) Post _ d r l al cap x2 x3 x4 x5 _ hd.entry hb hg.entry (hl.entry (by intro l hl x hx;obtain⟨z,_,rfl⟩:=List.mem_map.1 hl;simp only [three,List.mem_cons,List.not_mem_nil,or_false] at hx;rcases hx with rfl | rfl | rfl<;>exact inv_num _)) hlb hkd.entry hx2 hx3 hx4 hx5 hPost
theorem known_lifted (os:Os) (started:os.Started) (H:Type) (enc:TypeId×Value→H) :
  ReturnsInLeavingWide {} Tryd.checked os 8 .any (fun w args=>(Rows.turnKnownSpec.pre enc Tryd.prog Tryd.f8 [] false w args∧laidMetH Tryd.prog laid2 w)∧sizedMet enc Tryd.prog Tryd.f8 (OpenSpec.ofChange Rows.turnKnownSpec) false w args)
   (Rows.turnKnownSpec.post enc Tryd.prog Tryd.f8 false true false false):=by
 refine returnsInLeavingWide_and (C:=Tryd.checked) (X:=fun w _=>laidMetH Tryd.prog laid2 w) (fun _ _ _ hh h=>h.of_heap hh) own_knob started Tryd.func8
  (ChangeSpec.witness_shaped (enc:=enc) (C:=Tryd.checked) (os:=os) (X:=fun w _=>laidMetH Tryd.prog laid2 w) false (World.doorLaid Tryd.prog 600 os)
   #[.agg #[.slice none 0 0,.slice none 0 0,.int .i64 0,.int .i64 0,.int .i64 0,.int .i64 0,.slice none 0 0,.slice none 0 0,.slice none 0 0,.int .i64 0,.int .i64 0,.int .i64 0,.int .i64 0,.slice none 0 0],.agg #[.int .i64 0,.int .i64 0,.slice none 0 0],.int .u8 0,.int .u8 0,.int .u8 0,.int .u8 0] 8 rfl (World.shaped_of_RefB (by kernel_rfl) (by kernel_rfl)) (by kernel_rfl) (by kernel_rfl) (by kernel_rfl) (door_met os _)) ?_
 intro W base args ds gs before hval0 hW _ hsz hL
 have hval:∀ (j:Nat) t v,Tryd.f8.params[j]?=some t→args[j]?=some v→Value.okWide Tryd.prog W .any base t v:=hval0
 have hW':=hW
 obtain⟨p,q,hA0,hV,rfl,hfz,hnd⟩:=hW
 have hA:DataW.TrodAll enc Tryd.prog W 0 (fun _=>true) true Tryd.f8.params.toList args.toList ds p:=hA0
 rw [Tryd.params8] at hA hval
 obtain⟨v0,v1,v2,v3,v4,v5,d0,d1,d2,d3,d4,d5,p0,p1,p2,p3,p4,p5,rfl,rfl,rfl,h0,h1,h2,h3,h4,h5⟩:=trodAll_six hA
 obtain⟨rfl,rfl⟩:=trodVars_none hV
 have hfit1:Fits 35 d1:=fun n hn=>by
  have:=List.all_eq_true.1 hsz n (DataW.weights_mem_each (P:=Tryd.prog) (j:=1) (t:=35) (d:=d1) (by rw [show Tryd.checked.prog=Tryd.prog from rfl,Tryd.params8];rfl) rfl n hn)
  simpa using this
 obtain⟨l,al,cap,rfl,hl,hkd,hlb⟩:=log_open (hval 1 35 v1 rfl rfl) h1 hfit1
 obtain⟨x2,rfl,rfl,rfl,w2⟩:=open_int Tryd.underlying5 (hval 2 5 v2 rfl rfl) h2
 have hx2:0≤x2∧x2≤255:=by
  have h:=w2
  simp only [Lit.wf,Bool.and_eq_true,decide_eq_true_eq] at h
  exact h
 obtain⟨x3,rfl,rfl,rfl,w3⟩:=open_int Tryd.underlying5 (hval 3 5 v3 rfl rfl) h3
 have hx3:0≤x3∧x3≤255:=by
  have h:=w3
  simp only [Lit.wf,Bool.and_eq_true,decide_eq_true_eq] at h
  exact h
 obtain⟨x4,rfl,rfl,rfl,w4⟩:=open_int Tryd.underlying5 (hval 4 5 v4 rfl rfl) h4
 have hx4:0≤x4∧x4≤255:=by
  have h:=w4
  simp only [Lit.wf,Bool.and_eq_true,decide_eq_true_eq] at h
  exact h
 obtain⟨x5,rfl,rfl,rfl,w5⟩:=open_int Tryd.underlying5 (hval 5 5 v5 rfl rfl) h5
 have hx5:0≤x5∧x5≤255:=by
  have h:=w5
  simp only [Lit.wf,Bool.and_eq_true,decide_eq_true_eq] at h
  exact h
 have hfit:Fits 31 d0:=fun n hn=>by
  have:=List.all_eq_true.1 hsz n (DataW.weights_mem_each (P:=Tryd.prog) (j:=0) (t:=31) (d:=d0) (by rw [show Tryd.checked.prog=Tryd.prog from rfl,Tryd.params8];rfl) rfl n hn)
  simpa using this
 obtain⟨d,r,rfl,hd,hb⟩:=dit_open (hval 0 31 v0 rfl rfl) h0 hfit
 clear hA0 hval0
 try simp only [List.append_nil] at hW'
 have hlt:=fun x hx=>hW'.lt x hx
 try simp only [Array.size_empty,Nat.add_zero] at hlt
 refine fin_post (known_fin d r l al cap x2 x3 x4 x5 W hd hb (of_laid hL) hl hkd hlb hx2 hx3 hx4 hx5) fun W' hl=>?_
 have ha:=trodAll_mk6 (left_trod (by kernel_rfl) (of_decide_eq_true (by kernel_rfl)) h0 hl fun x hx=>hlt x (by simp [hx])) (left_trod (by kernel_rfl) (of_decide_eq_true (by kernel_rfl)) h1 hl fun x hx=>hlt x (by simp [hx])) (shut_int Tryd.underlying5 w2) (shut_int Tryd.underlying5 w3) (shut_int Tryd.underlying5 w4) (shut_int Tryd.underlying5 w5)
 try simp only [List.append_nil] at ha
 exact⟨[d0,d1,.lit (.int .u8 x2),.lit (.int .u8 x3),.lit (.int .u8 x4),.lit (.int .u8 x5)],[],_,[],_,[],hW',trodAll_mk1 (shut_bool Tryd.underlying4 _),ha,rfl,left_kept hl _,fun h=>by cases h⟩
theorem known_holds:Rows.TurnKnownSaid :=
 OpenClaim.holds_of_wide_leaving 8 Tryd.f8 rfl rfl rfl rfl rfl rfl rfl ⟨rfl,rfl,rfl,rfl,rfl⟩ rfl rfl rfl rfl rfl (by kernel_rfl) Tryd.func8 (by kernel_rfl)
  (of_decide_eq_true (by kernel_rfl)) (by unfold Func.isWrapper;first | (rw [if_pos (by decide +kernel)];kernel_rfl) | (rw [if_neg (by decide +kernel)];exact⟨rfl,rfl⟩))
  (fun os started H enc _=>known_lifted os started H enc)
theorem known_card:Rows.TurnKnownCardSaid :=
 tied_plain_goes .later [] [.funcs,.data] true (true,"13bbfa5877394a3cde13138796d6bb679173f8167c87f9ccc98cd9f3e99a425f") false true
  known_holds (fun _ h=>by cases h) (by kernel_rfl) (fun _ h=>by cases h) turnKnown_row_tie rfl ⟨rfl,rfl⟩ (by kernel_rfl) rfl
  (fun f fn hf hfn=>by
   obtain rfl:f=8:=Option.some.inj ((show Tryd.prog.funcNamed "crocus/crocuslaw02.TurnKnown" = some 8 by kernel_rfl).symm.trans hf) |>.symm
   obtain rfl:fn=Tryd.f8:=(Option.some.inj (Tryd.func8.symm.trans hfn)).symm
   exact⟨by kernel_rfl,fun j t ht=>by
    rw [Tryd.params8] at ht
    have hm:t∈[31,35,5,5,5,5]:=by simpa using Array.mem_of_getElem? ht
    have hall:([31,35,5,5,5,5].all fun u=>!Tryd.prog.wantsStandIn u)=true:=by kernel_rfl
    exact (show Tryd.prog.wantsStandIn t=false by simpa using List.all_eq_true.1 hall t hm)⟩)
  (by kernel_rfl)
#print axioms known_card
end Go.Proofs.YtolholkjeehamaaDoor

