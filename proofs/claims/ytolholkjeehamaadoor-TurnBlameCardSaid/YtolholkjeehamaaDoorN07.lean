/- For every ditch, any log and any byte the law TurnBlame returns true, does not panic, and leaves its arguments as they were. Conditions: the package's variables hold what the program lays in them at its start (laid), and the arguments are values as the card tells. -/
import Derived.Test.YtolholkjeehamaaDoorQ1
import Derived.Test.YtolholkjeehamaaDoorQ40
import Derived.Test.YtolholkjeehamaaDoorC39
import Derived.Test.YtolholkjeehamaaDoorC34
import Derived.Test.YtolholkjeehamaaDoorC09
set_option linter.all false
set_option maxRecDepth 100000
set_option maxHeartbeats 4000000
namespace Go.Proofs.YtolholkjeehamaaDoor
theorem Dit.Ok.oth_len {d:Dit} (hO:d.Ok) (c:Int):(d.oth c).length=d.turns.length:=by
 by_cases hc:c∈d.keys
 ·rw [hO.chg.len c hc]
 ·rw [oth_us hc];simp [Dit.us]
end Go.Proofs.YtolholkjeehamaaDoor

namespace Go.Proofs.YtolholkjeehamaaDoor
theorem all_set {P:Int→Prop} {l:List Int} (h:∀ x∈l,P x) {v:Int} (hv:P v) (i:Nat):∀ x∈l.set i v,P x:=fun x hx=>by
 rcases List.mem_or_eq_of_mem_set hx with h1 | h1
 ·exact h x h1
 ·rw [h1];exact hv
theorem all_getD {P:Int→Prop} {l:List Int} (h:∀ x∈l,P x) (h0:P 0) (i:Nat):P ((l[i]?).getD 0):=by
 rcases hi:l[i]? with _ | x
 ·exact h0
 ·exact h x (List.mem_of_getElem? hi)
theorem all_oth2 {P:Int→Prop} (h0:P 0) (x:Int):∀ (sw:List (Int×Int×Int)) (us:List Int),(∀ v∈us,P v)→∀ v∈oth2 us sw x,P v
 | [],_,h=>h
 | s :: sw,us,h=>by
  show ∀ v∈oth2 (if s.1=x then swapL us s.2.1.toNat s.2.2.toNat else us) sw x,P v
  refine all_oth2 h0 x sw _ ?_
  split
  ·exact all_set (all_set h (all_getD h h0 _) _) (all_getD h h0 _) _
  ·exact h
theorem all_oth3 {P:Int→Prop} (x:Int):∀ (lo:List (Int×Int×Int)) (us:List Int),(∀ s∈lo,P s.2.2)→(∀ v∈us,P v)→∀ v∈oth3 us lo x,P v
 | [],_,_,h=>h
 | s :: lo,us,hl,h=>by
  show ∀ v∈oth3 (if s.1=x then us.set s.2.1.toNat s.2.2 else us) lo x,P v
  refine all_oth3 x lo _ (fun s hs=>hl s (List.mem_cons_of_mem _ hs)) ?_
  split
  ·exact all_set h (hl s (List.mem_cons_self ..)) _
  ·exact h
theorem Dit.Ok.oth_all {d:Dit} (hO:d.Ok) (x:Int):∀ v∈d.oth x,0≤v∧v≤(d.holders.length:Int)-1:=by
 have hu:∀ v∈d.us,0≤v∧v≤(d.holders.length:Int)-1:=fun v hv=>by
  obtain⟨y,hy,rfl⟩:=List.mem_map.1 hv
  exact (hO.th y hy).1
 have h0:0≤(0:Int)∧(0:Int)≤(d.holders.length:Int)-1:=by
  rcases ht:d.turns with _ | ⟨y,l⟩
  ·have:=hO.t12;rw [ht] at this;simp at this
  ·have:=(hO.th y (by rw [ht];exact List.mem_cons_self ..)).1;omega
 exact all_oth3 (P:=fun v=>0≤v∧v≤(d.holders.length:Int)-1) x _ _ (fun s hs=>(hO.lo s hs).2.2) (all_oth2 h0 x _ _ hu)
theorem Dit.Ok.hour {d:Dit} (hO:d.Ok) {h:Int} (hh:0≤h):(d.owner h=(-1,-1,-1)∧d.ran (h+1)=d.ran h) ∨
  (∃ k c t,d.owner h=(k,c,t)∧(0≤k∧k≤(d.holders.length:Int)-1)∧0≤c∧(0≤t∧t<(d.turns.length:Int))∧d.begin_≤h∧d.ran (h+1)=d.ran h+1):=by
 have hs:=hO.ran_step hh
 by_cases hr:d.runs h=true
 ·have hr0:=hO.ran_nonneg h
  have hT:=hO.cyc_pos
  rw [if_pos hr] at hs
  have hq:0≤(d.ran h).tdiv d.cyc:=Int.tdiv_nonneg hr0 (by omega)
  have htl:=hO.turn_lt (d.ran h)
  have hl:=hO.oth_len ((d.ran h).tdiv d.cyc)
  have ha:=hO.oth_all ((d.ran h).tdiv d.cyc)
  have hw:(if (d.ran h).tdiv d.cyc∈d.keys then d.oth ((d.ran h).tdiv d.cyc) else d.us)=d.oth ((d.ran h).tdiv d.cyc):=by
   split
   ·rfl
   ·rename_i hn;rw [oth_us hn]
  have hat:d.at d.ends d.cyc h=((d.ran h).tdiv d.cyc,(turnS d.ends ((d.ran h).tmod d.cyc) 12 0:Int)):=by unfold Dit.at;rw [if_neg (by omega)]
  have hb:d.begin_≤h:=by
   rcases Int.lt_or_le h d.begin_ with hlt | hle
   ·have:=ran_low (d:=d) (h:=h) (by omega)
    have:=ran_low (d:=d) (h:=h+1) (by omega)
    omega
   ·exact hle
  refine .inr ⟨_,_,_,rfl,?_,?_,?_,hb,hs⟩
  ·rw [hat]
   unfold whoS
   simp only []
   rw [if_neg (by omega),hw,Int.toNat_natCast]
   generalize turnS d.ends ((d.ran h).tmod d.cyc) 12 0=t at htl
   generalize d.oth ((d.ran h).tdiv d.cyc)=l at hl ha
   rw [List.getElem?_eq_getElem (show t<l.length by omega)]
   exact ha _ (List.getElem_mem _)
  ·rw [hat];exact hq
  ·rw [hat];exact⟨by simp,by simpa using htl⟩
 ·rw [if_neg hr] at hs
  have hat:d.at d.ends d.cyc h=(-1,-1):=by unfold Dit.at;rw [if_pos (by omega)]
  refine .inl ⟨?_,by omega⟩
  unfold Dit.owner whoS
  rw [hat]
  simp
end Go.Proofs.YtolholkjeehamaaDoor

namespace Go.Proofs.YtolholkjeehamaaDoor
open Go.RowKit
theorem hoursL_mem (n:Nat) (a x:Int):x∈hoursL a n↔a≤x∧x<a+n:=by
 unfold hoursL
 rw [List.mem_map]
 constructor
 ·rintro ⟨i,hi,rfl⟩
  rw [List.mem_range] at hi
  omega
 ·intro h
  exact⟨(x-a).toNat,List.mem_range.2 (by omega),by omega⟩
theorem out_iff {d:Dit} {holder a b c:Int} (h:a≤b):d.out holder a b c=true↔∃ x,(a+c≤x∧x<b+c)∧(d.owner x).1≠holder:=by
 unfold Dit.out
 rw [List.any_eq_true]
 constructor
 ·rintro ⟨x,hx,h1⟩
  rw [hoursL_mem] at hx
  exact⟨x,by omega,by simpa using h1⟩
 ·rintro ⟨x,hx,h1⟩
  exact⟨x,(hoursL_mem ..).2 (by omega),by simpa using h1⟩
def outI (d:Dit) (l:Lg) (n:Int) (i:Nat):Bool:=match l.ops[i]? with | some o=>d.out o.1 o.2.1 o.2.2 n | none=>false
theorem cntI_eq (d:Dit) (l:Lg) (n:Int) (i:Nat):∀ k,cntI (outL d l n k) i=if i<k∧outI d l n i=true then 1 else 0
 | 0=>by simp [outL,cntI]
 | k+1=>by
  have ih:=cntI_eq d l n i k
  have hc:cntI (outL d l n (k+1)) i=cntI (outL d l n k) i+(if outI d l n k=true∧i=k then 1 else 0):=by
   have e:outL d l n (k+1)=outL d l n k++(match l.ops[k]? with | some o=>if d.out o.1 o.2.1 o.2.2 n then [(k:Int)] else [] | none=>[]):=rfl
   rw [e]
   unfold cntI outI
   rw [List.count_append]
   cases l.ops[k]? with
   | none=>simp
   | some o =>
    dsimp only
    by_cases ho:d.out o.1 o.2.1 o.2.2 n=true
    ·rw [if_pos ho,List.count_singleton]
     by_cases hik:i=k
     ·subst hik;simp [ho]
     ·have:((k:Int) == (i:Int))=false:=by simp;omega
      simp [this,hik]
    ·rw [if_neg ho]
     simp [ho]
  rw [hc,ih]
  by_cases hik:i=k
  ·subst hik
   simp
  ·have e1:(i<k+1∧outI d l n i=true)↔(i<k∧outI d l n i=true):=by
    constructor<;>rintro ⟨a,b⟩<;>exact⟨by omega,b⟩
   rw [if_neg (show ¬ (outI d l n k=true∧i=k) from fun h=>hik h.2),Int.add_zero]
   simp only [e1]
theorem manyF_all (d:Dit) (l:Lg) (i:Nat):∀ L:List Nat,(manyF d l L i=L.length↔∀ k∈L,cntI (outL d l (l.lo+k) l.ops.length) i=1)∧(manyF d l L i=0↔∀ k∈L,cntI (outL d l (l.lo+k) l.ops.length) i=0)
 | []=>by simp [manyF]
 | k :: L=>by
  obtain⟨h1,h2⟩:=manyF_all d l i L
  have h3:=manyF_bd d l i L
  have h4:=cntI_bd d l (l.lo+k) i l.ops.length
  have h5:0≤cntI (outL d l (l.lo+k) l.ops.length) i∧cntI (outL d l (l.lo+k) l.ops.length) i≤1:=by split at h4<;>omega
  simp only [manyF,List.length_cons,List.forall_mem_cons,← h1,← h2]
  constructor<;>omega
theorem kks_in:∀ (n k:Nat),k∈kks n↔k<n
 | 0,k=>by simp [kks]
 | n+1,k=>by simp [kks,kks_in n k];omega
theorem belL_get (all:Int) (f:Nat→Int):∀ (k i:Nat),i<k→(belL all f k)[i]?=some (belS all (f i))
 | k+1,i,h=>by
  have hl:=belL_len all f k
  unfold belL
  by_cases e:i=k
  ·subst e
   rw [List.getElem?_append_right (by omega),hl]
   simp
  ·rw [List.getElem?_append_left (by omega)]
   exact belL_get all f k i (by omega)
structure BelOk (d:Dit) (l:Lg) (o:Int×Int×Int) (b:Int):Prop where
 one:b=0∨b=1∨b=2
 sure:b=1↔∀ c,l.lo≤c→c≤l.hi→d.out o.1 o.2.1 o.2.2 c=true
 never:b=2↔∀ c,l.lo≤c→c≤l.hi→d.out o.1 o.2.1 o.2.2 c=false
theorem judge_law {d:Dit} {l:Lg} (h:logS d l=0):(judgeF d l).2=0∧(judgeF d l).1.length=l.ops.length∧∀ (i:Nat) o,l.ops[i]?=some o→∃ b,(judgeF d l).1[i]?=some b∧BelOk d l o b:=by
 obtain⟨hL,hcl⟩:=log_ok h
 have e:judgeF d l=(belL (capN l) (manyF d l (kks (capN l))) l.ops.length,0):=by unfold judgeF;rw [if_neg (by simp [h])]
 rw [e]
 refine⟨rfl,belL_len ..,fun i o ho=>⟨_,belL_get _ _ _ _ (List.getElem?_eq_some_iff.1 ho).1,?_⟩⟩
 have hil:=(List.getElem?_eq_some_iff.1 ho).1
 obtain⟨h1,h2⟩:=manyF_all d l i (kks (capN l))
 rw [kks_len] at h1
 have hcap:(capN l:Int)=l.hi-l.lo+1:=by unfold capN;omega
 have hi:∀ n,outI d l n i=d.out o.1 o.2.1 o.2.2 n:=fun n=>by unfold outI;rw [ho]
 have hk1:manyF d l (kks (capN l)) i=capN l↔∀ c,l.lo≤c→c≤l.hi→d.out o.1 o.2.1 o.2.2 c=true:=by
  rw [h1]
  constructor
  ·intro H c c1 c2
   have:=H (c-l.lo).toNat ((kks_in ..).2 (by omega))
   rw [cntI_eq,show l.lo+((c-l.lo).toNat:Int)=c by omega,hi] at this
   split at this
   ·rename_i g;exact g.2
   ·cases this
  ·intro H k hk
   rw [kks_in] at hk
   rw [cntI_eq,hi,if_pos ⟨hil,H _ (by omega) (by omega)⟩]
 have hk2:manyF d l (kks (capN l)) i=0↔∀ c,l.lo≤c→c≤l.hi→d.out o.1 o.2.1 o.2.2 c=false:=by
  rw [h2]
  constructor
  ·intro H c c1 c2
   have:=H (c-l.lo).toNat ((kks_in ..).2 (by omega))
   rw [cntI_eq,show l.lo+((c-l.lo).toNat:Int)=c by omega,hi] at this
   split at this
   ·cases this
   ·rename_i g
    cases hb:d.out o.1 o.2.1 o.2.2 c with
    | false=>rfl
    | true=>exact absurd ⟨hil,hb⟩ g
  ·intro H k hk
   rw [kks_in] at hk
   rw [cntI_eq,hi,if_neg (by rw [H _ (by omega) (by omega)];simp)]
 generalize manyF d l (kks (capN l)) i=m at hk1 hk2 ⊢
 unfold belS
 refine⟨?_,?_,?_⟩
 ·split
  ·exact .inr (.inl rfl)
  ·split
   ·exact .inr (.inr rfl)
   ·exact .inl rfl
 ·rw [← hk1]
  split
  ·rename_i g;simp [g]
  ·split<;>rename_i g1 g2<;>simp [g1]
 ·rw [← hk2]
  split
  ·rename_i g
   subst g
   constructor
   ·intro h;cases h
   ·intro h;omega
  ·split<;>rename_i g1 g2<;>simp [g2]
end Go.Proofs.YtolholkjeehamaaDoor

namespace Go.Proofs.YtolholkjeehamaaDoor
open Go.RowKit
def nearB (a b:Int):Bool:=decide (sizeS a<sizeS b∨sizeS a=sizeS b∧a > b)
theorem before_near {c n:Int} {k k' : Nat} (h:beforeS c k n k'=false):k > k'∨k=k'∧nearB c n=false:=by
 unfold beforeS at h
 split at h
 ·rename_i g
  left
  have:=of_decide_eq_false h
  omega
 ·rename_i g
  right
  refine⟨Decidable.not_not.1 g,?_⟩
  unfold nearB
  split at h
  ·rename_i g2
   have:=of_decide_eq_false h
   exact decide_eq_false (by omega)
  ·rename_i g2
   have:=of_decide_eq_false h
   exact decide_eq_false (by omega)
theorem mem_outL {d:Dit} {l:Lg} {n:Int} {i:Nat} (hi:i<l.ops.length):(i:Int)∈outL d l n l.ops.length↔outI d l n i=true:=by
 have h:=cntI_eq d l n i l.ops.length
 unfold cntI at h
 rw [← List.count_pos_iff]
 constructor
 ·intro g
  split at h
  ·rename_i q;exact q.2
  ·omega
 ·intro g
  rw [if_pos ⟨hi,g⟩] at h
  omega
structure BlameOk (d:Dit) (l:Lg) (n:Int) (xs:List Int):Prop where
 bd:l.lo≤n∧n≤l.hi
 eq:xs=outL d l n l.ops.length
 few:xs.length≤20
 mem:∀ (i:Nat) o,l.ops[i]?=some o→((i:Int)∈xs↔d.out o.1 o.2.1 o.2.2 n=true)
 best:∀ c,l.lo≤c→c≤l.hi→(outL d l c l.ops.length).length > xs.length∨(outL d l c l.ops.length).length=xs.length∧nearB c n=false
theorem blame_law {d:Dit} {l:Lg} {n:Int} {xs:List Int} {f:Int} (h:logS d l=0) (hb:BlameR d l n xs f):f=0∧BlameOk d l n xs:=by
 obtain⟨hf,kb,⟨h1,h2⟩,hn,hx⟩:=hb.2 h
 obtain⟨hL,hcl⟩:=log_ok h
 rw [kks_in] at h1
 have hcap:(capN l:Int)=l.hi-l.lo+1:=by unfold capN;omega
 refine⟨hf,by omega,hx,?_,fun i o ho=>?_,fun c c1 c2=>?_⟩
 ·rw [hx]
  have:=outL_len d l n l.ops.length
  have:=hL.few
  omega
 ·rw [hx,mem_outL (List.getElem?_eq_some_iff.1 ho).1]
  unfold outI
  rw [ho]
 ·have:=h2 (c-l.lo).toNat ((kks_in ..).2 (by omega)) (by simp)
  rw [show l.lo+((c-l.lo).toNat:Int)=c by omega,← hn,← hx] at this
  exact before_near this
theorem blame_bel {d:Dit} {l:Lg} {n:Int} {xs:List Int} (hB:BlameOk d l n xs) {i:Nat} {o:Int×Int×Int} {b:Int} (ho:l.ops[i]?=some o) (hb:BelOk d l o b):(b=1→(i:Int)∈xs)∧(b=2→(i:Int)∉xs):=by
 refine⟨fun e=>(hB.mem i o ho).2 (hb.sure.1 e n hB.bd.1 hB.bd.2),fun e h=>?_⟩
 have h1:=(hB.mem i o ho).1 h
 rw [hb.never.1 e n hB.bd.1 hB.bd.2] at h1
 cases h1
end Go.Proofs.YtolholkjeehamaaDoor

namespace Go.Proofs.YtolholkjeehamaaDoor
open Go.RowKit Go.Con Go.Conc
local instance:Lone:=mainL
section
variable {dst:Option Nat} {ty:TypeId} {pos:String} {af:Array Edge} {x y c b o:Nat} {w:World} {gd:Option (Nat×Bool)} (e:Operand→Value)
theorem eqR3_run {n m:Int} (h:e (.tmp x)=num n) (h2:e (.tmp y)=num m) (hn:n=m) (τ:Tape):(execOp e ⟨dst,.binOp .eql 3 (.tmp x) (.tmp y) 3,ty,pos,af,gd⟩).run Tryd.prog { w with tape:=τ }=.ok (.value (.bool true)) { w with tape:=τ }:=by
 simp [execOp,go_sem,h,h2,hn]
end
end Go.Proofs.YtolholkjeehamaaDoor

namespace Go.Proofs.YtolholkjeehamaaDoor
open Go.RowKit Go.Con Go.Conc Go.ChangeShapes Go.WideShapes Go.ChangeAt
section
variable {H:Type} {enc:TypeId×Value→H} {W:World}
theorem log_open {v:Value} {dd:DataW H} {p:List MemPlace} {base:Nat} (hv:Value.okWide Tryd.prog W .any base 35 v) (h:DataW.Trod enc Tryd.prog W 0 (fun _=>true) true 35 v dd p) (hfit:Fits 35 dd) :
  ∃ (l:Lg) (al:Option Addr) (cap:Nat),v=.agg #[num l.lo,num l.hi,.slice al l.ops.length cap]∧Sl W (.slice al l.ops.length cap) 3 (l.ops.map three)∧Kind W (.slice al l.ops.length cap)∧l.ops.length≤281474976710656:=by
 simp only [Value.okWide,Tryd.underlying35] at hv
 obtain⟨cs,rfl,hsz,ts,hts,_,hcell⟩:=hv
 rw [show Tryd.prog.cellTypes Tryd.prog.depth 35=some [3,3,33] by kernel_rfl] at hts
 cases hts
 rw [show Tryd.prog.cellsOf 35=3 by kernel_rfl] at hsz
 obtain⟨fuel,hf⟩:=h
 simp only [Value.cells] at hf
 obtain⟨xs,m,_,hyy,_,hx,hg⟩:=DataW.trod_struct Tryd.underlying35 hf
 simp only [Prod.mk.injEq] at hyy
 obtain⟨rfl,rfl⟩:=hyy
 have hwt:(DataW.agg (xs.map (·.1)):DataW H).weights Tryd.prog 35=DataW.weightsEach Tryd.prog [28,33] (xs.map (·.1)):=by
  unfold DataW.weights
  rw [Tryd.underlying35]
  rfl
 unfold Fits at hfit
 rw [hwt] at hfit
 have hx0:∀ (i:Nat) (y:DataW H×List MemPlace) (t:TypeId),xs[i]?=some y→([28,33]:List TypeId)[i]?=some t→Fits t y.1:=fun i y t hy ht m hm=>hfit m (DataW.weights_mem_each ht (by rw [List.getElem?_map,hy];rfl) m hm)
 obtain⟨l⟩:=cs
 simp only [List.size_toArray] at hsz
 match l,hsz with
 | [u0,u1,u2],_ =>
  have c33:Tryd.prog.cellsOf 33=1:=by kernel_rfl
  have c28:Tryd.prog.cellsOf 28=2:=by kernel_rfl
  have g0:=hg 0 ⟨ "Clock",28,0,false,"","",0⟩ rfl
  have g1:=hg 1 ⟨ "Openings",33,2,false,"","",16⟩ rfl
  rw [List.getElem?_eq_getElem (by rw [hx];simp)] at g0 g1
  dsimp only at g0 g1
  rw [c28] at g0
  rw [c33] at g1
  simp only [List.drop_succ_cons,List.drop_zero,List.take_succ_cons,List.take_zero] at g0 g1
  have kc:Cell.okWide Tryd.prog W .any base 33 u2:=by
   obtain⟨t',h1,h2⟩:=hcell 2 u2 rfl
   have h3:([3,3,33]:List TypeId)[2 % 3]?=some 33:=rfl
   have e:t'=33:=by
    have:=h1.symm.trans h3
    exact Option.some.inj this
   rw [e] at h2
   exact h2
  obtain⟨ops,a1,a2,a3,a4,a5⟩:=sl_open (en:=three) (ok:=fun _=>True) Tryd.underlying33 (by decide +kernel) (fun n cs' y h hff=>read_three Tryd.underlying59 rfl rfl rfl rfl rfl rfl (by kernel_rfl) h) g1 (hx0 1 _ _ (List.getElem?_eq_getElem _) rfl) kc
  obtain⟨⟨n1,n2⟩,q1,_⟩:=read_two Tryd.underlying28 rfl rfl rfl rfl c28 g0
  simp only [two,List.cons.injEq,and_true] at q1
  obtain⟨rfl,rfl⟩:=q1
  rw [show Tryd.prog.cellsOf 59=3 by kernel_rfl] at a1
  obtain⟨al,cap,e⟩:=a1.cases
  rw [List.length_map] at e
  subst e
  exact⟨⟨n1,n2,ops⟩,al,cap,rfl,a1,a3,Nat.le_trans a4 (by decide)⟩
end
end Go.Proofs.YtolholkjeehamaaDoor

namespace Go.Proofs.YtolholkjeehamaaDoor
open Go.RowKit
theorem running80_any (d:Dit) (r:Rows6) (h:Int) (w:World) (hd:DitSl w d r) (ht:d.Times) (hh : -1000000000000≤h∧h≤1000000000000) :
  CallsIn FL 0 Tryd.prog 80 #[d.val r,num h] w fun e w'=>e=.returned (num (d.ran h))∧Nx w w':=by
 obtain⟨W,hW,n0,hWs,cW⟩:=boxed w d r
 obtain⟨af,cap,ef⟩:=hd.feasts.cases
 rw [List.length_map] at ef
 have hv:=hd.feasts.nx n0
 rw [ef] at hv
 have nWW:Nx W W:=Below.refl _ _
 have c2:∀ x,Nx W x→x.cell? ⟨w.heap.size,2,none⟩=some (num d.begin_):=fun x hx=>cW x hx 2 _ rfl
 have c6:∀ x,Nx W x→x.cell? ⟨w.heap.size,6,none⟩=some (.slice af d.feasts.length cap):=fun x hx=>(cW x hx 6 r.f rfl).trans (by rw [ef])
 have hb0:=ht.begin_
 have hb1 : -1000000000000≤d.begin_∧d.begin_≤1000000000000:=by omega
 have k104:∀ (y:Int) (x:World),-1000000000000≤y∧y≤1000000000000→Nx W x→CallsIn FL 0 Tryd.prog 104 #[d.val r,num y] x fun e w'=>e=.returned (num (restS d.week d.from_ d.long y))∧Nx W w' :=
  fun y x hy hx=>(rests_any d r y x ht hy).mono fun e w' ⟨p,q⟩=>⟨p,Nx.trans hx q⟩
 have rbd:=fun (y:Int) hy=>rest_bd (hour:=y) ht.week ht.from_ ht.long hy
 have f2:=c2 _ nWW
 gi_enter Tryd.func80,Tryd.ntmps80
 by_cases hle:h≤d.begin_
 ·have HZ:=Lib.hid (ran_low hle)
  clear cW hv c2 c6 k104 rbd
  gi_wp2
  go_ret
  exact⟨by rw [HZ.out];rfl,n0⟩
 ·gi_upto_region 3 with fail
  have nd:Nx W W.drew:=Below.drew nWW
  have kA:=fun x hx=>k104 h x hh hx
  have kB:=fun x hx=>k104 d.begin_ x hb1 hx
  have rA:=rbd h hh
  have rB:=rbd d.begin_ hb1
  have H0:=Lib.hid (show d.ranTo h 0=h-d.begin_-(restS d.week d.from_ d.long h-restS d.week d.from_ d.long d.begin_) by rw [d.ranTo_zero];unfold Dit.work workS;rw [if_neg (by omega)];omega)
  generalize restS d.week d.from_ d.long h=Rh at kA rA H0
  generalize restS d.week d.from_ d.long d.begin_=Rb at kB rB H0
  refine wpIn_region_C (fun x=>Nx W x) (by kernel_rfl) ?_
  change wpAnyC _ _ _ _ _ _ _ 14 #[false,false,false,false,false,false,false,false,false,false,false,false,false,false] _ _
  refine wpAnyC_takeR (i:=0) (oi:=⟨some 13,.move (.tmp 1),_,_,_,none⟩) (v:=num h) (plain_ops (by kernel_rfl)) rfl (by kernel_rfl) (by kernel_rfl) (by kernel_rfl) (fun _ _ _ h=>h) (yC_move rfl) ?_
  simp only [Act.put,List.setIfInBounds_toArray,List.set_cons_succ,List.set_cons_zero]
  refine wpAnyC_takeR (i:=1) (oi:=⟨some 14,.fieldAddr 31 (.tmp 2) 2,_,_,_,none⟩) (v:=.pointer (some ⟨w.heap.size,2,none⟩)) (plain_ops (by kernel_rfl)) rfl (by kernel_rfl) (by kernel_rfl) (by kernel_rfl) (fun _ _ _ h=>h) (yC_f31_2 rfl) ?_
  simp only [Act.put,List.setIfInBounds_toArray,List.set_cons_succ,List.set_cons_zero]
  refine wpAnyC_takeR (i:=2) (oi:=⟨some 15,.load 3 (.tmp 14),_,_,_,none⟩) (v:=num d.begin_) (plain_ops (by kernel_rfl)) rfl (by kernel_rfl) (by kernel_rfl) (by kernel_rfl) (fun _ _ _ h=>h) (yC_load3 rfl (fun x hx=>c2 x hx)) ?_
  simp only [Act.put,List.setIfInBounds_toArray,List.set_cons_succ,List.set_cons_zero]
  refine wpAnyC_takeR (i:=3) (oi:=⟨some 16,.binOp .sub 3 (.tmp 13) (.tmp 15) 3,_,_,_,none⟩) (v:=num (h-d.begin_)) (plain_ops (by kernel_rfl)) rfl (by kernel_rfl) (by kernel_rfl) (by kernel_rfl) (fun _ _ _ h=>h) (yC_sub rfl rfl (by omega)) ?_
  simp only [Act.put,List.setIfInBounds_toArray,List.set_cons_succ,List.set_cons_zero]
  refine wpAnyC_takeR (i:=4) (oi:=⟨some 17,.load 31 (.tmp 2),_,_,_,none⟩) (v:=d.val r) (plain_ops (by kernel_rfl)) rfl (by kernel_rfl) (by kernel_rfl) (by kernel_rfl) (fun _ _ _ h=>h) (yC_dit rfl (fun x hx=>cW x hx)) ?_
  simp only [Act.put,List.setIfInBounds_toArray,List.set_cons_succ,List.set_cons_zero]
  refine wpAnyC_takeR (i:=5) (oi:=⟨some 18,.move (.tmp 1),_,_,_,none⟩) (v:=num h) (plain_ops (by kernel_rfl)) rfl (by kernel_rfl) (by kernel_rfl) (by kernel_rfl) (fun _ _ _ h=>h) (yC_move rfl) ?_
  simp only [Act.put,List.setIfInBounds_toArray,List.set_cons_succ,List.set_cons_zero]
  refine wpAnyC_takeR (i:=7) (oi:=⟨some 20,.load 31 (.tmp 2),_,_,_,none⟩) (v:=d.val r) (plain_ops (by kernel_rfl)) rfl (by kernel_rfl) (by kernel_rfl) (by kernel_rfl) (fun _ _ _ h=>h) (yC_dit rfl (fun x hx=>cW x hx)) ?_
  simp only [Act.put,List.setIfInBounds_toArray,List.set_cons_succ,List.set_cons_zero]
  refine wpAnyC_takeR (i:=8) (oi:=⟨some 21,.fieldAddr 31 (.tmp 2) 2,_,_,_,none⟩) (v:=.pointer (some ⟨w.heap.size,2,none⟩)) (plain_ops (by kernel_rfl)) rfl (by kernel_rfl) (by kernel_rfl) (by kernel_rfl) (fun _ _ _ h=>h) (yC_f31_2 rfl) ?_
  simp only [Act.put,List.setIfInBounds_toArray,List.set_cons_succ,List.set_cons_zero]
  refine wpAnyC_takeR (i:=9) (oi:=⟨some 22,.load 3 (.tmp 21),_,_,_,none⟩) (v:=num d.begin_) (plain_ops (by kernel_rfl)) rfl (by kernel_rfl) (by kernel_rfl) (by kernel_rfl) (fun _ _ _ h=>h) (yC_load3 rfl (fun x hx=>c2 x hx)) ?_
  simp only [Act.put,List.setIfInBounds_toArray,List.set_cons_succ,List.set_cons_zero]
  refine wpAnyC_only (i:=6) (o:=⟨some 19,.call { callee:=.value (.func 104),args:=#[.tmp 17,.tmp 18],argTypes:=#[31,3] },_,_,_,none⟩) (by kernel_rfl) rfl rfl (nd) ?_
  intro K hK
  go_simp
  refine CallsIn.mono (kA _ (nd)) ?_
  rintro e v6 ⟨rfl,n6⟩
  refine hK _ _ ?_
  refine wpAnyC_only (i:=10) (o:=⟨some 23,.call { callee:=.value (.func 104),args:=#[.tmp 20,.tmp 22],argTypes:=#[31,3] },_,_,_,none⟩) (by kernel_rfl) rfl rfl (n6) ?_
  intro K hK
  go_simp
  refine CallsIn.mono (kB _ (n6)) ?_
  rintro e v10 ⟨rfl,n10⟩
  refine hK _ _ ?_
  refine wpAnyC_takeR (i:=11) (oi:=⟨some 24,.binOp .sub 3 (.tmp 19) (.tmp 23) 3,_,_,_,none⟩) (v:=num (Rh-Rb)) (plain_ops (by kernel_rfl)) rfl (by kernel_rfl) (by kernel_rfl) (by kernel_rfl) (fun _ _ _ h=>h) (yC_sub rfl rfl (by omega)) ?_
  simp only [Act.put,List.setIfInBounds_toArray,List.set_cons_succ,List.set_cons_zero]
  refine wpAnyC_takeR (i:=12) (oi:=⟨some 25,.binOp .sub 3 (.tmp 16) (.tmp 24) 3,_,_,_,none⟩) (v:=num ((h-d.begin_)-(Rh-Rb))) (plain_ops (by kernel_rfl)) rfl (by kernel_rfl) (by kernel_rfl) (by kernel_rfl) (fun _ _ _ h=>h) (yC_sub rfl rfl (by omega)) ?_
  simp only [Act.put,List.setIfInBounds_toArray,List.set_cons_succ,List.set_cons_zero]
  refine wpAnyC_takeR (i:=13) (oi:=⟨some 5,.assign (.tmp 25),_,_,_,none⟩) (v:=num ((h-d.begin_)-(Rh-Rb))) (plain_ops (by kernel_rfl)) rfl (by kernel_rfl) (by kernel_rfl) (by kernel_rfl) (fun _ _ _ h=>h) (yC_assign rfl) ?_
  simp only [Act.put,List.setIfInBounds_toArray,List.set_cons_succ,List.set_cons_zero]
  refine wpAnyC_done (by kernel_rfl) (n10) ?_
  clear kA kB f2
  gi_wp2
  gi_loopw [5,6] (fun n i wr=>∃ k:Nat,k≤d.feasts.length∧i=num k∧n=num (d.ranTo h k)∧Nx W wr) (fun _ i _=>d.feasts.length-(intOf i).toNat)
  case atStart=>exact⟨0,Nat.zero_le _,rfl,by rw [H0.out],n10⟩
  case round =>
   obtain⟨k,hk,rfl,rfl,n2⟩:=hrel
   have f2:=c2 _ n2
   have f6:=c6 _ n2
   by_cases hlt:k<d.feasts.length
   ·obtain⟨b,off,ha,hbl,hcl⟩:=hv.get (by simp;omega)
    subst ha
    have hx:d.feasts[k]?=some d.feasts[k]:=List.getElem?_eq_getElem hlt
    have hxb:=ht.feasts d.feasts[k] (List.getElem_mem _)
    generalize d.feasts[k]=x at hx hxb
    obtain⟨x1,x2⟩:=x
    dsimp only at hxb
    obtain⟨g1,g2⟩:=Sl.at2 hcl n2 hbl hx
    have hs:=d.ranTo_succ h hx
    have hbd:=ht.ranTo_bd hh (k+1) hlt
    have hbd0:=ht.ranTo_bd hh k hk
    have hmany:=ht.many
    dsimp only at hs
    have HS:=Lib.hid hs
    have HB:=Lib.hid hbd
    have HB0:=Lib.hid hbd0
    have HC:=Lib.hid hcl
    have HV:=Lib.hid hv
    have HR:=Lib.hid rbd
    have HK:=Lib.hid k104
    have HW:=Lib.hid cW
    have H2:=Lib.hid c2
    clear hs hbd hbd0 hcl hv rbd k104 cW c2 c6 rA rB hx
    gi_upto_region 7 with fail
    gi_big_quiet_th (fail)
    simp only [max_if,min_if]
    have n3:Nx W (wr.drewN nq):=Nx.drewN n2 nq
    generalize wr.drewN nq=W3 at n3 ⊢
    have bA : -1000000000000≤max d.begin_ x1∧max d.begin_ x1≤1000000000000:=by omega
    have bE : -1000000000000≤min h (x2+1)∧min h (x2+1)≤1000000000000:=by omega
    clear f2 f6 g1 g2
    generalize max d.begin_ x1=A at HS bA ⊢
    generalize min h (x2+1)=E at HS bE ⊢
    by_cases hlt2:A<E
    ·gi_upto_region 9 with fail
     have nd9:Nx W W3.drew:=Below.drew n3
     have c2:=H2.out
     have cW:=HW.out
     have kA:=fun x hx=>HK.out A x bA hx
     have kE:=fun x hx=>HK.out E x bE hx
     have rA:=HR.out A bA
     have rE:=HR.out E bE
     have hs:d.ranTo h (k+1)=d.ranTo h k-(E-A-(restS d.week d.from_ d.long E-restS d.week d.from_ d.long A)):=by
      rw [HS.out];unfold Dit.work workS;rw [if_neg (by omega)];omega
     generalize restS d.week d.from_ d.long A=Ra at kA rA hs
     generalize restS d.week d.from_ d.long E=Re at kE rE hs
     have hz:=HB0.out
     generalize d.ranTo h k=z at hs hz ⊢
     refine wpIn_region_C (fun x=>Nx W x) (by kernel_rfl) ?_
     change wpAnyC _ _ _ _ _ _ _ 14 #[false,false,false,false,false,false,false,false,false,false,false,false,false,false] _ _
     refine wpAnyC_takeR (i:=0) (oi:=⟨some 54,.move (.tmp 5),_,_,_,none⟩) (v:=num z) (plain_ops (by kernel_rfl)) rfl (by kernel_rfl) (by kernel_rfl) (by kernel_rfl) (fun _ _ _ h=>h) (yC_move rfl) ?_
     simp only [Act.put,List.setIfInBounds_toArray,List.set_cons_succ,List.set_cons_zero]
     refine wpAnyC_takeR (i:=1) (oi:=⟨some 55,.move (.tmp 8),_,_,_,none⟩) (v:=num E) (plain_ops (by kernel_rfl)) rfl (by kernel_rfl) (by kernel_rfl) (by kernel_rfl) (fun _ _ _ h=>h) (yC_move rfl) ?_
     simp only [Act.put,List.setIfInBounds_toArray,List.set_cons_succ,List.set_cons_zero]
     refine wpAnyC_takeR (i:=2) (oi:=⟨some 56,.move (.tmp 7),_,_,_,none⟩) (v:=num A) (plain_ops (by kernel_rfl)) rfl (by kernel_rfl) (by kernel_rfl) (by kernel_rfl) (fun _ _ _ h=>h) (yC_move rfl) ?_
     simp only [Act.put,List.setIfInBounds_toArray,List.set_cons_succ,List.set_cons_zero]
     refine wpAnyC_takeR (i:=3) (oi:=⟨some 57,.binOp .sub 3 (.tmp 55) (.tmp 56) 3,_,_,_,none⟩) (v:=num (E-A)) (plain_ops (by kernel_rfl)) rfl (by kernel_rfl) (by kernel_rfl) (by kernel_rfl) (fun _ _ _ h=>h) (yC_sub rfl rfl (by omega)) ?_
     simp only [Act.put,List.setIfInBounds_toArray,List.set_cons_succ,List.set_cons_zero]
     refine wpAnyC_takeR (i:=4) (oi:=⟨some 58,.load 31 (.tmp 2),_,_,_,none⟩) (v:=d.val r) (plain_ops (by kernel_rfl)) rfl (by kernel_rfl) (by kernel_rfl) (by kernel_rfl) (fun _ _ _ h=>h) (yC_dit rfl (fun x hx=>cW x hx)) ?_
     simp only [Act.put,List.setIfInBounds_toArray,List.set_cons_succ,List.set_cons_zero]
     refine wpAnyC_takeR (i:=5) (oi:=⟨some 59,.move (.tmp 8),_,_,_,none⟩) (v:=num E) (plain_ops (by kernel_rfl)) rfl (by kernel_rfl) (by kernel_rfl) (by kernel_rfl) (fun _ _ _ h=>h) (yC_move rfl) ?_
     simp only [Act.put,List.setIfInBounds_toArray,List.set_cons_succ,List.set_cons_zero]
     refine wpAnyC_takeR (i:=7) (oi:=⟨some 61,.load 31 (.tmp 2),_,_,_,none⟩) (v:=d.val r) (plain_ops (by kernel_rfl)) rfl (by kernel_rfl) (by kernel_rfl) (by kernel_rfl) (fun _ _ _ h=>h) (yC_dit rfl (fun x hx=>cW x hx)) ?_
     simp only [Act.put,List.setIfInBounds_toArray,List.set_cons_succ,List.set_cons_zero]
     refine wpAnyC_takeR (i:=8) (oi:=⟨some 62,.move (.tmp 7),_,_,_,none⟩) (v:=num A) (plain_ops (by kernel_rfl)) rfl (by kernel_rfl) (by kernel_rfl) (by kernel_rfl) (fun _ _ _ h=>h) (yC_move rfl) ?_
     simp only [Act.put,List.setIfInBounds_toArray,List.set_cons_succ,List.set_cons_zero]
     refine wpAnyC_only (i:=6) (o:=⟨some 60,.call { callee:=.value (.func 104),args:=#[.tmp 58,.tmp 59],argTypes:=#[31,3] },_,_,_,none⟩) (by kernel_rfl) rfl rfl (nd9) ?_
     intro K hK
     go_simp
     refine CallsIn.mono (kE _ (nd9)) ?_
     rintro e v6 ⟨rfl,m6⟩
     refine hK _ _ ?_
     refine wpAnyC_only (i:=9) (o:=⟨some 63,.call { callee:=.value (.func 104),args:=#[.tmp 61,.tmp 62],argTypes:=#[31,3] },_,_,_,none⟩) (by kernel_rfl) rfl rfl (m6) ?_
     intro K hK
     go_simp
     refine CallsIn.mono (kA _ (m6)) ?_
     rintro e v9 ⟨rfl,m9⟩
     refine hK _ _ ?_
     refine wpAnyC_takeR (i:=10) (oi:=⟨some 64,.binOp .sub 3 (.tmp 60) (.tmp 63) 3,_,_,_,none⟩) (v:=num (Re-Ra)) (plain_ops (by kernel_rfl)) rfl (by kernel_rfl) (by kernel_rfl) (by kernel_rfl) (fun _ _ _ h=>h) (yC_sub rfl rfl (by omega)) ?_
     simp only [Act.put,List.setIfInBounds_toArray,List.set_cons_succ,List.set_cons_zero]
     refine wpAnyC_takeR (i:=11) (oi:=⟨some 65,.binOp .sub 3 (.tmp 57) (.tmp 64) 3,_,_,_,none⟩) (v:=num ((E-A)-(Re-Ra))) (plain_ops (by kernel_rfl)) rfl (by kernel_rfl) (by kernel_rfl) (by kernel_rfl) (fun _ _ _ h=>h) (yC_sub rfl rfl (by omega)) ?_
     simp only [Act.put,List.setIfInBounds_toArray,List.set_cons_succ,List.set_cons_zero]
     refine wpAnyC_takeR (i:=12) (oi:=⟨some 66,.binOp .sub 3 (.tmp 54) (.tmp 65) 3,_,_,_,none⟩) (v:=num (z-((E-A)-(Re-Ra)))) (plain_ops (by kernel_rfl)) rfl (by kernel_rfl) (by kernel_rfl) (by kernel_rfl) (fun _ _ _ h=>h) (yC_sub rfl rfl (by omega)) ?_
     simp only [Act.put,List.setIfInBounds_toArray,List.set_cons_succ,List.set_cons_zero]
     refine wpAnyC_takeR (i:=13) (oi:=⟨some 5,.assign (.tmp 66),_,_,_,none⟩) (v:=num (z-((E-A)-(Re-Ra)))) (plain_ops (by kernel_rfl)) rfl (by kernel_rfl) (by kernel_rfl) (by kernel_rfl) (fun _ _ _ h=>h) (yC_assign rfl) ?_
     simp only [Act.put,List.setIfInBounds_toArray,List.set_cons_succ,List.set_cons_zero]
     refine wpAnyC_done (by kernel_rfl) (m9) ?_
     clear kA kE c2 cW
     gi_wp2
     exact⟨⟨k+1,hlt,by simp,by rw [hs],m9⟩,by simp [intOf];omega⟩
    ·have hs:d.ranTo h (k+1)=d.ranTo h k:=by rw [HS.out];unfold Dit.work workS;rw [if_pos (by omega)];omega
     gi_wp2
     exact⟨⟨k+1,hlt,by simp,by rw [hs],n3⟩,by simp [intOf];omega⟩
   ·obtain rfl:k=d.feasts.length:=by omega
    clear hv rbd k104 cW c2 c6
    gi_wp2
    go_ret
    exact⟨by rw [d.ranTo_all];rfl,Nx.trans n0 n2⟩
end Go.Proofs.YtolholkjeehamaaDoor

namespace Go.Proofs.YtolholkjeehamaaDoor
open Go.RowKit
section
variable {F:Fence} {n:Nat} {ops:Array Oper} {C:World→Prop} {a:Act} {dst:Option Nat} {ty:TypeId} {pos:String} {af:Array Edge}
theorem yG {op:Op} {v:Value} {gd:Option (Nat×Bool)} (h:YieldsC F n Tryd.prog ops C ⟨dst,op,ty,pos,af,none⟩ v a) (hw:Region.wanted ⟨dst,op,ty,pos,af,gd⟩ (yielded ops a.tmps)=true):YieldsC F n Tryd.prog ops C ⟨dst,op,ty,pos,af,gd⟩ v a:=by
 refine⟨h.1,.inl ⟨hw,?_⟩⟩
 rcases h.2 with ⟨_,h2⟩ | ⟨h2,_⟩
 ·exact h2
 ·simp [Region.wanted] at h2
theorem yC_geqt {s:Nat} {x m:Int} (h:a.eval (.tmp s)=num x) (hk:a.eval (.const (.int .i64 m))=num m) (hx:m≤x):YieldsC F n Tryd.prog ops C ⟨dst,.binOp .geq 3 (.tmp s) (.const (.int .i64 m)) 3,ty,pos,af,none⟩ (.bool true) a :=
 yC rfl (fun _=>rfl) fun w _=>by
  generalize a.eval=ρ at h hk ⊢
  simp [execOp,go_sem,h,hk,hx]
theorem yC_gtr {s i:Nat} {x y:Int} (h:a.eval (.tmp s)=num x) (hi:a.eval (.tmp i)=num y):YieldsC F n Tryd.prog ops C ⟨dst,.binOp .gtr 3 (.tmp s) (.tmp i) 3,ty,pos,af,none⟩ (.bool (decide (x > y))) a :=
 yC rfl (fun _=>rfl) fun w _=>by
  generalize a.eval=ρ at h hi ⊢
  simp [execOp,go_sem,h,hi]
theorem yC_pickt {c s:Nat} {v:Value} (h:a.eval (.tmp c)=.bool true) (h2:a.eval (.tmp s)=v):YieldsC F n Tryd.prog ops C ⟨dst,.pick (.tmp c) (.tmp s) (.const (.bool false)),ty,pos,af,none⟩ v a :=
 yC rfl (fun _=>rfl) fun w _=>by
  generalize a.eval=ρ at h h2 ⊢
  simp [execOp,go_sem,h,h2]
end
theorem sl_cell {w:World} {g m cap:Nat} {l:List Int} (h:Sl w (.slice (some ⟨g,0,none⟩) m cap) 1 (l.map fun x=>[num x])) {j:Nat} {x:Int} (hj:l[j]?=some x):w.cell? ⟨g,j,none⟩=some (num x):=by
 have hlt:=(List.getElem?_eq_some_iff.1 hj).1
 obtain⟨b,off,e,hb,hc⟩:=h.get (by simp;omega)
 cases e
 have:=Sl.one hc hj
 simpa using this
theorem turnS_of {d:Dit} (hO:d.Ok) {r:Int} {t:Nat} (h0:0≤r) (h1:r<d.cyc) (ht:t<d.turns.length) (h2:sumTo d.turns t≤r) (h3:r<sumTo d.turns (t+1)):d.turn r=t:=by
 obtain⟨g1,g2,g3⟩:=hO.turn_at h0 h1
 have hth:=fun x hx=>(hO.th x hx).2
 rcases Nat.lt_trichotomy (d.turn r) t with h | h | h
 ·have:=sumTo_le hth (show d.turn r+1≤t by omega);omega
 ·exact h
 ·have:=sumTo_le hth (show t+1≤d.turn r by omega);omega
theorem turn101_any (d:Dit) (r:Rows6) (x:Int) (w:World) (hd:DitSl w d r) (hO:d.Ok) (hx:0≤x∧x<d.cyc):CallsIn FL 0 Tryd.prog 101 #[d.val r,num x] w fun e w'=>e=.returned (num (d.turn x:Int))∧Nx w w':=by
 obtain⟨W,hW,n0,hWs,cW⟩:=boxed w d r
 obtain⟨at',capt,et⟩:=hd.turns.cases
 rw [List.length_map] at et
 have hv:=hd.turns.nx n0
 rw [et] at hv
 have c1:∀ w1,Nx W w1→w1.cell? ⟨w.heap.size,1,none⟩=some (.slice at' d.turns.length capt):=fun w1 n1=>(cW _ n1 1 r.t rfl).trans (by rw [et])
 have ht:=hO.t12
 have hth:=Lib.hid (fun y hy=>(hO.th y hy).2)
 have hbd:=Lib.hid (fun k hk=>sumTo_bd (fun x hx=>(hO.th x hx).2) k hk)
 have hcy:d.cyc≤1200:=by have:=(sumTo_bd (fun x hx=>(hO.th x hx).2) d.turns.length (Nat.le_refl _)).2;show sumTo d.turns d.turns.length≤_;omega
 have hcs:d.cyc=sumTo d.turns d.turns.length:=rfl
 have HO:=Lib.hid hO
 clear cW et hO
 gi_enter Tryd.func101,Tryd.ntmps101
 gi_wp2
 gi_loopw [1,5] (fun y i wr=>∃ k:Nat,k<d.turns.length∧i=num k∧y=num (x-sumTo d.turns k)∧sumTo d.turns k≤x∧Nx W wr) (fun _ i _=>d.turns.length-(intOf i).toNat)
 case atStart=>exact⟨0,by omega,rfl,by simp [sumTo],by simpa [sumTo] using hx.1,Below.refl _ _⟩
 case round =>
  obtain⟨k,hk,rfl,rfl,hle,n2⟩:=hrel
  have f1:wr.cell? ⟨w.heap.size,1,none⟩=some (.slice at' d.turns.length capt):=c1 _ n2
  obtain⟨b,off,ha,hbl,hcl⟩:=(hv.nx n2).get (by simp;omega)
  subst ha
  have hxx:d.turns[k]?=some d.turns[k]:=List.getElem?_eq_getElem hk
  have g1:=hcl k 1 (two d.turns[k]) (num d.turns[k].2) (by simp [hk]) rfl
  have hs:sumTo d.turns (k+1)=sumTo d.turns k+d.turns[k].2:=by simp [sumTo,hxx]
  have hb1:=hbd.out k (by omega)
  have hb2:=hth.out d.turns[k] (List.getElem_mem _)
  have HS:=Lib.hid hs
  generalize d.turns[k].2=z at g1 HS hb2 hs
  clear hcl hxx hv
  by_cases hge:x<sumTo d.turns (k+1)
  ·have b1:decide (z≤x-sumTo d.turns k)=false:=decide_eq_false (by omega)
   have b2:decide (x-sumTo d.turns k≥z)=false:=decide_eq_false (by omega)
   have HR:=Lib.hid (turnS_of HO.out hx.1 hx.2 hk hle hge)
   clear hs hge
   gi_wp2
   go_ret
   exact⟨by rw [HR.out];rfl,Nx.trans n0 n2⟩
  ·have b1:decide (z≤x-sumTo d.turns k)=true:=decide_eq_true (by omega)
   have b2:decide (x-sumTo d.turns k≥z)=true:=decide_eq_true (by omega)
   have hlt:k+1<d.turns.length:=by
    rcases Nat.lt_or_ge (k+1) d.turns.length with h | h
    ·exact h
    ·have e:k+1=d.turns.length:=by omega
     rw [e] at hge
     omega
   have hge2:sumTo d.turns (k+1)≤x:=by omega
   clear hs hge
   gi_wp2
   exact⟨⟨k+1,hlt,by simp,by rw [HS.out];congr 1;omega,hge2,n2⟩,by simp [intOf];omega⟩
theorem runs100_any (d:Dit) (r:Rows6) (h:Int) (w:World) (hd:DitSl w d r) (ht:d.Times) (hh : -1000000000≤h∧h≤100000000000) :
  CallsIn FL 0 Tryd.prog 100 #[d.val r,num h] w fun e w'=>e=.returned (.bool (decide (0≤h) && decide (d.ran (h+1) > d.ran h)))∧Nx w w':=by
 obtain⟨W,hW,n0,hWs,cW⟩:=boxed w d r
 have nWW:Nx W W:=Below.refl _ _
 have kA:=fun x (hx:Nx W x)=>(running80_any d r h x ((hd.nx n0).nx hx) ht (by omega)).mono fun e w' ⟨p,q⟩=>(⟨p,Nx.trans hx q⟩:e=Ending.returned (num (d.ran h))∧Nx W w')
 have kB:=fun x (hx:Nx W x)=>(running80_any d r (h+1) x ((hd.nx n0).nx hx) ht (by omega)).mono fun e w' ⟨p,q⟩=>(⟨p,Nx.trans hx q⟩:e=Ending.returned (num (d.ran (h+1)))∧Nx W w')
 have nd:Nx W W.drew:=Below.drew nWW
 clear hd ht
 gi_enter Tryd.func100,Tryd.ntmps100
 by_cases hh0:0≤h
 ·gi_upto_region 1 with fail
  refine wpIn_region_C (fun x=>Nx W x) (by kernel_rfl) ?_
  change wpAnyC _ _ _ _ _ _ _ 13 #[false,false,false,false,false,false,false,false,false,false,false,false,false] _ _
  refine wpAnyC_takeR (i:=0) (oi:=⟨some 5,.move (.tmp 1),_,_,_,none⟩) (v:=num h) (plain_ops (by kernel_rfl)) rfl (by kernel_rfl) (by kernel_rfl) (by kernel_rfl) (fun _ _ _ h=>h) (yC_move rfl) ?_
  simp only [Act.put,List.setIfInBounds_toArray,List.set_cons_succ,List.set_cons_zero]
  refine wpAnyC_takeR (i:=1) (oi:=⟨some 6,.binOp .geq 3 (.tmp 5) (.const (.int .i64 0)) 3,_,_,_,none⟩) (v:=.bool true) (plain_ops (by kernel_rfl)) rfl (by kernel_rfl) (by kernel_rfl) (by kernel_rfl) (fun _ _ _ h=>h) (yC_geqt rfl rfl (hh0)) ?_
  simp only [Act.put,List.setIfInBounds_toArray,List.set_cons_succ,List.set_cons_zero]
  refine wpAnyC_takeR (i:=2) (oi:=⟨some 7,.move (.tmp 6),_,_,_,none⟩) (v:=.bool true) (plain_ops (by kernel_rfl)) rfl (by kernel_rfl) (by kernel_rfl) (by kernel_rfl) (fun _ _ _ h=>h) (yC_move rfl) ?_
  simp only [Act.put,List.setIfInBounds_toArray,List.set_cons_succ,List.set_cons_zero]
  refine wpAnyC_takeR (i:=3) (oi:=⟨some 8,.load 31 (.tmp 2),_,_,_,some (2,true)⟩) (v:=d.val r) (plain_ops (by kernel_rfl)) rfl (by kernel_rfl) (by kernel_rfl) (by kernel_rfl) (fun _ _ _ h=>h) (yG (yC_dit rfl (fun x hx=>cW x hx)) rfl) ?_
  simp only [Act.put,List.setIfInBounds_toArray,List.set_cons_succ,List.set_cons_zero]
  refine wpAnyC_takeR (i:=4) (oi:=⟨some 9,.move (.tmp 1),_,_,_,some (2,true)⟩) (v:=num h) (plain_ops (by kernel_rfl)) rfl (by kernel_rfl) (by kernel_rfl) (by kernel_rfl) (fun _ _ _ h=>h) (yG (yC_move rfl) rfl) ?_
  simp only [Act.put,List.setIfInBounds_toArray,List.set_cons_succ,List.set_cons_zero]
  refine wpAnyC_takeR (i:=5) (oi:=⟨some 10,.binOp .add 3 (.tmp 9) (.const (.int .i64 1)) 3,_,_,_,some (2,true)⟩) (v:=num (h+1)) (plain_ops (by kernel_rfl)) rfl (by kernel_rfl) (by kernel_rfl) (by kernel_rfl) (fun _ _ _ h=>h) (yG (yC_add1 rfl (by omega)) rfl) ?_
  simp only [Act.put,List.setIfInBounds_toArray,List.set_cons_succ,List.set_cons_zero]
  refine wpAnyC_takeR (i:=7) (oi:=⟨some 12,.load 31 (.tmp 2),_,_,_,some (2,true)⟩) (v:=d.val r) (plain_ops (by kernel_rfl)) rfl (by kernel_rfl) (by kernel_rfl) (by kernel_rfl) (fun _ _ _ h=>h) (yG (yC_dit rfl (fun x hx=>cW x hx)) rfl) ?_
  simp only [Act.put,List.setIfInBounds_toArray,List.set_cons_succ,List.set_cons_zero]
  refine wpAnyC_takeR (i:=8) (oi:=⟨some 13,.move (.tmp 1),_,_,_,some (2,true)⟩) (v:=num h) (plain_ops (by kernel_rfl)) rfl (by kernel_rfl) (by kernel_rfl) (by kernel_rfl) (fun _ _ _ h=>h) (yG (yC_move rfl) rfl) ?_
  simp only [Act.put,List.setIfInBounds_toArray,List.set_cons_succ,List.set_cons_zero]
  refine wpAnyC_only (i:=6) (o:=⟨some 11,.call { callee:=.value (.func 80),args:=#[.tmp 8,.tmp 10],argTypes:=#[31,3] },_,_,_,some (2,true)⟩) (by kernel_rfl) rfl rfl (nd) ?_
  intro K hK
  go_simp
  refine CallsIn.mono (kB _ (nd)) ?_
  rintro e v6 ⟨rfl,n6⟩
  refine hK _ _ ?_
  refine wpAnyC_only (i:=9) (o:=⟨some 14,.call { callee:=.value (.func 80),args:=#[.tmp 12,.tmp 13],argTypes:=#[31,3] },_,_,_,some (2,true)⟩) (by kernel_rfl) rfl rfl (n6) ?_
  intro K hK
  go_simp
  refine CallsIn.mono (kA _ (n6)) ?_
  rintro e v9 ⟨rfl,n9⟩
  refine hK _ _ ?_
  refine wpAnyC_takeR (i:=10) (oi:=⟨some 15,.binOp .gtr 3 (.tmp 11) (.tmp 14) 3,_,_,_,some (2,true)⟩) (v:=.bool (decide ((d.ran (h+1)) > (d.ran h)))) (plain_ops (by kernel_rfl)) rfl (by kernel_rfl) (by kernel_rfl) (by kernel_rfl) (fun _ _ _ h=>h) (yG (yC_gtr rfl rfl) rfl) ?_
  simp only [Act.put,List.setIfInBounds_toArray,List.set_cons_succ,List.set_cons_zero]
  refine wpAnyC_takeR (i:=11) (oi:=⟨some 16,.pick (.tmp 7) (.tmp 15) (.const (.bool false)),_,_,_,none⟩) (v:=.bool (decide ((d.ran (h+1)) > (d.ran h)))) (plain_ops (by kernel_rfl)) rfl (by kernel_rfl) (by kernel_rfl) (by kernel_rfl) (fun _ _ _ h=>h) (yC_pickt rfl rfl) ?_
  simp only [Act.put,List.setIfInBounds_toArray,List.set_cons_succ,List.set_cons_zero]
  refine wpAnyC_takeR (i:=12) (oi:=⟨some 4,.assign (.tmp 16),_,_,_,none⟩) (v:=.bool (decide ((d.ran (h+1)) > (d.ran h)))) (plain_ops (by kernel_rfl)) rfl (by kernel_rfl) (by kernel_rfl) (by kernel_rfl) (fun _ _ _ h=>h) (yC_assign rfl) ?_
  simp only [Act.put,List.setIfInBounds_toArray,List.set_cons_succ,List.set_cons_zero]
  refine wpAnyC_done (by kernel_rfl) (n9) ?_
  clear kA kB cW
  gi_wp2
  go_ret
  exact⟨by rw [decide_eq_true hh0,Bool.true_and];rfl,Nx.trans n0 n9⟩
 ·have b1:decide (h≥0)=false:=decide_eq_false (by omega)
  have b2:decide (0≤h)=false:=decide_eq_false hh0
  clear kA kB cW
  gi_upto_region 1 with fail
  gi_big_quiet_th (fail)
  gi_wp2
  go_ret
  exact⟨rfl,Nx.drewN n0 _⟩
theorem owner76_any (d:Dit) (r:Rows6) (h:Int) (w:World) (hd:DitSl w d r) (hO:d.Ok) (hh : -1000000000≤h∧h≤100000000000) :
  CallsIn FL 0 Tryd.prog 76 #[d.val r,num h] w fun e w'=>e=.returned (.tuple #[num (d.owner h).1,num (d.owner h).2.1,num (d.owner h).2.2])∧Nx w w':=by
 obtain⟨W,hW,n0,hWs,cW⟩:=boxed w d r
 have nWW:Nx W W:=Below.refl _ _
 have k100:=runs100_any d r h W (hd.nx n0) hO.times hh
 have CO:=Lib.hid cW
 have HD:=Lib.hid (hd.nx n0)
 have HO:=Lib.hid hO
 obtain⟨c0,c1,c2,c3,c4,c5,c6,c7,c8,c9,c10,c11,c12,c13⟩:=cells14 (cW _ nWW)
 have CL:=Lib.hid cW
 have hran:=hO.ran_nonneg h
 have hT:=hO.cyc_pos
 have hcb:=hO.cyc.size
 have hown:(decide (0≤h) && decide (d.ran (h+1) > d.ran h))=false→d.owner h=(-1,-1,-1):=fun e=>by
  have hat:d.at d.ends d.cyc h=(-1,-1):=by
   unfold Dit.at
   refine if_pos ?_
   by_cases h0:h<0
   ·exact .inl h0
   ·have hs:=hO.ran_step (h:=h) (by omega)
    have:¬ d.ran (h+1) > d.ran h:=by rw [decide_eq_true (by omega:0≤h),Bool.true_and] at e;exact of_decide_eq_false e
    right;split at hs<;>omega
  unfold Dit.owner whoS
  rw [hat]
  simp
 have hown2:(decide (0≤h) && decide (d.ran (h+1) > d.ran h))=true→∃ l:List Int,l=d.oth ((d.ran h).tdiv d.cyc)∧l.length=d.turns.length∧d.turn ((d.ran h).tmod d.cyc)<d.turns.length∧d.owner h=((l[d.turn ((d.ran h).tmod d.cyc)]?).getD 0,(d.ran h).tdiv d.cyc,(d.turn ((d.ran h).tmod d.cyc):Int)):=fun e=>by
  simp only [Bool.and_eq_true,decide_eq_true_eq] at e
  have hq:0≤(d.ran h).tdiv d.cyc:=Int.tdiv_nonneg hran (by omega)
  refine⟨_,rfl,hO.oth_len _,hO.turn_lt (d.ran h),?_⟩
  have hw:(if (d.ran h).tdiv d.cyc∈d.keys then d.oth ((d.ran h).tdiv d.cyc) else d.us)=d.oth ((d.ran h).tdiv d.cyc):=by
   split
   ·rfl
   ·rename_i hn;rw [oth_us hn]
  have hat:d.at d.ends d.cyc h=((d.ran h).tdiv d.cyc,(turnS d.ends ((d.ran h).tmod d.cyc) 12 0:Int)):=by unfold Dit.at;rw [if_neg (by omega)]
  unfold Dit.owner whoS
  rw [hat]
  simp only []
  rw [if_neg (by omega),hw,Int.toNat_natCast]
  rfl
 clear hd hO cW
 gi_enter Tryd.func76,Tryd.ntmps76
 cases hb:(decide (0≤h) && decide (d.ran (h+1) > d.ran h)) with
 | false =>
  rw [hb] at k100
  have hz:=hown hb
  have HZ:=Lib.hid hz
  clear hown hown2 hb hz
  gi_wp2_with (first
   | (gi_at_call 100;refine CallsIn.mono k100 ?_;rintro e w1 ⟨rfl,n1⟩)
   | gi_in)
  refine bodyPost_ret (v:=.tuple #[num (-1),num (-1),num (-1)]) (by simp [results,Tryd.results76,go_sem]) rfl ?_
  exact⟨by rw [HZ.out]<;>rfl,Nx.trans n0 n1⟩
 | true =>
  rw [hb] at k100
  obtain⟨l,hl,hll,htt,hz⟩:=hown2 hb
  have HZ:=Lib.hid hz
  clear hown hown2 hb hz
  gi_upto_region 3 with (first
   | (gi_at_call 100;refine CallsIn.mono k100 ?_;rintro e w1 ⟨rfl,n1⟩)
   | gi_in)
  clear k100 c0 c1 c2 c3 c4 c5 c6 c7 c8 c9 c10 c11 c12 c13
  obtain⟨c0,c1,c2,c3,c4,c5,c6,c7,c8,c9,c10,c11,c12,c13⟩:=cells14 (CO.out w1 n1)
  have k80:=running80_any d r h w1 (HD.out.nx n1) HO.out.times (by omega)
  gi_upto_region 4 with (first
   | (gi_at_call 80;refine CallsIn.mono k80 ?_;rintro e w2 ⟨rfl,n2⟩)
   | gi_in)
  clear k80 c0 c1 c2 c3 c4 c5 c6 c7 c8 c9 c10 c11 c12 c13
  have n3:=Nx.trans n1 n2
  have nd:Nx W w2.drew:=Below.drew n3
  have cW:=CO.out
  have hq : -9223372036854775808≤(d.ran h).tdiv d.cyc∧(d.ran h).tdiv d.cyc≤9223372036854775807:=by
   have h1:0≤(d.ran h).tdiv d.cyc:=Int.tdiv_nonneg hran (by omega)
   have h2:=ran_bd2 HO.out.times (fun _=>by have:=HO.out.room;omega) (h:=h) (by omega)
   have h3:(d.ran h).tdiv d.cyc≤d.ran h:=Int.tdiv_le_self _ hran
   omega
  have hm:0≤(d.ran h).tmod d.cyc∧(d.ran h).tmod d.cyc<d.cyc:=⟨Int.tmod_nonneg _ hran,Int.tmod_lt_of_pos _ hT⟩
  have hr : -9223372036854775808≤(d.ran h).tmod d.cyc∧(d.ran h).tmod d.cyc≤9223372036854775807:=by omega
  have k44:=fun x (hx:Nx W x)=>(cycle44_any d r x (HD.out.nx hx) HO.out).mono fun e w' ⟨p,q⟩=>(⟨p,Nx.trans hx q⟩:e=Ending.returned (num d.cyc)∧Nx W w')
  have k101:=fun x (hx:Nx W x)=>(turn101_any d r ((d.ran h).tmod d.cyc) x (HD.out.nx hx) HO.out hm).mono fun e w' ⟨p,q⟩=>(⟨p,Nx.trans hx q⟩:e=Ending.returned (num (d.turn ((d.ran h).tmod d.cyc):Int))∧Nx W w')
  have k102:=fun x (hx:Nx W x)=>holders102_any d r ((d.ran h).tdiv d.cyc) x (HD.out.nx hx) HO.out
  generalize d.turn ((d.ran h).tmod d.cyc)=t at HZ htt k101
  generalize d.ran h=x at *
  have HM:=Lib.hid hm
  have HQ:=Lib.hid hq
  clear hm
  refine wpIn_region_C (fun x=>Nx W x) (by kernel_rfl) ?_
  change wpAnyC _ _ _ _ _ _ _ 12 #[false,false,false,false,false,false,false,false,false,false,false,false] _ _
  refine wpAnyC_takeR (i:=0) (oi:=⟨some 17,.move (.tmp 7),_,_,_,none⟩) (v:=num x) (plain_ops (by kernel_rfl)) rfl (by kernel_rfl) (by kernel_rfl) (by kernel_rfl) (fun _ _ _ h=>h) (yC_move rfl) ?_
  simp only [Act.put,List.setIfInBounds_toArray,List.set_cons_succ,List.set_cons_zero]
  refine wpAnyC_takeR (i:=1) (oi:=⟨some 18,.load 31 (.tmp 2),_,_,_,none⟩) (v:=d.val r) (plain_ops (by kernel_rfl)) rfl (by kernel_rfl) (by kernel_rfl) (by kernel_rfl) (fun _ _ _ h=>h) (yC_dit rfl (fun x hx=>cW x hx)) ?_
  simp only [Act.put,List.setIfInBounds_toArray,List.set_cons_succ,List.set_cons_zero]
  refine wpAnyC_takeR (i:=4) (oi:=⟨some 21,.load 31 (.tmp 2),_,_,_,none⟩) (v:=d.val r) (plain_ops (by kernel_rfl)) rfl (by kernel_rfl) (by kernel_rfl) (by kernel_rfl) (fun _ _ _ h=>h) (yC_dit rfl (fun x hx=>cW x hx)) ?_
  simp only [Act.put,List.setIfInBounds_toArray,List.set_cons_succ,List.set_cons_zero]
  refine wpAnyC_takeR (i:=5) (oi:=⟨some 22,.move (.tmp 7),_,_,_,none⟩) (v:=num x) (plain_ops (by kernel_rfl)) rfl (by kernel_rfl) (by kernel_rfl) (by kernel_rfl) (fun _ _ _ h=>h) (yC_move rfl) ?_
  simp only [Act.put,List.setIfInBounds_toArray,List.set_cons_succ,List.set_cons_zero]
  refine wpAnyC_takeR (i:=6) (oi:=⟨some 23,.load 31 (.tmp 2),_,_,_,none⟩) (v:=d.val r) (plain_ops (by kernel_rfl)) rfl (by kernel_rfl) (by kernel_rfl) (by kernel_rfl) (fun _ _ _ h=>h) (yC_dit rfl (fun x hx=>cW x hx)) ?_
  simp only [Act.put,List.setIfInBounds_toArray,List.set_cons_succ,List.set_cons_zero]
  refine wpAnyC_only (i:=2) (o:=⟨some 19,.call { callee:=.value (.func 44),args:=#[.tmp 18],argTypes:=#[31] },_,_,_,none⟩) (by kernel_rfl) rfl rfl (nd) ?_
  intro K hK
  go_simp
  refine CallsIn.mono (k44 _ (nd)) ?_
  rintro e v2 ⟨rfl,n2⟩
  refine hK _ _ ?_
  refine wpAnyC_takeR (i:=3) (oi:=⟨some 20,.binOp .quo 3 (.tmp 17) (.tmp 19) 3,_,_,_,none⟩) (v:=num (x.tdiv d.cyc)) (plain_ops (by kernel_rfl)) rfl (by kernel_rfl) (by kernel_rfl) (by kernel_rfl) (fun _ _ _ h=>h) (yC_quo rfl rfl hT hq) ?_
  simp only [Act.put,List.setIfInBounds_toArray,List.set_cons_succ,List.set_cons_zero]
  refine wpAnyC_only (i:=7) (o:=⟨some 24,.call { callee:=.value (.func 44),args:=#[.tmp 23],argTypes:=#[31] },_,_,_,none⟩) (by kernel_rfl) rfl rfl (n2) ?_
  intro K hK
  go_simp
  refine CallsIn.mono (k44 _ (n2)) ?_
  rintro e v7 ⟨rfl,n7⟩
  refine hK _ _ ?_
  refine wpAnyC_takeR (i:=8) (oi:=⟨some 25,.binOp .rem 3 (.tmp 22) (.tmp 24) 3,_,_,_,none⟩) (v:=num (x.tmod d.cyc)) (plain_ops (by kernel_rfl)) rfl (by kernel_rfl) (by kernel_rfl) (by kernel_rfl) (fun _ _ _ h=>h) (yC_rem rfl rfl hT hr) ?_
  simp only [Act.put,List.setIfInBounds_toArray,List.set_cons_succ,List.set_cons_zero]
  refine wpAnyC_only (i:=9) (o:=⟨some 26,.call { callee:=.value (.func 101),args:=#[.tmp 21,.tmp 25],argTypes:=#[31,3] },_,_,_,none⟩) (by kernel_rfl) rfl rfl (n7) ?_
  intro K hK
  go_simp
  refine CallsIn.mono (k101 _ (n7)) ?_
  rintro e v9 ⟨rfl,n9⟩
  refine hK _ _ ?_
  refine wpAnyC_takeR (i:=10) (oi:=⟨some 8,.assign (.tmp 20),_,_,_,none⟩) (v:=num (x.tdiv d.cyc)) (plain_ops (by kernel_rfl)) rfl (by kernel_rfl) (by kernel_rfl) (by kernel_rfl) (fun _ _ _ h=>h) (yC_assign rfl) ?_
  simp only [Act.put,List.setIfInBounds_toArray,List.set_cons_succ,List.set_cons_zero]
  refine wpAnyC_takeR (i:=11) (oi:=⟨some 9,.assign (.tmp 26),_,_,_,none⟩) (v:=num t) (plain_ops (by kernel_rfl)) rfl (by kernel_rfl) (by kernel_rfl) (by kernel_rfl) (fun _ _ _ h=>h) (yC_assign rfl) ?_
  simp only [Act.put,List.setIfInBounds_toArray,List.set_cons_succ,List.set_cons_zero]
  refine wpAnyC_done (by kernel_rfl) (n9) ?_
  clear k44 k101 hq hr cW
  have k:=k102 _ n9
  have hx:l[t]?=some l[t]:=List.getElem?_eq_getElem (by omega)
  obtain⟨c0,c1,c2,c3,c4,c5,c6,c7,c8,c9,c10,c11,c12,c13⟩:=cells14 (CO.out _ n9)
  clear k102
  subst hl
  gi_wp2_with (first
   | (gi_at_call 102;refine CallsIn.mono k ?_;rintro e w5 ⟨g,cap,rfl,n5,hl5⟩;have hc5:=sl_cell hl5 hx;clear hl5)
   | gi_in)
  refine bodyPost_ret (v:=.tuple #[num (d.oth (x.tdiv d.cyc))[t],num (x.tdiv d.cyc),num t]) (by simp [results,Tryd.results76,go_sem]) rfl ?_
  exact⟨by rw [HZ.out,hx];rfl,Nx.trans n0 (Nx.trans n9 n5)⟩
end Go.Proofs.YtolholkjeehamaaDoor

namespace Go.Proofs.YtolholkjeehamaaDoor
open Go.RowKit
theorem one28_any (a b n:Int) (w:World) (hab : -1000000000≤a∧a≤b∧b≤1000000000) (hn:0≤n∧n≤1000000) :
  CallsIn FL 0 Tryd.prog 28 #[.agg #[num a,num b],num n] w fun e w'=>e=.returned (num (a+n % (b-a+1)))∧Nx w w':=by
 generalize hW:w.alloc (.cells #[.int .i64 a,.int .i64 b] 28)=W
 have nW:Nx w W:=by rw [← hW];exact (Below.refl _ _).alloc (Nat.le_refl _) _
 have c0:W.cell? ⟨w.heap.size,0,none⟩=some (num a):=by rw [← hW];exact cell_new _ _ _ _ _ rfl
 have c1:W.cell? ⟨w.heap.size,1,none⟩=some (num b):=by rw [← hW];exact cell_new _ _ _ _ _ rfl
 have hm:0≤n % (b-a+1)∧n % (b-a+1)<b-a+1:=⟨Int.emod_nonneg _ (by omega),Int.emod_lt_of_pos _ (by omega)⟩
 have hz:b-a+1≠0:=by omega
 have hne:(b-a+1 == 0)=false:=by simpa using hz
 have h1 : -9223372036854775808≤b-a∧b-a≤9223372036854775807:=by omega
 have h2 : -9223372036854775808≤b-a+1∧b-a+1≤9223372036854775807:=by omega
 have h3 : -9223372036854775808≤n % (b-a+1)∧n % (b-a+1)≤9223372036854775807:=by omega
 have h4 : -9223372036854775808≤a+n % (b-a+1)∧a+n % (b-a+1)≤9223372036854775807:=by omega
 gi_enter Tryd.func28,Tryd.ntmps28
 gi_upto_region 1 with fail
 gi_big_quiet_th (fail)
 gi_wp2
 go_ret
 exact⟨rfl,Nx.drewN nW _⟩
theorem checklog27_any (d:Dit) (r:Rows6) (l:Lg) (v:Value) (w:World) (hd:DitSl w d r) (hs:d.Small) (hl:Sl w v 3 (l.ops.map three)) (hls:l.ops.length≤1000000000) :
  CallsIn FL 0 Tryd.prog 27 #[d.val r,.agg #[num l.lo,num l.hi,v]] w fun e w'=>e=.returned (num (logS d l))∧Nx w w':=by
 obtain⟨a,cap,rfl⟩:=hl.cases
 rw [List.length_map] at hl ⊢
 obtain⟨W,hW,n0,hWs,cW⟩:=boxed w d r
 generalize hY:W.alloc (.cells #[num l.lo,num l.hi,.slice a l.ops.length cap] 35)=Y
 have sY:Y.heap.size=w.heap.size+1+1:=by rw [← hY];simp [hWs]
 have nY:Nx W Y:=by rw [← hY];exact alloc_nx (Below.refl _ _) _
 have nwY:Nx w Y:=Nx.trans n0 nY
 have cq:∀ w1,Nx Y w1→w1.cell? ⟨w.heap.size+1,0,none⟩=some (num l.lo)∧w1.cell? ⟨w.heap.size+1,1,none⟩=some (num l.hi)∧w1.cell? ⟨w.heap.size+1,2,none⟩=some (.slice a l.ops.length cap):=by
  intro w1 n1
  have k:∀ i u,#[num l.lo,num l.hi,.slice a l.ops.length cap][i]?=some u→w1.cell? ⟨w.heap.size+1,i,none⟩=some u:=fun i u h =>
   (n1.cell (p:=⟨w.heap.size+1,i,none⟩) (by show w.heap.size+1<_;omega)).trans (by rw [← hY,← hWs];exact cell_new _ _ _ _ _ h)
  exact⟨k 0 _ rfl,k 1 _ rfl,k 2 _ rfl⟩
 obtain⟨c0,c1,c2,c3,c4,c5,c6,c7,c8,c9,c10,c11,c12,c13⟩:=cells14 (cW _ nY)
 obtain⟨ah,caph,eh⟩:=hd.holders.cases
 rw [List.length_map] at eh
 have CH:=Lib.hid (show ∀ w2,Nx Y w2→w2.cell? ⟨w.heap.size,0,none⟩=some (.slice ah d.holders.length caph) from fun w2 o=>(cW w2 (Nx.trans nY o) 0 r.h rfl).trans (by rw [eh]))
 have k25:=check25_any d r Y (hd.nx nwY) hs
 have hhl:=hs.h
 clear eh
 by_cases hc:checkS d=0
 ·rw [hc] at k25
  by_cases hi : -100≤l.lo∧l.lo≤l.hi∧l.hi≤100
  ·have k70:=fun w1=>mono_tt (inside70_any l.lo l.hi (-100) 100 w1) hi
   by_cases hn:20<l.ops.length
   ·have HA:Hid (logS d l=2):=by show _=_;unfold logS;rw [if_neg (by simp [hc]),if_neg (by simpa using hi),if_pos hn]
    have b1:decide ((l.ops.length:Int) > 20)=true:=by simp;omega
    clear hc cW hl
    gi_enter Tryd.func27,Tryd.ntmps27
    gi_wp2_with (first
     | (gi_at_call 25;refine CallsIn.mono k25 ?_;rintro e w1 ⟨rfl,n1⟩;obtain⟨q0,q1,q2⟩:=cq _ n1)
     | (gi_at_call 70;refine CallsIn.mono (k70 _) ?_;rintro e w2 ⟨rfl,n2⟩;obtain⟨p0,p1,p2⟩:=cq _ (Nx.trans n1 n2))
     | gi_in)
    go_ret
    exact⟨by rw [HA.out];rfl,Nx.trans nwY (Nx.trans n1 n2)⟩
   ·have HL:Hid (logS d l=scan (openF d.holders.length) 0 l.ops):=by show _=_;unfold logS;rw [if_neg (by simp [hc]),if_neg (by simpa using hi),if_neg hn]
    have b1:decide ((l.ops.length:Int) > 20)=false:=by simp;omega
    clear hc cW
    gi_enter Tryd.func27,Tryd.ntmps27
    gi_upto_region 8 with (first
     | (gi_at_call 25;refine CallsIn.mono k25 ?_;rintro e w1 ⟨rfl,n1⟩;obtain⟨q0,q1,q2⟩:=cq _ n1)
     | (gi_at_call 70;refine CallsIn.mono (k70 _) ?_;rintro e w2 ⟨rfl,n2⟩;obtain⟨p0,p1,p2⟩:=cq _ (Nx.trans n1 n2))
     | gi_in)
    have n12:=Nx.trans n1 n2
    have hl2:Sl w2 (.slice a l.ops.length cap) 3 (l.ops.map three):=hl.nx (Nx.trans nwY n12)
    clear hl q0 q1 q2 p0 p1 p2 k25 k70 c0 c1 c2 c3 c4 c5 c6 c7 c8 c9 c10 c11 c12 c13
    gi_wp2
    gi_loopw [6] (fun i wr=>∃ k:Nat,k≤l.ops.length∧i=num k∧(scan (openF d.holders.length) 0 l.ops=scan (openF d.holders.length) k (l.ops.drop k))∧Nx w2 wr) (fun i _=>l.ops.length-(intOf i).toNat)
    case atStart=>exact⟨0,Nat.zero_le _,rfl,rfl,Below.refl _ _⟩
    case round =>
     obtain⟨k,hk,rfl,hsc,nr⟩:=hrel
     obtain⟨q0,q1,q2⟩:=cq _ (Nx.trans n12 nr)
     have ch0:=CH.out _ (Nx.trans n12 nr)
     by_cases hlt:k<l.ops.length
     ·obtain⟨b,off,ha,hbl,hcl⟩:=hl2.get (by simp;omega)
      subst ha
      have hx:l.ops[k]?=some l.ops[k]:=List.getElem?_eq_getElem hlt
      generalize hxk:l.ops[k]=x at hx
      clear hxk
      obtain⟨x1,x2,x3⟩:=x
      obtain⟨g1,g2,g3⟩:=Sl.at3 hcl nr hbl hx
      have HG:=Lib.hid fun h0=>scan_go hx h0 hsc
      have HS:=Lib.hid fun h0=>scan_stop hx h0 hsc
      have nr1:∀ o,Nx w2 (wr.alloc o):=fun o=>alloc_nx nr o
      have ch1:(wr.alloc (.cells #[.int .i64 x1,.int .i64 x2,.int .i64 x3] 59)).cell? ⟨w.heap.size,0,none⟩=some (.slice ah d.holders.length caph):=CH.out _ (Nx.trans n12 (nr1 _))
      have tH:∀ w1,CallsIn FL 0 Tryd.prog 71 #[num x1,num 0,num ((d.holders.length:Int)-1)] w1 _:=fun w1=>in_any x1 0 (d.holders.length-1) w1
      have t1:∀ w1,CallsIn FL 0 Tryd.prog 71 #[num x2,num 0,num 999999999] w1 _:=fun w1=>in_any x2 0 999999999 w1
      have t2:∀ w1,CallsIn FL 0 Tryd.prog 71 #[num x3,num 0,num 999999999] w1 _:=fun w1=>in_any x3 0 999999999 w1
      have hfx:openF d.holders.length k (x1,x2,x3)=if 0≤x1∧x1≤(d.holders.length:Int)-1 then (if (0≤x2∧x2≤999999999)∧(0≤x3∧x3≤999999999) then (if x3≤x2 then 7 else if x3-x2 > 50 then 8 else 0) else 1) else 6:=rfl
      clear hsc hcl hx hl2 hW hY
      have bad:∀ {c:Int},openF d.holders.length k (x1,x2,x3)=c→c≠0→Hid (logS d l=c):=fun {c} h h0=>by
       show _=_;rw [HL.out,HS.out (by rw [h];exact h0),h]
      by_cases hh:0≤x1∧x1≤(d.holders.length:Int)-1
      ·have tH:=fun w1=>mono_tt (tH w1) hh
       rw [if_pos hh] at hfx
       by_cases p1:0≤x2∧x2≤999999999
       ·have t1:=fun w1=>mono_tt (t1 w1) p1
        by_cases p2:0≤x3∧x3≤999999999
        ·have t2:=fun w1=>mono_tt (t2 w1) p2
         rw [if_pos ⟨p1,p2⟩] at hfx
         by_cases p3:x3≤x2
         ·rw [if_pos p3] at hfx
          have HF:=bad hfx (by decide)
          have b2:decide (x3≤x2)=true:=decide_eq_true p3
          clear HG HS hfx bad hh
          gi_wp2_with (first
           | (gi_at_call 71;(first | (with_reducible refine CallsIn.mono (tH _) ?_) | (with_reducible refine CallsIn.mono (t1 _) ?_) | (with_reducible refine CallsIn.mono (t2 _) ?_));rintro e w3 ⟨rfl,rfl⟩)
           | gi_in)
          go_ret
          exact⟨by rw [HF.out];rfl,Nx.trans nwY (Nx.trans n12 (nr1 _))⟩
         ·rw [if_neg p3] at hfx
          have b2:decide (x3≤x2)=false:=decide_eq_false p3
          by_cases p4:x3-x2 > 50
          ·rw [if_pos p4] at hfx
           have HF:=bad hfx (by decide)
           have b3:decide (x3-x2 > 50)=true:=decide_eq_true p4
           clear HG HS hfx bad hh
           gi_wp2_with (first
            | (gi_at_call 71;(first | (with_reducible refine CallsIn.mono (tH _) ?_) | (with_reducible refine CallsIn.mono (t1 _) ?_) | (with_reducible refine CallsIn.mono (t2 _) ?_));rintro e w3 ⟨rfl,rfl⟩)
            | gi_in)
           go_ret
           exact⟨by rw [HF.out];rfl,Nx.trans nwY (Nx.trans n12 (nr1 _))⟩
          ·rw [if_neg p4] at hfx
           have hz:=Lib.hid (HG.out hfx)
           have b3:decide (x3-x2 > 50)=false:=decide_eq_false p4
           clear HG HS hfx bad hh
           gi_wp2_with (first
            | (gi_at_call 71;(first | (with_reducible refine CallsIn.mono (tH _) ?_) | (with_reducible refine CallsIn.mono (t1 _) ?_) | (with_reducible refine CallsIn.mono (t2 _) ?_));rintro e w3 ⟨rfl,rfl⟩)
            | gi_in)
           exact⟨⟨k+1,hlt,by simp,hz.out,nr1 _⟩,by simp [intOf];omega⟩
        ·have t2:=fun w1=>mono_ff (t2 w1) p2
         rw [if_neg fun h=>p2 h.2] at hfx
         have HF:=bad hfx (by decide)
         clear HG HS hfx bad hh
         gi_wp2_with (first
          | (gi_at_call 71;(first | (with_reducible refine CallsIn.mono (tH _) ?_) | (with_reducible refine CallsIn.mono (t1 _) ?_) | (with_reducible refine CallsIn.mono (t2 _) ?_));rintro e w3 ⟨rfl,rfl⟩)
          | gi_in)
         go_ret
         exact⟨by rw [HF.out];rfl,Nx.trans nwY (Nx.trans n12 (nr1 _))⟩
       ·have t1:=fun w1=>mono_ff (t1 w1) p1
        rw [if_neg fun h=>p1 h.1] at hfx
        have HF:=bad hfx (by decide)
        clear HG HS hfx bad hh
        gi_wp2_with (first
         | (gi_at_call 71;(first | (with_reducible refine CallsIn.mono (tH _) ?_) | (with_reducible refine CallsIn.mono (t1 _) ?_) | (with_reducible refine CallsIn.mono (t2 _) ?_));rintro e w3 ⟨rfl,rfl⟩)
         | gi_in)
        go_ret
        exact⟨by rw [HF.out];rfl,Nx.trans nwY (Nx.trans n12 (nr1 _))⟩
      ·have tH:=fun w1=>mono_ff (tH w1) hh
       rw [if_neg hh] at hfx
       have HF:=bad hfx (by decide)
       clear HG HS hfx bad
       gi_wp2_with (first
        | (gi_at_call 71;(first | (with_reducible refine CallsIn.mono (tH _) ?_) | (with_reducible refine CallsIn.mono (t1 _) ?_) | (with_reducible refine CallsIn.mono (t2 _) ?_));rintro e w3 ⟨rfl,rfl⟩)
        | gi_in)
       go_ret
       exact⟨by rw [HF.out];rfl,Nx.trans nwY (Nx.trans n12 (nr1 _))⟩
     ·obtain rfl:k=l.ops.length:=by omega
      have hz:=Lib.hid (scan_end hsc)
      clear hl2 hsc
      gi_wp2
      go_ret
      exact⟨by rw [HL.out,hz.out];rfl,Nx.trans nwY (Nx.trans n12 nr)⟩
  ·have HA:Hid (logS d l=1):=by show _=_;unfold logS;rw [if_neg (by simp [hc]),if_pos hi]
   have k70:=fun w1=>mono_ff (inside70_any l.lo l.hi (-100) 100 w1) hi
   clear hc cW hl hi
   gi_enter Tryd.func27,Tryd.ntmps27
   gi_wp2_with (first
    | (gi_at_call 25;refine CallsIn.mono k25 ?_;rintro e w1 ⟨rfl,n1⟩;obtain⟨q0,q1,q2⟩:=cq _ n1)
    | (gi_at_call 70;refine CallsIn.mono (k70 _) ?_;rintro e w2 ⟨rfl,n2⟩)
    | gi_in)
   go_ret
   exact⟨by rw [HA.out];rfl,Nx.trans nwY (Nx.trans n1 n2)⟩
 ·have HA:Hid (logS d l=checkS d):=by show _=_;unfold logS;rw [if_pos hc]
  have hb:(checkS d != 0)=true:=by simpa using hc
  generalize checkS d=ck at *
  clear hc cW hl
  gi_enter Tryd.func27,Tryd.ntmps27
  gi_wp2_with (first
   | (gi_at_call 25;refine CallsIn.mono k25 ?_;rintro e w1 ⟨rfl,n1⟩)
   | gi_in)
  go_ret
  exact⟨by rw [HA.out];rfl,Nx.trans nwY n1⟩
end Go.Proofs.YtolholkjeehamaaDoor

namespace Go.Proofs.YtolholkjeehamaaDoor
open Go.RowKit
def anyO (d:Dit) (holder:Int) (l:List Int):Bool:=l.any fun h=>decide ((d.owner h).1≠holder)
end Go.Proofs.YtolholkjeehamaaDoor

namespace Go.Proofs.YtolholkjeehamaaDoor
open Go.RowKit Go.Con Go.Conc
local instance:Lone:=mainL
theorem al2' {w W:World} {o1 o2:Obj} (h:(w.alloc o1).alloc o2=W):Old w W∧W.heap.size=w.heap.size+2∧W.heap[w.heap.size]?=some o1∧W.heap[w.heap.size+1]?=some o2:=by
 obtain⟨h1,h2,h3,h4⟩:=al2 h
 exact⟨.nx h4,h3,h1,h2⟩
end Go.Proofs.YtolholkjeehamaaDoor

namespace Go.Proofs.YtolholkjeehamaaDoor
open Go.RowKit Go.Con Go.Conc
local instance:Lone:=mainL
theorem wpIn_code_eq {c c' : Code} {F:Fence} {n:Nat} {P:Program} {Q:Exit→Act→World→Prop} {a:Act} {w:World} (h:c=c') (H:c'.wpIn F n P Q a w):c.wpIn F n P Q a w:=h ▸ H
end Go.Proofs.YtolholkjeehamaaDoor

namespace Go.Proofs.YtolholkjeehamaaDoor
open Go.RowKit
theorem out75_any (d:Dit) (r:Rows6) (holder a b c:Int) (w:World) (hd:DitSl w d r) (hO:d.Ok) (ha:0≤a∧a<b) (hb:b≤999999999) (hc : -100≤c∧c≤100) :
  CallsIn FL 0 Tryd.prog 75 #[d.val r,.agg #[num holder,num a,num b],num c] w fun e w'=>e=.returned (.bool (d.out holder a b c))∧Nx w w':=by
 obtain⟨W,hW,n0,hWs,cW⟩:=boxed w d r
 generalize hY:W.alloc (.cells #[.int .i64 holder,.int .i64 a,.int .i64 b] 59)=Y
 have sY:Y.heap.size=w.heap.size+1+1:=by rw [← hY];simp [hWs]
 have nY:Nx W Y:=by rw [← hY];exact alloc_nx (Below.refl _ _) _
 have nwY:Nx w Y:=Nx.trans n0 nY
 have cq:∀ w1,Nx Y w1→w1.cell? ⟨w.heap.size+1,0,none⟩=some (num holder)∧w1.cell? ⟨w.heap.size+1,1,none⟩=some (num a)∧w1.cell? ⟨w.heap.size+1,2,none⟩=some (num b):=by
  intro w1 n1
  have k:∀ i u,#[num holder,num a,num b][i]?=some u→w1.cell? ⟨w.heap.size+1,i,none⟩=some u:=fun i u h =>
   (n1.cell (p:=⟨w.heap.size+1,i,none⟩) (by show w.heap.size+1<_;omega)).trans (by rw [← hY,← hWs];exact cell_new _ _ _ _ _ h)
  exact⟨k 0 _ rfl,k 1 _ rfl,k 2 _ rfl⟩
 have CO:=Lib.hid (fun w1 (n1:Nx Y w1)=>cW w1 (Nx.trans nY n1))
 have KO:=Lib.hid (fun (h:Int) (hh : -1000000000≤h∧h≤100000000000) u (n1:Nx Y u)=>owner76_any d r h u (hd.nx (Nx.trans nwY n1)) hO hh)
 have CQ:=Lib.hid cq
 have hT:=Lib.hid (fun k:Nat=>fun (h1:a+c+k<b+c) (h2:(d.owner (a+c+k)).1≠holder)=>(out_iff (d:=d) (holder:=holder) (a:=a) (b:=b) (c:=c) (by omega)).2 ⟨a+c+k,by omega,h2⟩)
 have hF:=Lib.hid (fun (h:anyO d holder (hoursL (a+c) (b-a).toNat)=false)=>show d.out holder a b c=false from h)
 have hS:=Lib.hid (fun k:Nat=>show anyO d holder (hoursL (a+c) (k+1))=(anyO d holder (hoursL (a+c) k) || decide ((d.owner (a+c+k)).1≠holder)) by
  unfold anyO
  rw [hoursL_succ,List.any_append]
  simp)
 clear hd cW cq
 obtain⟨q0,q1,q2⟩:=CQ.out Y (Below.refl _ _)
 gi_enter Tryd.func75,Tryd.ntmps75
 gi_wp2
 gi_loopw [7] (fun h wr=>∃ k:Nat,k≤(b-a).toNat∧h=num (a+c+k)∧Hid (anyO d holder (hoursL (a+c) k)=false)∧Nx Y wr) (fun h _=>(b+c-intOf h).toNat)
 case atStart=>exact⟨0,Nat.zero_le _,by simp,by show _=_;simp [anyO,hoursL],Below.refl _ _⟩
 case round =>
  obtain⟨k,hk,rfl,hno,n2⟩:=hrel
  clear q0 q1 q2
  obtain⟨q0,q1,q2⟩:=CQ.out wr n2
  by_cases hlt:a+c+k<b+c
  ·have b1:decide (a+c+(k:Int)<b+c)=true:=decide_eq_true hlt
   have ko:=KO.out (a+c+k) (by omega) wr n2
   have HT:=Lib.hid (hT.out k hlt)
   have HS:=Lib.hid (hS.out k)
   obtain⟨c0,c1,c2,c3,c4,c5,c6,c7,c8,c9,c10,c11,c12,c13⟩:=cells14 (CO.out wr n2)
   generalize (d.owner (a+c+(k:Int))).1=o at *
   generalize (d.owner (a+c+(k:Int))).2.1=o2 at *
   generalize (d.owner (a+c+(k:Int))).2.2=o3 at *
   by_cases ho:o=holder
   ·have b4:(o != holder)=false:=by simpa using ho
    gi_wp2_with (first
     | (gi_at_call 76;refine CallsIn.mono ko ?_;rintro e w5 ⟨rfl,n5⟩;obtain⟨p0,p1,p2⟩:=CQ.out w5 (Nx.trans n2 n5))
     | gi_in)
    exact⟨⟨k+1,by omega,by simp;omega,by show _=_;rw [HS.out,hno.out];simp [ho],Nx.trans n2 n5⟩,by simp [intOf];omega⟩
   ·have b4:(o != holder)=true:=by simpa using ho
    have hz:=Lib.hid (HT.out ho)
    gi_wp2_with (first
     | (gi_at_call 76;refine CallsIn.mono ko ?_;rintro e w5 ⟨rfl,n5⟩;obtain⟨p0,p1,p2⟩:=CQ.out w5 (Nx.trans n2 n5))
     | gi_in)
    go_ret
    exact⟨by rw [hz.out]<;>rfl,Nx.trans nwY (Nx.trans n2 n5)⟩
  ·have b1:decide (a+c+(k:Int)<b+c)=false:=decide_eq_false hlt
   have hkk:k=(b-a).toNat:=by omega
   have hz:=Lib.hid (hF.out (hkk ▸ hno.out))
   clear hkk
   gi_wp2
   go_ret
   exact⟨by rw [hz.out]<;>rfl,Nx.trans nwY n2⟩
theorem max_neg (a:Int) (w:World):(Builtin.max_ #[3,3] 3 #[.int .i64 a,.int .i64 (-a)]).run Tryd.prog w=.ok (num (sizeS a)) w:=by
 unfold sizeS
 rw [show max a (-a)=if a < -a then -a else a by omega]
 by_cases h:a < -a<;>simp [Builtin.max_,Builtin.max2,go_sem,h]
end Go.Proofs.YtolholkjeehamaaDoor

namespace Go.Proofs.YtolholkjeehamaaDoor
open Go.RowKit
noncomputable def body33:Code:=match Tryd.f33.body with | some c=>c | none=>.skip
noncomputable def bad5:Code:=match seqR (seqL (seqR (seqR body33))) with
 | .block _ (.loop x)=>(match seqL (seqR x) with | .block _ z=>seqL z | c=>c)
 | c=>c
noncomputable def opbad5:Array Oper:=match bad5 with | .region _ ops _=>ops | _=>#[]
theorem bad5_eqA:bad5=.region 5 opbad5 true:=by kernel_rfl
theorem bad_out {v0 v1 v5 v6 v7 v9 v10 v11 v12 v13 v14 v15 v16 v17 v18 v19 v20 v21 v22 v23 v24 v25 v26 v27 v28:Value} (d:Dit) (r:Rows6) (l:Lg) (b off cap k:Nat) (x1 x2 x3 c:Int) (B:Nat) (out:Bool) (Y wr:World) (hlt:k<l.ops.length) (oR:Nx Y wr)
  (CO:Hid (∀ w2,Nx Y w2→∀ i v,(d.cellsA r)[i]?=some v→w2.cell? ⟨B,i,none⟩=some v)) (CL:Hid (∀ w2,Nx Y w2→∀ i v,(#[num l.lo,num l.hi,.slice (some ⟨b,off,none⟩) l.ops.length cap]:Array Value)[i]?=some v→w2.cell? ⟨B+1,i,none⟩=some v))
  (E0:Hid (∀ w2,Nx Y w2→w2.cell? ⟨b,off+k * 3,none⟩=some (num x1))) (E1:Hid (∀ w2,Nx Y w2→w2.cell? ⟨b,off+k * 3+1,none⟩=some (num x2))) (E2:Hid (∀ w2,Nx Y w2→w2.cell? ⟨b,off+k * 3+2,none⟩=some (num x3)))
  (KO:Hid (∀ u,Nx Y u→CallsIn FL 0 Tryd.prog 75 #[d.val r,.agg #[num x1,num x2,num x3],num c] u fun e w'=>e=Ending.returned (.bool out)∧Nx u w')) :
  bad5.wpIn FL 0 Tryd.prog (fun e a w'=>e=.normal∧a.defers=[]∧a.tmps=#[v0,v1,num c,.pointer (some ⟨B,0,none⟩),.pointer (some ⟨B+1,0,none⟩),v5,v6,v7,num k,v9,v10,v11,v12,v13,v14,v15,d.val r,.pointer (some ⟨B+1,2,none⟩),.slice (some ⟨b,off,none⟩) l.ops.length cap,num k,.pointer (some ⟨b,off+k * 3,none⟩),.agg #[num x1,num x2,num x3],num c,.bool out,v24,v25,v26,v27,v28]∧Nx Y w') ⟨#[v0,v1,num c,.pointer (some ⟨B,0,none⟩),.pointer (some ⟨B+1,0,none⟩),v5,v6,v7,num k,v9,v10,v11,v12,v13,v14,v15,v16,v17,v18,v19,v20,v21,v22,v23,v24,v25,v26,v27,v28],[]⟩ wr:=by
 rw [bad5_eqA]
 have oD:Nx Y wr.drew:=Below.drew oR
 refine wpIn_region_C (fun x=>Nx Y x) (by kernel_rfl) ?_
 change wpAnyC _ _ _ _ _ _ _ 8 #[false,false,false,false,false,false,false,false] _ _
 refine wpAnyC_takeR (i:=0) (oi:=⟨some 16,.load 31 (.tmp 3),_,_,_,none⟩) (v:=d.val r) (plain_ops (by kernel_rfl)) rfl (by kernel_rfl) (by kernel_rfl) (by kernel_rfl) (fun _ _ _ h=>by cases h.1) (yC_dit rfl (fun x hx=>CO.out x hx)) ?_
 simp only [Act.put,List.setIfInBounds_toArray,List.set_cons_succ,List.set_cons_zero]
 refine wpAnyC_takeR (i:=1) (oi:=⟨some 17,.fieldAddr 35 (.tmp 4) 1,_,_,_,none⟩) (v:=.pointer (some ⟨B+1,2,none⟩)) (plain_ops (by kernel_rfl)) rfl (by kernel_rfl) (by kernel_rfl) (by kernel_rfl) (fun _ _ _ h=>by cases h.1) (yC rfl (fun _=>rfl) fun x hx=>by clear CO CL KO oD;simp [execOp,go_sem]) ?_
 simp only [Act.put,List.setIfInBounds_toArray,List.set_cons_succ,List.set_cons_zero]
 refine wpAnyC_takeR (i:=2) (oi:=⟨some 18,.load 33 (.tmp 17),_,_,_,none⟩) (v:=.slice (some ⟨b,off,none⟩) l.ops.length cap) (plain_ops (by kernel_rfl)) rfl (by kernel_rfl) (by kernel_rfl) (by kernel_rfl) (fun _ _ _ h=>by cases h.1) (yC rfl (fun _=>rfl) fun x hx=>by have e:=CL.out x hx 2 _ rfl;clear CO CL KO oD;simp [execOp,go_sem,e]) ?_
 simp only [Act.put,List.setIfInBounds_toArray,List.set_cons_succ,List.set_cons_zero]
 refine wpAnyC_takeR (i:=3) (oi:=⟨some 19,.move (.tmp 8),_,_,_,none⟩) (v:=num k) (plain_ops (by kernel_rfl)) rfl (by kernel_rfl) (by kernel_rfl) (by kernel_rfl) (fun _ _ _ h=>by cases h.1) (yC_move rfl) ?_
 simp only [Act.put,List.setIfInBounds_toArray,List.set_cons_succ,List.set_cons_zero]
 refine wpAnyC_takeR (i:=4) (oi:=⟨some 20,.indexAddr 33 (.tmp 18) (.tmp 19),_,_,_,none⟩) (v:=.pointer (some ⟨b,off+k * 3,none⟩)) (plain_ops (by kernel_rfl)) rfl (by kernel_rfl) (by kernel_rfl) (by kernel_rfl) (fun _ _ _ h=>by cases h.1) (yC rfl (fun _=>rfl) fun x hx=>by clear CO CL KO oD;simp [execOp,go_sem,hlt]) ?_
 simp only [Act.put,List.setIfInBounds_toArray,List.set_cons_succ,List.set_cons_zero]
 refine wpAnyC_takeR (i:=5) (oi:=⟨some 21,.load 59 (.tmp 20),_,_,_,none⟩) (v:=.agg #[num x1,num x2,num x3]) (plain_ops (by kernel_rfl)) rfl (by kernel_rfl) (by kernel_rfl) (by kernel_rfl) (fun _ _ _ h=>by cases h.1) (yC rfl (fun _=>rfl) fun x hx=>by have e0:=E0.out x hx;have e1:=E1.out x hx;have e2:=E2.out x hx;clear CO CL KO oD;simp [execOp,go_sem,e0,e1,e2]) ?_
 simp only [Act.put,List.setIfInBounds_toArray,List.set_cons_succ,List.set_cons_zero]
 refine wpAnyC_takeR (i:=6) (oi:=⟨some 22,.move (.tmp 2),_,_,_,none⟩) (v:=num c) (plain_ops (by kernel_rfl)) rfl (by kernel_rfl) (by kernel_rfl) (by kernel_rfl) (fun _ _ _ h=>by cases h.1) (yC_move rfl) ?_
 simp only [Act.put,List.setIfInBounds_toArray,List.set_cons_succ,List.set_cons_zero]
 refine wpAnyC_only (i:=7) (o:=⟨some 23,.call { callee:=.value (.func 75),args:=#[.tmp 16,.tmp 21,.tmp 22],argTypes:=#[31,59,3] },_,_,_,none⟩) (by kernel_rfl) rfl rfl (oD) ?_
 intro K hK
 go_simp
 refine CallsIn.mono (((KO.out _ (oD)).mono fun e w' ⟨p,q⟩=>(⟨p,Nx.trans (oD) q⟩:e=Ending.returned (.bool out)∧Nx Y w'))) ?_
 rintro e v7w ⟨rfl,y7⟩
 refine hK _ _ ?_
 refine wpAnyC_done (by kernel_rfl) (y7) ?_
 exact⟨rfl,rfl,rfl,y7⟩
theorem own_nx {w w' : World} {base e sz n:Nat} {v:Value} {xs:List Value} (h:w.ownsRow base e sz v n xs) (nx:Nx w w'):w'.ownsRow base e sz v n xs:=by
 refine⟨h.1,?_⟩
 rcases h.2 with hn | ⟨g,cap,cur,rfl,hb,hg,rest⟩
 ·exact .inl hn
 ·exact .inr ⟨g,cap,cur,rfl,hb,(nx.block g (Array.getElem?_eq_some_iff.1 hg).1).trans hg,rest⟩
theorem bad33_any (d:Dit) (r:Rows6) (l:Lg) (al:Option Addr) (cap:Nat) (c:Int) (w:World) (hd:DitSl w d r) (hlog:logS d l=0) (hO:d.Ok) (hl:Sl w (.slice al l.ops.length cap) 3 (l.ops.map three)) (hc:l.lo≤c∧c≤l.hi) :
  CallsIn FL 0 Tryd.prog 33 #[d.val r,.agg #[num l.lo,num l.hi,.slice al l.ops.length cap],num c] w fun e w'=>∃ u,e=.returned u∧Nx w w'∧Sl w' u 1 ((outL d l c l.ops.length).map fun x=>[num x]):=by
 obtain⟨W,hW,n0,hWs,cW⟩:=boxed w d r
 generalize hY:W.alloc (.cells #[num l.lo,num l.hi,.slice al l.ops.length cap] 35)=Y
 have sY:Y.heap.size=w.heap.size+1+1:=by rw [← hY];simp [hWs]
 have nY:Nx W Y:=by rw [← hY];exact alloc_nx (Below.refl _ _) _
 have nwY:Nx w Y:=Nx.trans n0 nY
 have CL:=Lib.hid (fun w1 (n1:Nx Y w1) i v (h:(#[num l.lo,num l.hi,.slice al l.ops.length cap]:Array Value)[i]?=some v)=>show w1.cell? ⟨w.heap.size+1,i,none⟩=some v from
  (n1.cell (p:=⟨w.heap.size+1,i,none⟩) (by show w.heap.size+1<_;omega)).trans (by rw [← hY,← hWs];exact cell_new _ _ _ _ _ h))
 have CO:=Lib.hid (fun w1 (n1:Nx Y w1)=>cW w1 (Nx.trans nY n1))
 have HL:=Lib.hid (hl.nx nwY)
 have HD:=Lib.hid (hd.nx nwY)
 have hL:=log_ok hlog
 have hfew:=hL.1.few
 clear cW hl hd hlog
 have q2:=CL.out Y (Below.refl _ _) 2 _ rfl
 gi_enter Tryd.func33,Tryd.ntmps33
 gi_wp2
 clear q2
 gi_loopw [7,8] (fun vu i wr=>∃ k:Nat,k≤l.ops.length∧i=num k∧wr.ownsRow Y.heap.size 3 1 vu (outL d l c k).length ((outL d l c k).map num)∧Nx Y wr) (fun _ i _=>l.ops.length-(intOf i).toNat)
 case atStart=>exact⟨0,Nat.zero_le _,rfl,⟨rfl,.inl ⟨rfl,rfl⟩⟩,Below.refl _ _⟩
 case round =>
  obtain⟨k,hk,rfl,hown,n2⟩:=hrel
  have HOWN:=Lib.hid hown
  clear hown
  by_cases hlt:k<l.ops.length
  ·obtain⟨b,off,ha,hbl,hcl⟩:=HL.out.get (by simp;omega)
   subst ha
   have hx:l.ops[k]?=some l.ops[k]:=List.getElem?_eq_getElem hlt
   generalize l.ops[k]=x at hx
   obtain⟨x1,x2,x3⟩:=x
   have E0:=Lib.hid (fun w2 (o:Nx wr w2)=>show w2.cell? ⟨b,off+k * 3,none⟩=some (num x1) from ((Nx.trans n2 o).cell (p:=⟨b,off+k * 3,none⟩) hbl).trans (hcl k 0 (three (x1,x2,x3)) (num x1) (by simp [hx]) rfl))
   have E1:=Lib.hid (fun w2 (o:Nx wr w2)=>show w2.cell? ⟨b,off+k * 3+1,none⟩=some (num x2) from ((Nx.trans n2 o).cell (p:=⟨b,off+k * 3+1,none⟩) hbl).trans (hcl k 1 (three (x1,x2,x3)) (num x2) (by simp [hx]) rfl))
   have E2:=Lib.hid (fun w2 (o:Nx wr w2)=>show w2.cell? ⟨b,off+k * 3+2,none⟩=some (num x3) from ((Nx.trans n2 o).cell (p:=⟨b,off+k * 3+2,none⟩) hbl).trans (hcl k 2 (three (x1,x2,x3)) (num x3) (by simp [hx]) rfl))
   have hop:=hL.1.op k _ hx
   dsimp only at hop
   have hst:outL d l c (k+1)=outL d l c k++(if d.out x1 x2 x3 c then [(k:Int)] else []):=by
    show outL d l c k++(match l.ops[k]? with | some o=>if d.out o.1 o.2.1 o.2.2 c then [(k:Int)] else [] | none=>[])=_
    rw [hx]
   have HST:=Lib.hid hst
   have hln:=outL_len d l c k
   have KO:=Lib.hid (fun u (o:Nx wr u)=>out75_any d r x1 x2 x3 c u (HD.out.nx (Nx.trans n2 o)) hO (by omega) (by omega) (by omega))
   have q2:=CL.out wr n2 2 _ rfl
   clear hx hcl hst
   generalize d.out x1 x2 x3 c=out at *
   gi_upto_region 5 with fail
   clear q2
   refine wpIn_code_eq (c':=bad5) (by kernel_rfl) ?_
   refine wpIn_mono (bad_out d r l b off cap k x1 x2 x3 c w.heap.size out wr wr hlt (Below.refl _ _) (Lib.hid fun w2 o=>CO.out w2 (Nx.trans n2 o)) (Lib.hid fun w2 o=>CL.out w2 (Nx.trans n2 o)) E0 E1 E2 KO) ?_
   rintro e a w5 ⟨rfl,hdf,hta,o5⟩
   obtain⟨ta,df⟩:=a
   dsimp only at hdf hta
   subst hta hdf
   cases out with
   | false =>
    gi_wp2
    exact⟨⟨k+1,hlt,by simp,by rw [HST.out];simpa using own_nx HOWN.out o5,Nx.trans n2 o5⟩,by simp [intOf];omega⟩
   | true =>
    obtain⟨v',W8,happ,hown8,hg8,_,hat⟩:=run_append Y.heap.size _ (outL d l c k) [(k:Int)] (w5.alloc (.cells #[num k] 3)) ((own_nx HOWN.out o5).alloc _) ⟨w5.heap.size,0,none⟩ 1 (by
     intro j x hj
     cases j with
     | zero=>simp at hj;subst hj;exact cell_new w5 _ _ _ _ rfl
     | succ j=>simp at hj) (by simp;omega) (by have:=(Nx.trans n2 o5).size;simp;omega)
    have n8:Nx Y W8:=(alloc_nx (Nx.trans n2 o5) _).grown hg8 fun z hz=>(HOWN.out.lt z hz).1
    have HO8:=Lib.hid hown8
    rw [show ([(k:Int)]:List Int).length=1 from rfl] at happ
    clear hown8 hg8 hat
    simp [go_sem] at happ
    gi_wp2
    exact⟨⟨k+1,hlt,by simp,by rw [HST.out,if_pos rfl,List.length_append];exact HO8.out,n8⟩,by simp [intOf];omega⟩
  ·obtain rfl:k=l.ops.length:=by omega
   have q2:=CL.out wr n2 2 _ rfl
   gi_wp2
   go_ret
   exact⟨_,rfl,Nx.trans nwY n2,ownsRow_sl HOWN.out⟩
end Go.Proofs.YtolholkjeehamaaDoor

namespace Go.Proofs.YtolholkjeehamaaDoor
open Go.RowKit Go.Con Go.Conc
local instance:Lone:=mainL
noncomputable def body34:Code:=match Tryd.f34.body with | some c=>c | none=>.skip
noncomputable def nr0:Code:=seqL body34
noncomputable def nr1:Code:=seqL (seqR body34)
noncomputable def nr2:Code:=seqL (seqR (seqR body34))
theorem body34_eq:body34=.seq nr0 (.seq nr1 (.seq nr2 .ret)):=by kernel_rfl
theorem body34_of:Tryd.f34.body=some body34:=by kernel_rfl
theorem fr34 (v1 v2:Value):#[v1,v2]++Array.replicate (Tryd.f34.ntmps-(#[v1,v2]:Array Value).size) undef=#[v1,v2,undef,undef,undef,undef,undef,undef,undef,undef,undef,undef,undef,undef,undef,undef,undef,undef,undef,undef,undef,undef,undef,undef,undef,undef,undef,undef]:=by
 simp only [Tryd.ntmps34,List.size_toArray,List.length_cons,List.length_nil,Nat.reduceAdd,Nat.reduceSub,Array.replicate_succ,Array.replicate_zero,List.push_toArray,List.append_toArray,List.nil_append,List.cons_append]
theorem results34 (v:Value) (t:Array Value) (h:t[4]?=some v) (σ:Rn):ResultsC Tryd.prog Tryd.f34 (t.map (ren σ)) (ren σ v):=by
 have:=resultsC_tmp (P:=Tryd.prog) (fn:=Tryd.f34) (t:=4) rfl (t.map (ren σ))
 simp only [Array.getD_eq_getD_getElem?,Array.getElem?_map,h,Option.map_some,Option.getD_some] at this
 exact this
theorem nearer_lone (a b:Int) (W:World) (ha : -1000≤a∧a≤1000) (hb : -1000≤b∧b≤1000) :
  Lones Tryd.prog FL [nr0,nr1,nr2] (fun t W1=>Old W W1∧t[4]?=some (.bool (nearB a b))) #[num a,num b,undef,undef,undef,undef,undef,undef,undef,undef,undef,undef,undef,undef,undef,undef,undef,undef,undef,undef,undef,undef,undef,undef,undef,undef,undef,undef] W:=by
 intro τ
 simp only [nr0,body34,seqL,seqR,Tryd.f34]
 gi_wp2
 intro τ1
 generalize hq:({ W with tape:=τ1 }:World)=u
 have oU:Old W u:=by rw [← hq];exact .same rfl
 clear hq
 have h1:=max_neg a u
 have h2:=max_neg b u
 have hs1 : -1000≤sizeS a∧sizeS a≤1000:=by unfold sizeS;omega
 have hs2 : -1000≤sizeS b∧sizeS b≤1000:=by unfold sizeS;omega
 have HN:=Lib.hid (show nearB a b=decide (sizeS a<sizeS b∨sizeS a=sizeS b∧a > b) from rfl)
 generalize nearB a b=nb at *
 simp only [nr1,body34,seqL,seqR,Tryd.f34]
 gi_wp2
 clear h1 h2
 generalize sizeS a=x at *
 generalize sizeS b=y at *
 intro τ2
 generalize hq:({ u with tape:=τ2 }:World)=u2
 have oU2:Old W u2:=oU.trans (by rw [← hq];exact .same rfl)
 clear hq
 simp only [nr2,body34,seqL,seqR,Tryd.f34]
 by_cases g1:x<y
 ·have e1:decide (x<y)=true:=decide_eq_true g1
  have hz:=Lib.hid (HN.out.trans (decide_eq_true (.inl g1)))
  gi_wp2
  exact⟨oU2,by rw [hz.out]<;>rfl⟩
 ·have e1:decide (x<y)=false:=decide_eq_false g1
  by_cases g2:x=y
  ·have e2:(x == y)=true:=by simpa using g2
   by_cases g3:a > b
   ·have e3:decide (a > b)=true:=decide_eq_true g3
    have hz:=Lib.hid (HN.out.trans (decide_eq_true (.inr ⟨g2,g3⟩)))
    clear g2
    gi_wp2
    exact⟨oU2,by rw [hz.out]<;>rfl⟩
   ·have e3:decide (a > b)=false:=decide_eq_false g3
    have hz:=Lib.hid (HN.out.trans (decide_eq_false (fun h=>h.elim g1 fun q=>g3 q.2)))
    clear g2
    gi_wp2
    exact⟨oU2,by rw [hz.out]<;>rfl⟩
  ·have e2:(x == y)=false:=by simpa using g2
   have hz:=Lib.hid (HN.out.trans (decide_eq_false (fun h=>h.elim g1 fun q=>g2 q.1)))
   clear g2
   gi_wp2
   exact⟨oU2,by rw [hz.out]<;>rfl⟩
theorem nearer_go (E Fz Arg:Nat→Prop) (W0:World) (Q:(Nat→Prop)→(Nat→Prop)→Goroutine→World→Prop) (φ:Ph) (c0:Frame) (cs:List Frame) (W:World) (a b:Int) (ha : -1000≤a∧a≤1000) (hb : -1000≤b∧b≤1000)
  (hcont:∀ W1:World,Old W W1→GoM Tryd.prog true E Fz Arg W0 Q φ [] (c0.finish (.bool (nearB a b))) cs W1) :
  GoM Tryd.prog true E Fz Arg W0 Q φ [] (Fr 34 #[num a,num b,undef,undef,undef,undef,undef,undef,undef,undef,undef,undef,undef,undef,undef,undef,undef,undef,undef,undef,undef,undef,undef,undef,undef,undef,undef,undef] [.code body34]) (c0 :: cs) W:=by
 have hL:=nearer_lone a b W ha hb
 have hok:∀ f,FL.fn f→goodFn Tryd.prog (.func f)=true→okFn Tryd.prog true f:=fun f hf _=>okFnB_ok (List.all_eq_true.1 main_ok f hf)
 rw [body34_eq]
 refine Gm.seq ?_
 refine Gm.lone (F:=FL) _ rfl rfl rfl (by simp [Fence.list]) hok (by kernel_rfl) (by kernel_rfl) hL ?_
 clear hL
 intro t1 V1 hL
 refine Gm.seq ?_
 refine Gm.lone (F:=FL) _ rfl rfl rfl (by simp [Fence.list]) hok (by kernel_rfl) (by kernel_rfl) hL ?_
 clear hL
 intro t2 V2 hL
 refine Gm.seq ?_
 refine Gm.lone (F:=FL) _ rfl rfl rfl (by simp [Fence.list]) hok (by kernel_rfl) (by kernel_rfl) hL ?_
 clear hL
 rintro t3 V3 ⟨o3,h3⟩
 exact Gm.ret Tryd.func34 (results34 _ _ h3) (hcont V3 o3)
end Go.Proofs.YtolholkjeehamaaDoor

namespace Go.Con
open Go Go.Conc
section
variable [Lone]
variable {P:Program} {maps:Bool} {E Fz Arg:Nat→Prop} {W0:World} {f:FuncId} {t:Array Value} {k:List Item} {cs:List Frame} {W:World}
variable {Q:(Nat→Prop)→(Nat→Prop)→Goroutine→World→Prop} {φ:Ph} {pend:List Nat}
theorem Gm.pass {ops:Array Oper} {i:Nat} {rest:List Nat} {o:Oper} (ho:ops[i]?=some o) (hw:Region.wanted o (yielded ops t)=false) (hop:okOp P maps o.op=true) (hv:okVal P (Fr f t []).eval o.op=true)
  (hg:GoM P maps E Fz Arg W0 Q φ pend (Fr f (putD t o.dst undef) (.inRegion ops rest :: k)) cs W):GoM P maps E Fz Arg W0 Q φ pend (Fr f t (.inRegion ops (i :: rest) :: k)) cs W:=by
 have he:(Fr f t (.inRegion ops (i :: rest) :: k)).eval=(Fr f t []).eval:=funext fun x=>by cases x<;>rfl
 refine GoM.step (srh_op rfl rfl ho hop (by rw [he];exact hv)) ⟨fun it t' e=>?_,.inl rfl,fun d hdm=>(List.not_mem_nil hdm).elim,.inl rfl⟩ fun τ hτ=>?_
 ·cases e
  simp only [okItem1,ho,Option.all_some]
  exact hop
 ·refine⟨(Fr f t (.inRegion ops (i :: rest) :: k)).finish undef,cs,{ W with tape:=τ },?_,fun h=>h,?_⟩
  ·unfold frameSem
   dsimp only
   unfold runSem
   dsimp only
   rw [ho]
   simp only [Option.map_some,Option.getD_some,hw,Bool.false_eq_true,if_false]
   rfl
  ·rw [Fr_finish ho]
   exact Gm.tape hg
end
end Go.Con
namespace Go.Proofs.YtolholkjeehamaaDoor
open Go.RowKit Go.Con Go.Conc
theorem unwanted_guard {ops:Array Oper} {o:Oper} {i d:Nat} {b:Bool} {t:Array Value} (hg:o.guard=some (i,b)) (hd:(ops[i]?).bind (·.dst)=some d) (hv:t[d]?=some (.bool (!b))):Region.wanted o (yielded ops t)=false:=by
 unfold Region.wanted yielded
 cases b<;>simp [hg,hd,hv]
theorem unwanted_undef {ops:Array Oper} {o:Oper} {i d:Nat} {b:Bool} {t:Array Value} (hg:o.guard=some (i,b)) (hd:(ops[i]?).bind (·.dst)=some d) (hv:t[d]?=some undef):Region.wanted o (yielded ops t)=false:=by
 unfold Region.wanted yielded
 simp [hg,hd,hv,undef]
section
variable {dst:Option Nat} {ty:TypeId} {pos:String} {af:Array Edge} {x y c:Nat} {w:World} {gd:Option (Nat×Bool)} (e:Operand→Value)
theorem lenS_run {T:TypeId} {elem:TypeId} (hT:Tryd.prog.underlying T=some (.slice elem)) {a:Option Addr} {n k:Nat} (h:e (.tmp x)=.slice a n k) (τ:Tape):(execOp e ⟨dst,.call { callee:=.builtin .len,args:=#[.tmp x],argTypes:=#[T] },ty,pos,af,gd⟩).run Tryd.prog { w with tape:=τ }=.ok (.value (num n)) { w with tape:=τ }:=by
 simp [execOp,resolve,invoke,builtin,go_sem,h,hT]
theorem gtrR_run {n m:Int} {b:Bool} (h:e (.tmp x)=num n) (h2:e (.tmp y)=num m) (hn:decide (n > m)=b) (τ:Tape):(execOp e ⟨dst,.binOp .gtr 3 (.tmp x) (.tmp y) 3,ty,pos,af,gd⟩).run Tryd.prog { w with tape:=τ }=.ok (.value (.bool b)) { w with tape:=τ }:=by
 subst hn
 simp [execOp,go_sem,h,h2]
theorem notR_run {b:Bool} (h:e (.tmp x)=.bool b) (τ:Tape):(execOp e ⟨dst,.unOp .not 4 (.tmp x),ty,pos,af,gd⟩).run Tryd.prog { w with tape:=τ }=.ok (.value (.bool (!b))) { w with tape:=τ }:=by
 simp [execOp,go_sem,h]
theorem pickT_run (h:e (.tmp c)=.bool true) (h2:e (.const (.bool true))=.bool true) (τ:Tape):(execOp e ⟨dst,.pick (.tmp c) (.const (.bool true)) (.tmp x),ty,pos,af,gd⟩).run Tryd.prog { w with tape:=τ }=.ok (.value (.bool true)) { w with tape:=τ }:=by
 simp [execOp,go_sem,h,h2]
theorem pickF_run {v:Value} (h:e (.tmp c)=.bool false) (h2:e (.tmp x)=v) (τ:Tape):(execOp e ⟨dst,.pick (.tmp c) (.const (.bool true)) (.tmp x),ty,pos,af,gd⟩).run Tryd.prog { w with tape:=τ }=.ok (.value v) { w with tape:=τ }:=by
 simp [execOp,go_sem,h,h2]
end
end Go.Proofs.YtolholkjeehamaaDoor

namespace Go.Proofs.YtolholkjeehamaaDoor
open Go.RowKit Go.Con Go.Conc
local instance:Lone:=mainL
noncomputable def lawB7:Code:=match Tryd.f7.body with | some c=>c | none=>.skip
noncomputable def bl0:Code:=seqL lawB7
noncomputable def blp1:Code:=seqR lawB7
noncomputable def bl1:Code:=seqL (seqL blp1)
noncomputable def bl2:Code:=match seqR (seqL blp1) with | .cond _ x _=>seqL x | c=>c
noncomputable def blp2:Code:=seqR blp1
noncomputable def bl3:Code:=seqL blp2
noncomputable def blp3:Code:=seqR blp2
noncomputable def bl4:Code:=seqL blp3
noncomputable def blp4:Code:=seqR blp3
noncomputable def bl5:Code:=seqL blp4
noncomputable def blp5:Code:=seqR blp4
noncomputable def bl7:Code:=seqL blp5
noncomputable def blp6:Code:=seqR blp5
noncomputable def bl17:Code:=seqL blp6
noncomputable def blp7:Code:=seqR blp6
noncomputable def bl18:Code:=seqL blp7
noncomputable def blp8:Code:=seqR blp7
noncomputable def bl19:Code:=seqL blp8
theorem lawB7_eq:lawB7=.seq bl0 (.seq (.seq bl1 (.cond (.tmp 25) (.seq bl2 .ret) .skip)) (.seq bl3 (.seq bl4 (.seq bl5 (.seq bl7 (.seq bl17 (.seq bl18 (.seq bl19 .ret)))))))):=by kernel_rfl
theorem lawB7_of:Tryd.f7.body=some lawB7:=by kernel_rfl
noncomputable def opbl2:Array Oper:=opsOf bl2
theorem bl2_eq:bl2=.region 2 opbl2 false:=by kernel_rfl
noncomputable def opbl19:Array Oper:=opsOf bl19
theorem bl19_eq:bl19=.region 19 opbl19 false:=by kernel_rfl
def BlmA (d:Dit) (r:Rows6) (l:Lg) (al:Option Addr) (cap:Nat) (x:Int) (W:World) (t:Array Value) (W2:World):Prop :=
 Old W W2∧∃ (B:Nat) (v17 v18 v19 v20 v21 v22 v23 v24 v25:Value),t=#[d.val r,.agg #[num l.lo,num l.hi,.slice al l.ops.length cap],.int .u8 x,.pointer (some ⟨B,0,none⟩),.pointer (some ⟨B+1,0,none⟩),undef,.bool false,undef,undef,undef,undef,undef,undef,undef,undef,undef,undef,v17,v18,v19,v20,v21,v22,v23,v24,v25,undef,undef,undef,undef,undef,undef,undef,undef,undef,undef,undef,undef,undef,undef,undef,undef,undef,undef,undef,undef,undef,undef,undef,undef,undef,undef,undef,undef,undef,undef,undef,undef,undef,undef,undef,undef,undef,undef,undef,undef,undef,undef,undef,undef,undef,undef,undef,undef,undef,undef,undef,undef,undef,undef,undef,undef,undef,undef,undef,undef,undef,undef,undef,undef,undef,undef,undef,undef,undef,undef,undef,undef,undef,undef,undef,undef,undef,undef,undef,undef,undef,undef,undef,undef,undef,undef,undef,undef,undef,undef,undef,undef,undef,undef,undef,undef,undef,undef,undef,undef,undef,undef,undef,undef,undef,undef,undef,undef,undef,undef,undef,undef,undef,undef,undef,undef,undef,undef,undef,undef]∧B+1<W2.heap.size∧(∀ i v,(d.cellsA r)[i]?=some v→W2.cell? ⟨B,i,none⟩=some v)∧(∀ i v,(#[num l.lo,num l.hi,.slice al l.ops.length cap]:Array Value)[i]?=some v→W2.cell? ⟨B+1,i,none⟩=some v)
theorem tblame_lone (d:Dit) (r:Rows6) (l:Lg) (al:Option Addr) (cap:Nat) (x:Int) (W:World) (hd:DitSl W d r) (hb:d.Big) (hg:Glob W) (hl:Sl W (.slice al l.ops.length cap) 3 (l.ops.map three)) (hlb:l.ops.length≤281474976710656) (hx:0≤x∧x≤255) :
  Lones Tryd.prog (FG 7) [bl0,bl1] (fun t W1=>Old W W1∧t.size=146∧(t[25]?=some (.bool true)∨(t[25]?=some (.bool false)∧(logS d l=0∧d.Small)∧BlmA d r l al cap x W t W1)))
   #[d.val r,.agg #[num l.lo,num l.hi,.slice al l.ops.length cap],.int .u8 x,undef,undef,undef,undef,undef,undef,undef,undef,undef,undef,undef,undef,undef,undef,undef,undef,undef,undef,undef,undef,undef,undef,undef,undef,undef,undef,undef,undef,undef,undef,undef,undef,undef,undef,undef,undef,undef,undef,undef,undef,undef,undef,undef,undef,undef,undef,undef,undef,undef,undef,undef,undef,undef,undef,undef,undef,undef,undef,undef,undef,undef,undef,undef,undef,undef,undef,undef,undef,undef,undef,undef,undef,undef,undef,undef,undef,undef,undef,undef,undef,undef,undef,undef,undef,undef,undef,undef,undef,undef,undef,undef,undef,undef,undef,undef,undef,undef,undef,undef,undef,undef,undef,undef,undef,undef,undef,undef,undef,undef,undef,undef,undef,undef,undef,undef,undef,undef,undef,undef,undef,undef,undef,undef,undef,undef,undef,undef,undef,undef,undef,undef,undef,undef,undef,undef,undef,undef,undef,undef,undef,undef,undef,undef] W:=by
 intro τ
 generalize hw0:({ W with tape:=τ }:World)=w0
 have hO0:Old W w0:=by rw [← hw0];exact .same rfl
 clear hw0
 generalize hY:(w0.alloc (.cells (d.cellsA r) 31)).alloc (.cells #[num l.lo,num l.hi,.slice al l.ops.length cap] 35)=Y
 obtain⟨oY,sY,g1,g2⟩:=al2' hY
 have hcd:d.cellsA r=#[r.h,r.t,num d.begin_,num d.week,num d.from_,num d.long,r.f,r.s,r.l,num d.flow.1,num d.flow.2,num d.loss.1,num d.loss.2,r.p]:=rfl
 rw [hcd] at hY
 simp only [bl0,lawB7,seqL,seqR,Tryd.f7]
 gi_wp2
 clear hcd hY
 intro τ1
 generalize hw1:({ Y with tape:=τ1 }:World)=w1
 have h1:w1.heap=Y.heap:=by rw [← hw1]
 clear hw1
 have hOw:Old W w1:=hO0.trans (oY.trans (.same h1))
 have cell0:∀ (b:Nat) (cs:Array Value) (T:TypeId),Y.heap[b]?=some (.cells cs T (0,0))→∀ w2,Old w1 w2→∀ i v,cs[i]?=some v→w2.cell? ⟨b,i,none⟩=some v:=fun b cs T hb w2 o i v hv=>by
  have hl:=(Array.getElem?_eq_some_iff.1 hb).1
  rw [o.cell ⟨b,i,none⟩ (by rw [h1];exact hl)]
  unfold World.cell?
  dsimp only
  rw [h1,hb]
  exact hv
 have CO:=Lib.hid (cell0 _ _ _ g1)
 have CL:=Lib.hid (cell0 _ _ _ g2)
 have hBl:w0.heap.size+2≤w1.heap.size:=by rw [h1];omega
 clear cell0 g1 g2 sY oY h1
 have HD:=Lib.hid hd
 have HG:=Lib.hid hg
 have HL:=Lib.hid hl
 have k19:=toFG 7 (m:=0) (great_big d r l.lo l.hi (.slice al l.ops.length cap) (l.ops.map three) w1 (hd.old hOw) hb (hl.old hOw) (by rw [List.length_map];exact hlb))
 rw [List.length_map] at k19
 clear hd hg hl hlb
 obtain⟨c0,c1,c2,c3,c4,c5,c6,c7,c8,c9,c10,c11,c12,c13⟩:=cells14 (CO.out w1 (Old.refl _))
 have q0:=CL.out w1 (Old.refl _) 0 _ rfl
 have q1:=CL.out w1 (Old.refl _) 1 _ rfl
 have q2:=CL.out w1 (Old.refl _) 2 _ rfl
 simp only [bl1,blp8,blp7,blp6,blp5,blp4,blp3,blp2,blp1,lawB7,seqL,seqR,Tryd.f7]
 cases hgr:greatS d l.ops.length with
 | true =>
  rw [hgr] at k19
  gi_wp2_with (first
   | (gi_at_call 19;refine CallsIn.mono k19 ?_;rintro e w2 ⟨rfl,x2⟩)
   | gi_in)
  first | exact⟨hOw.trans (.nx x2),rfl,.inl rfl⟩ | exact⟨hOw.trans (.nx x2),rfl,rfl⟩
 | false =>
 rw [hgr] at k19
 have hs:=small_of_great hgr
 have hls:l.ops.length≤1000000000:=by
  unfold greatS at hgr
  simp only [Bool.or_eq_false_iff,decide_eq_false_iff_not] at hgr
  omega
 have k27:=Lib.hid (fun w2 (o:Old w1 w2)=>toFG 7 (m:=0) (checklog27_any d r l (.slice al l.ops.length cap) w2 (HD.out.old (hOw.trans o)) hs (HL.out.old (hOw.trans o)) hls))
 clear hgr
 rcases (Decidable.em (logS d l=0)).symm with hc | hc
 ·have b1:(logS d l != 0)=true:=by simpa using hc
  generalize logS d l=g at *
  gi_wp2_with (first
   | (gi_at_call 19;refine CallsIn.mono k19 ?_;rintro e w2 ⟨rfl,x2⟩;clear c0 c1 c2 c3 c4 c5 c6 c7 c8 c9 c10 c11 c12 c13;clear q0 q1 q2;obtain⟨c0,c1,c2,c3,c4,c5,c6,c7,c8,c9,c10,c11,c12,c13⟩:=cells14 (CO.out w2 (.nx x2));have q0:=CL.out w2 (.nx x2) 0 _ rfl;have q1:=CL.out w2 (.nx x2) 1 _ rfl;have q2:=CL.out w2 (.nx x2) 2 _ rfl;have kk:=k27.out w2 (.nx x2))
   | (gi_at_call 27;refine CallsIn.mono kk ?_;rintro e w3 ⟨rfl,x3⟩)
   | gi_in)
  first | exact⟨hOw.trans (.trans (.nx x2) (.nx x3)),rfl,.inl rfl⟩ | exact⟨hOw.trans (.trans (.nx x2) (.nx x3)),rfl,rfl⟩
 have HC:=Lib.hid hc
 rw [hc] at k27
 clear hc
 gi_wp2_with (first
  | (gi_at_call 19;refine CallsIn.mono k19 ?_;rintro e w2 ⟨rfl,x2⟩;clear c0 c1 c2 c3 c4 c5 c6 c7 c8 c9 c10 c11 c12 c13;clear q0 q1 q2;obtain⟨c0,c1,c2,c3,c4,c5,c6,c7,c8,c9,c10,c11,c12,c13⟩:=cells14 (CO.out w2 (.nx x2));have q0:=CL.out w2 (.nx x2) 0 _ rfl;have q1:=CL.out w2 (.nx x2) 1 _ rfl;have q2:=CL.out w2 (.nx x2) 2 _ rfl;have kk:=k27.out w2 (.nx x2))
  | (gi_at_call 27;refine CallsIn.mono kk ?_;rintro e w3 ⟨rfl,x3⟩;clear c0 c1 c2 c3 c4 c5 c6 c7 c8 c9 c10 c11 c12 c13;clear q0 q1 q2)
  | gi_in)
 have oB2:Old w1 w3:=.trans (.nx x2) (.nx x3)
 refine⟨hOw.trans oB2,rfl,.inr ⟨rfl,by first | exact⟨HC.out,hs⟩ | exact HC.out,?_⟩⟩
 clear k19 k27 kk
 exact⟨hOw.trans oB2,w0.heap.size,_,_,_,_,_,_,_,_,_,rfl,by have:=oB2.size;omega,CO.out w3 oB2,CL.out w3 oB2⟩
end Go.Proofs.YtolholkjeehamaaDoor

namespace Go.Proofs.YtolholkjeehamaaDoor
open Go.RowKit Go.Con Go.Conc
local instance:Lone:=mainL
def BlmT (d:Dit) (l:Lg) (oa:Option Addr) (oc:Nat) (n:Int) (xs:List Int) (W8:World) (t:Array Value) (W2:World):Prop :=
 Old W8 W2∧∃ (c:Int) (m:Nat),(l.lo≤c∧c≤l.hi)∧m=(outL d l c l.ops.length).length∧t.size=146∧t[16]?=some (num m)∧t[8]?=some (.slice oa xs.length oc)∧t[15]?=some (num c)∧t[7]?=some (num n)
theorem blame_tail {v0 v1 v5 v6 v12 v13 v14 v15 v16 v17 v18 v19 v20 v21 v22 v23 v24 v25 v26 v27 v28 v29 v30 v31 v32 v33 v34 v35 v36 v37 v38 v39:Value} (d:Dit) (r:Rows6) (l:Lg) (al ba oa:Option Addr) (cap bc oc:Nat) (x n:Int) (xs:List Int) (B:Nat) (W8:World) (hd:DitSl W8 d r) (hO:d.Ok) (hlog:logS d l=0) (hl:Sl W8 (.slice al l.ops.length cap) 3 (l.ops.map three)) (hB:BlameOk d l n xs)
  (hos:Sl W8 (.slice oa xs.length oc) 1 (xs.map fun x=>[num x])) (hbs:Sl W8 (.slice ba l.ops.length bc) 1 ((judgeF d l).1.map fun x=>[num x])) (cO:∀ i v,(d.cellsA r)[i]?=some v→W8.cell? ⟨B,i,none⟩=some v) (cL:∀ i v,(#[num l.lo,num l.hi,.slice al l.ops.length cap]:Array Value)[i]?=some v→W8.cell? ⟨B+1,i,none⟩=some v) (hBl:B+1<W8.heap.size) (hx:0≤x∧x≤255) :
  Lones Tryd.prog (FG 7) [bl5,bl7,bl17,bl18] (BlmT d l oa oc n xs W8) #[v0,v1,.int .u8 x,.pointer (some ⟨B,0,none⟩),.pointer (some ⟨B+1,0,none⟩),v5,v6,num n,.slice oa xs.length oc,num 0,.slice ba l.ops.length bc,num 0,v12,v13,v14,v15,v16,v17,v18,v19,v20,v21,v22,v23,v24,v25,v26,v27,v28,v29,v30,v31,v32,v33,v34,v35,v36,v37,v38,v39,undef,undef,undef,undef,undef,undef,undef,undef,undef,undef,undef,undef,undef,undef,undef,undef,undef,undef,undef,undef,undef,undef,undef,undef,undef,undef,undef,undef,undef,undef,undef,undef,undef,undef,undef,undef,undef,undef,undef,undef,undef,undef,undef,undef,undef,undef,undef,undef,undef,undef,undef,undef,undef,undef,undef,undef,undef,undef,undef,undef,undef,undef,undef,undef,undef,undef,undef,undef,undef,undef,undef,undef,undef,undef,undef,undef,undef,undef,undef,undef,undef,undef,undef,undef,undef,undef,undef,undef,undef,undef,undef,undef,undef,undef,undef,undef,undef,undef,undef,undef,undef,undef,undef,undef,undef,undef] W8:=by
 have CO:=Lib.hid (fun w2 (o:Old W8 w2) i v (h:(d.cellsA r)[i]?=some v)=>(o.cell ⟨B,i,none⟩ (by show B<_;omega)).trans (cO i v h))
 have CL:=Lib.hid (fun w2 (o:Old W8 w2) i v (h:(#[num l.lo,num l.hi,.slice al l.ops.length cap]:Array Value)[i]?=some v)=>(o.cell ⟨B+1,i,none⟩ hBl).trans (cL i v h))
 have HD:=Lib.hid hd
 have HL:=Lib.hid hl
 have HBS:=Lib.hid hbs
 have HOS:=Lib.hid hos
 have HC:=Lib.hid hlog
 have hcl:=(log_ok hlog).2
 have hfew:=(log_ok hlog).1.few
 have hxf:=hB.few
 clear cO cL hd hl hbs hos hlog
 intro τ5
 generalize hq5:({ W8 with tape:=τ5 }:World)=u5
 have oA5:Old W8 u5:=(Old.refl W8).trans (by rw [← hq5];exact .same rfl)
 clear hq5
 have q0:=CL.out u5 oA5 0 _ rfl
 have q1:=CL.out u5 oA5 1 _ rfl
 have q2:=CL.out u5 oA5 2 _ rfl
 obtain⟨c0,c1,c2,c3,c4,c5,c6,c7,c8,c9,c10,c11,c12,c13⟩:=cells14 (CO.out u5 oA5)
 have k33:=toFG 7 (m:=0) (bad33_any d r l al cap n u5 (HD.out.old oA5) HC.out hO (HL.out.old oA5) hB.bd)
 have b1:decide (n<l.lo)=false:=decide_eq_false (by have:=hB.bd;omega)
 have b2:decide (n > l.hi)=false:=decide_eq_false (by have:=hB.bd;omega)
 have HX:=Lib.hid (decide_eq_true hB.eq)
 simp only [bl5,blp8,blp7,blp6,blp5,blp4,blp3,blp2,blp1,lawB7,seqL,seqR,Tryd.f7]
 gi_wp2_with (first
  | (gi_at_call 33;refine CallsIn.mono k33 ?_;rintro e w2 ⟨u,rfl,x2,hu⟩;clear k33;clear c0 c1 c2 c3 c4 c5 c6 c7 c8 c9 c10 c11 c12 c13;clear q0 q1 q2;have k32:=toFG 7 (m:=0) (same_any (.slice oa xs.length oc) u xs _ w2 (HOS.out.old (oA5.trans (.nx x2))) hu (by have:=hB.few;omega) (by have:=outL_len d l n l.ops.length;omega));rw [HX.out] at k32;clear hu)
  | (gi_at_call 32;refine CallsIn.mono k32 ?_;rintro e w3 ⟨rfl,x3⟩;clear k32)
  | gi_in)
 have oB5:Old W8 w3:=oA5.trans (.trans (.nx x2) (.nx x3))
 clear b1 b2 HX
 intro τ7
 generalize hq7:({ w3 with tape:=τ7 }:World)=u7
 have oA7:Old W8 u7:=oB5.trans (by rw [← hq7];exact .same rfl)
 clear hq7
 simp only [bl7,blp8,blp7,blp6,blp5,blp4,blp3,blp2,blp1,lawB7,seqL,seqR,Tryd.f7]
 gi_wp2
 gi_loopw [12] (fun i wr=>∃ k:Nat,k≤l.ops.length∧i=num k∧Old W8 wr) (fun i _=>l.ops.length-(intOf i).toNat)
 case atStart=>exact⟨0,Nat.zero_le _,rfl,oA7⟩
 case round =>
  obtain⟨k,hk,rfl,oR⟩:=hrel
  generalize wr=W9 at *
  by_cases hlt:k<l.ops.length
  ·have hx9:l.ops[k]?=some l.ops[k]:=List.getElem?_eq_getElem hlt
   generalize l.ops[k]=op at hx9
   obtain⟨bv,hb1,hb2⟩:=(judge_law HC.out).2.2 k _ hx9
   have hbb:=Lib.hid (blame_bel hB hx9 hb2)
   have hbo:=Lib.hid hb2.one
   obtain⟨b2,off2,ha2,hbl2,hcl2⟩:=HBS.out.get (by rw [List.length_map,(judge_law HC.out).2.1];omega)
   subst ha2
   have E3:=Lib.hid (fun w2 (o:Old W8 w2)=>show w2.cell? ⟨b2,off2+k,none⟩=some (num bv) from (o.cell ⟨b2,off2+k,none⟩ hbl2).trans (by have:=hcl2 k 0 [num bv] (num bv) (by simp [hb1]) rfl;simpa using this))
   clear hx9 hb1 hb2 hcl2
   gi_wp2
   gi_loopw [13,14] (fun is j wq=>∃ m:Nat,m≤xs.length∧j=num m∧is=.bool (decide ((k:Int)∈xs.take m))∧Old W8 wq) (fun _ j _=>xs.length-(intOf j).toNat)
   case atStart=>exact⟨0,Nat.zero_le _,rfl,by simp,oR⟩
   case round =>
    obtain⟨m,hm,rfl,rfl,oQ⟩:=hrel
    by_cases hlm:m<xs.length
    ·obtain⟨b3,off3,ha3,hbl3,hcl3⟩:=HOS.out.get (by simp;omega)
     subst ha3
     have hy:xs[m]?=some xs[m]:=List.getElem?_eq_getElem hlm
     generalize xs[m]=y at hy
     have e3:wr.cell? ⟨b3,off3+m,none⟩=some (num y):=(oQ.cell ⟨b3,off3+m,none⟩ hbl3).trans (by have:=hcl3 m 0 [num y] (num y) (by simp [hy]) rfl;simpa using this)
     have hst:(decide ((k:Int)∈xs.take (m+1)))=(decide ((k:Int)∈xs.take m) || decide ((k:Int)=y)):=by
      rw [List.take_add_one,hy]
      simp
     have HST:=Lib.hid hst
     clear hst hcl3 hy
     generalize decide ((k:Int)∈xs.take m)=is at *
     cases is with
     | true =>
      gi_wp2
      exact⟨⟨m+1,hlm,by simp,by rw [HST.out];simp,oQ⟩,by simp [intOf];omega⟩
     | false =>
      by_cases hyk:y=(k:Int)
      ·have b4:(y == (k:Int))=true:=by simpa using hyk
       gi_wp2
       exact⟨⟨m+1,hlm,by simp,by rw [HST.out];simp [hyk],oQ⟩,by simp [intOf];omega⟩
      ·have b4:(y == (k:Int))=false:=by simpa using hyk
       have hyk2:¬ (k:Int)=y:=fun h=>hyk h.symm
       gi_wp2
       exact⟨⟨m+1,hlm,by simp,by rw [HST.out];simp [hyk2],oQ⟩,by simp [intOf];omega⟩
    ·obtain rfl:m=xs.length:=by omega
     have f3:=E3.out wr oQ
     have hmem:decide ((k:Int)∈xs.take xs.length)=decide ((k:Int)∈xs):=by rw [List.take_length]
     have HM:=Lib.hid hmem
     clear hmem
     generalize hdm:decide ((k:Int)∈xs.take xs.length)=is at *
     rcases hbo.out with e | e | e
     ·subst e
      clear HM hdm
      gi_wp2
      exact⟨⟨k+1,hlt,by simp,oQ⟩,by simp [intOf];omega⟩
     ·have his:is=true:=by rw [HM.out];exact decide_eq_true (hbb.out.1 e)
      subst e
      clear HM hdm
      subst his
      gi_wp2
      exact⟨⟨k+1,hlt,by simp,oQ⟩,by simp [intOf];omega⟩
     ·have his:is=false:=by rw [HM.out];exact decide_eq_false (hbb.out.2 e)
      subst e
      clear HM hdm
      subst his
      gi_wp2
      exact⟨⟨k+1,hlt,by simp,oQ⟩,by simp [intOf];omega⟩
  ·obtain rfl:k=l.ops.length:=by omega
   gi_wp2
   intro τ17
   generalize hq17:({ W9 with tape:=τ17 }:World)=u17
   have oA17:Old W8 u17:=oR.trans (by rw [← hq17];exact .same rfl)
   clear hq17
   have q0:=CL.out u17 oA17 0 _ rfl
   have q1:=CL.out u17 oA17 1 _ rfl
   have k28:=toFG 7 (m:=0) (one28_any l.lo l.hi x u17 (by omega) (by omega))
   simp only [bl17,blp8,blp7,blp6,blp5,blp4,blp3,blp2,blp1,lawB7,seqL,seqR,Tryd.f7]
   gi_wp2_with (first
    | (gi_at_call 28;refine CallsIn.mono k28 ?_;rintro e w4 ⟨rfl,x4⟩)
    | gi_in)
   clear q0 q1 k28
   have hmo:0≤x % (l.hi-l.lo+1)∧x % (l.hi-l.lo+1)<l.hi-l.lo+1:=⟨Int.emod_nonneg _ (by omega),Int.emod_lt_of_pos _ (by omega)⟩
   have hcc:l.lo≤l.lo+x % (l.hi-l.lo+1)∧l.lo+x % (l.hi-l.lo+1)≤l.hi:=by omega
   generalize l.lo+x % (l.hi-l.lo+1)=c at *
   have oB17:Old W8 w4:=oA17.trans (.nx x4)
   intro τ18
   generalize hq18:({ w4 with tape:=τ18 }:World)=u18
   have oA18:Old W8 u18:=oB17.trans (by rw [← hq18];exact .same rfl)
   clear hq18
   have q0:=CL.out u18 oA18 0 _ rfl
   have q1:=CL.out u18 oA18 1 _ rfl
   have q2:=CL.out u18 oA18 2 _ rfl
   obtain⟨c0,c1,c2,c3,c4,c5,c6,c7,c8,c9,c10,c11,c12,c13⟩:=cells14 (CO.out u18 oA18)
   have k33:=toFG 7 (m:=0) (bad33_any d r l al cap c u18 (HD.out.old oA18) HC.out hO (HL.out.old oA18) hcc)
   have hol:=outL_len d l c l.ops.length
   simp only [bl18,blp8,blp7,blp6,blp5,blp4,blp3,blp2,blp1,lawB7,seqL,seqR,Tryd.f7]
   gi_wp2_with (first
    | (gi_at_call 33;refine CallsIn.mono k33 ?_;rintro e w6 ⟨u,rfl,x6,hu⟩;obtain⟨au,cu,hue⟩:=hu.cases;rw [List.length_map] at hue;subst hue;clear hu k33)
    | gi_in)
   exact⟨oA18.trans (.nx x6),c,_,hcc,rfl,rfl,rfl,rfl,rfl,rfl⟩
end Go.Proofs.YtolholkjeehamaaDoor

namespace Go.Proofs.YtolholkjeehamaaDoor
open Go.RowKit Go.Con Go.Conc
local instance:Lone:=mainL
noncomputable def opbl3:Array Oper:=opsOf bl3
theorem bl3_eq:bl3=.region 3 opbl3 false:=by kernel_rfl
noncomputable def opbl4:Array Oper:=opsOf bl4
theorem bl4_eq:bl4=.region 4 opbl4 false:=by kernel_rfl
theorem results7 (v:Value) (t:Array Value) (h:t[6]?=some v) (σ:Rn):ResultsC Tryd.prog Tryd.f7 (t.map (ren σ)) (ren σ v):=by
 have:=resultsC_tmp (P:=Tryd.prog) (fn:=Tryd.f7) (t:=6) rfl (t.map (ren σ))
 simp only [Array.getD_eq_getD_getElem?,Array.getElem?_map,h,Option.map_some,Option.getD_some] at this
 exact this
theorem tblame_go (E Fz Arg:Nat→Prop) (W0:World) (hArg:∀ x,Arg x↔x<W0.heap.size) (Post:Value→World→Prop) (φ:Ph) (d:Dit) (r:Rows6) (l:Lg) (al:Option Addr) (cap:Nat) (x:Int) (W:World) (hd:DitSl W d r) (hb:d.Big) (hg:Glob W) (hl:Sl W (.slice al l.ops.length cap) 3 (l.ops.map three)) (hlb:l.ops.length≤281474976710656) (hx:0≤x∧x≤255) (hkd:Kind W (.slice al l.ops.length cap))
  (hPost:∀ Fz1 ρ D own A fr W1 W',Here Tryd.prog true E Fz1 Arg W0 ρ D own A fr [] W1 W'→Post (ren ρ (.bool true)) W') :
  GoM Tryd.prog true E Fz Arg W0 (AtEnd Tryd.prog Post) φ [] (Fr 7 #[d.val r,.agg #[num l.lo,num l.hi,.slice al l.ops.length cap],.int .u8 x,undef,undef,undef,undef,undef,undef,undef,undef,undef,undef,undef,undef,undef,undef,undef,undef,undef,undef,undef,undef,undef,undef,undef,undef,undef,undef,undef,undef,undef,undef,undef,undef,undef,undef,undef,undef,undef,undef,undef,undef,undef,undef,undef,undef,undef,undef,undef,undef,undef,undef,undef,undef,undef,undef,undef,undef,undef,undef,undef,undef,undef,undef,undef,undef,undef,undef,undef,undef,undef,undef,undef,undef,undef,undef,undef,undef,undef,undef,undef,undef,undef,undef,undef,undef,undef,undef,undef,undef,undef,undef,undef,undef,undef,undef,undef,undef,undef,undef,undef,undef,undef,undef,undef,undef,undef,undef,undef,undef,undef,undef,undef,undef,undef,undef,undef,undef,undef,undef,undef,undef,undef,undef,undef,undef,undef,undef,undef,undef,undef,undef,undef,undef,undef,undef,undef,undef,undef,undef,undef,undef,undef,undef,undef] [.code lawB7]) [] W:=by
 have hgood:goodFn Tryd.prog (.func 7)=false:=by kernel_rfl
 have hL:=tblame_lone d r l al cap x W hd hb hg hl hlb hx
 rw [lawB7_eq]
 refine Gm.seq ?_
 refine Gm.lone (F:=FG 7) _ rfl rfl rfl (List.mem_cons_self ..) (FG_ok 7 hgood) (by kernel_rfl) (by kernel_rfl) hL ?_
 clear hL
 intro t0 V0 hL
 refine Gm.seq (Gm.seq ?_)
 refine Gm.lone (F:=FG 7) _ rfl rfl rfl (List.mem_cons_self ..) (FG_ok 7 hgood) (by kernel_rfl) (by kernel_rfl) hL ?_
 clear hL
 rintro t W1 ⟨hO1,hs,h25 | ⟨h25,⟨hlog,hsm⟩,hO2,B,v17,v18,v19,v20,v21,v22,v23,v24,v25,rfl,hB,cD,cL⟩⟩
 ·refine Gm.cond (b:=true) (eval_tmp h25) rfl ?_
  refine Gm.seq ?_
  rw [bl2_eq]
  refine Gm.region ?_
  rw [show List.range opbl2.size=[0,1] by kernel_rfl]
  refine Gm.enter (o:=⟨some 26,.call { callee:=.value (.func 20),args:=#[],argTypes:=#[] },_,_,_,none⟩) (c:={ callee:=.value (.func 20),args:=#[],argTypes:=#[] }) rfl rfl rfl rfl (by kernel_rfl) Tryd.func20 body20_of (by kernel_rfl) ?_
  rw [fr20]
  refine flows_go E _ Arg W0 hArg _ _ _ _ _ (hg.old hO1) ?_
  intro WL FzL φL hOL
  rw [Fr_finish (o:=⟨some 26,.call { callee:=.value (.func 20),args:=#[],argTypes:=#[] },_,_,_,none⟩) rfl]
  refine Gm.op (o:=⟨some 6,.assign (.tmp 26),_,_,_,none⟩) (.bool true) WL rfl rfl (by kernel_rfl) rfl (asg_run _ (eval_tmp (by simp only [putD_get,putD_same,putD_size,hs,ne_eq,Nat.reduceEqDiff,not_false_eq_true,Nat.reduceLT]))) id ?_
  refine Gm.regionEnd ?_
  refine Gm.done Tryd.func7 (by kernel_rfl) (results7 (.bool true) _ (by simp only [putD_get,putD_same,putD_size,hs,ne_eq,Nat.reduceEqDiff,not_false_eq_true,Nat.reduceLT])) ?_
  exact fun ρ D own A fr W' h=>hPost _ ρ D own A fr _ W' h
 ·refine Gm.cond (b:=false) (eval_tmp h25) rfl ?_
  refine Gm.skip ?_
  clear hO1 hs h25
  have hj:=judge_law hlog
  have hcb:=log_ok hlog
  have hls:l.ops.length≤1000000000:=by have:=hcb.1.few;omega
  have hO:d.Ok:=ok_of_check (by
   have h:=hlog
   unfold logS at h
   split at h
   ·rename_i g;exact absurd h g
   ·rename_i g;exact Decidable.not_not.1 g)
  refine Gm.seq ?_
  rw [bl3_eq]
  refine Gm.region ?_
  rw [show List.range opbl3.size=[0,1,2,3,4,5,6,7,8,9] by kernel_rfl]
  refine Gm.op (o:=⟨some 28,.load 31 (.tmp 3),_,_,_,none⟩) (d.val r) W1 rfl rfl (by kernel_rfl) rfl (load31_run _ (eval_tmp rfl) (cD 0 _ rfl) (cD 1 _ rfl) (cD 2 _ rfl) (cD 3 _ rfl) (cD 4 _ rfl) (cD 5 _ rfl) (cD 6 _ rfl) (cD 7 _ rfl) (cD 8 _ rfl) (cD 9 _ rfl) (cD 10 _ rfl) (cD 11 _ rfl) (cD 12 _ rfl) (cD 13 _ rfl)) id ?_
  simp only [putD,List.setIfInBounds_toArray,List.set_cons_succ,List.set_cons_zero]
  refine Gm.op (o:=⟨some 29,.load 35 (.tmp 4),_,_,_,none⟩) (.agg #[num l.lo,num l.hi,.slice al l.ops.length cap]) W1 rfl rfl (by kernel_rfl) rfl (load35_run _ (eval_tmp rfl) (cL 0 _ rfl) (cL 1 _ rfl) (cL 2 _ rfl)) id ?_
  simp only [putD,List.setIfInBounds_toArray,List.set_cons_succ,List.set_cons_zero]
  refine Gm.enter (o:=⟨some 30,.call { callee:=.value (.func 31),args:=#[.tmp 28,.tmp 29],argTypes:=#[31,35] },_,_,_,none⟩) (c:={ callee:=.value (.func 31),args:=#[.tmp 28,.tmp 29],argTypes:=#[31,35] }) rfl rfl rfl rfl (by kernel_rfl) Tryd.func31 body31_of (by kernel_rfl) ?_
  dsimp only
  have hargs:∀ t:Array Value,t[28]?=some (d.val r)→t[29]?=some (.agg #[num l.lo,num l.hi,.slice al l.ops.length cap])→(#[Operand.tmp 28,Operand.tmp 29]).map (Fr 7 t []).eval=#[d.val r,.agg #[num l.lo,num l.hi,.slice al l.ops.length cap]]:=fun t h1 h2=>by simp only [List.map_toArray,List.map_cons,List.map_nil,eval_tmp h1,eval_tmp h2]
  rw [hargs _ rfl rfl,fr31]
  clear hargs
  refine blame_go E _ Arg W0 hArg _ _ _ _ W1 d r l (.slice al l.ops.length cap) (hd.old hO2) hsm (hg.old hO2) (hl.old hO2) (hkd.old hO2) hls ?_
  intro W7 Fz7 φ7 n ov xs f hO7 hv7 hR
  obtain⟨hf,hBO⟩:=blame_law hlog hR
  subst hf
  obtain⟨oa,oc,hov⟩:=hv7.cases
  rw [List.length_map] at hov
  subst hov
  rw [Fr_finish (o:=⟨some 30,.call { callee:=.value (.func 31),args:=#[.tmp 28,.tmp 29],argTypes:=#[31,35] },_,_,_,none⟩) rfl]
  simp only [putD,List.setIfInBounds_toArray,List.set_cons_succ,List.set_cons_zero]
  refine Gm.op (o:=⟨some 27,.move (.tmp 30),_,_,_,none⟩) (.tuple #[num n,.slice oa xs.length oc,num 0]) W7 rfl rfl (by kernel_rfl) rfl (mv_run _ (eval_tmp rfl)) id ?_
  simp only [putD,List.setIfInBounds_toArray,List.set_cons_succ,List.set_cons_zero]
  refine Gm.op (o:=⟨some 31,.extract (.tmp 27) 0,_,_,_,none⟩) (num n) W7 rfl rfl (by kernel_rfl) rfl (extract_run (vs:=#[num n,.slice oa xs.length oc,num 0]) _ (eval_tmp rfl) rfl) id ?_
  simp only [putD,List.setIfInBounds_toArray,List.set_cons_succ,List.set_cons_zero]
  refine Gm.op (o:=⟨some 32,.extract (.tmp 27) 1,_,_,_,none⟩) (.slice oa xs.length oc) W7 rfl rfl (by kernel_rfl) rfl (extract_run (vs:=#[num n,.slice oa xs.length oc,num 0]) _ (eval_tmp rfl) rfl) id ?_
  simp only [putD,List.setIfInBounds_toArray,List.set_cons_succ,List.set_cons_zero]
  refine Gm.op (o:=⟨some 33,.extract (.tmp 27) 2,_,_,_,none⟩) (num 0) W7 rfl rfl (by kernel_rfl) rfl (extract_run (vs:=#[num n,.slice oa xs.length oc,num 0]) _ (eval_tmp rfl) rfl) id ?_
  simp only [putD,List.setIfInBounds_toArray,List.set_cons_succ,List.set_cons_zero]
  refine Gm.op (o:=⟨some 7,.assign (.tmp 31),_,_,_,none⟩) (num n) W7 rfl rfl (by kernel_rfl) rfl (as_run _ (eval_tmp rfl)) id ?_
  simp only [putD,List.setIfInBounds_toArray,List.set_cons_succ,List.set_cons_zero]
  refine Gm.op (o:=⟨some 8,.assign (.tmp 32),_,_,_,none⟩) (.slice oa xs.length oc) W7 rfl rfl (by kernel_rfl) rfl (as_run _ (eval_tmp rfl)) id ?_
  simp only [putD,List.setIfInBounds_toArray,List.set_cons_succ,List.set_cons_zero]
  refine Gm.op (o:=⟨some 9,.assign (.tmp 33),_,_,_,none⟩) (num 0) W7 rfl rfl (by kernel_rfl) rfl (as_run _ (eval_tmp rfl)) id ?_
  simp only [putD,List.setIfInBounds_toArray,List.set_cons_succ,List.set_cons_zero]
  refine Gm.regionEnd ?_
  have hO17:=hO2.trans hO7
  have cD7:∀ i v,(d.cellsA r)[i]?=some v→W7.cell? ⟨B,i,none⟩=some v:=fun i v h=>(hO7.cell ⟨B,i,none⟩ (by show B<_;omega)).trans (cD i v h)
  have cL7:∀ i v,(#[num l.lo,num l.hi,.slice al l.ops.length cap]:Array Value)[i]?=some v→W7.cell? ⟨B+1,i,none⟩=some v:=fun i v h=>(hO7.cell ⟨B+1,i,none⟩ hB).trans (cL i v h)
  refine Gm.seq ?_
  rw [bl4_eq]
  refine Gm.region ?_
  rw [show List.range opbl4.size=[0,1,2,3,4,5,6,7] by kernel_rfl]
  refine Gm.op (o:=⟨some 35,.load 31 (.tmp 3),_,_,_,none⟩) (d.val r) W7 rfl rfl (by kernel_rfl) rfl (load31_run _ (eval_tmp rfl) (cD7 0 _ rfl) (cD7 1 _ rfl) (cD7 2 _ rfl) (cD7 3 _ rfl) (cD7 4 _ rfl) (cD7 5 _ rfl) (cD7 6 _ rfl) (cD7 7 _ rfl) (cD7 8 _ rfl) (cD7 9 _ rfl) (cD7 10 _ rfl) (cD7 11 _ rfl) (cD7 12 _ rfl) (cD7 13 _ rfl)) id ?_
  simp only [putD,List.setIfInBounds_toArray,List.set_cons_succ,List.set_cons_zero]
  refine Gm.op (o:=⟨some 36,.load 35 (.tmp 4),_,_,_,none⟩) (.agg #[num l.lo,num l.hi,.slice al l.ops.length cap]) W7 rfl rfl (by kernel_rfl) rfl (load35_run _ (eval_tmp rfl) (cL7 0 _ rfl) (cL7 1 _ rfl) (cL7 2 _ rfl)) id ?_
  simp only [putD,List.setIfInBounds_toArray,List.set_cons_succ,List.set_cons_zero]
  refine Gm.enter (o:=⟨some 37,.call { callee:=.value (.func 29),args:=#[.tmp 35,.tmp 36],argTypes:=#[31,35] },_,_,_,none⟩) (c:={ callee:=.value (.func 29),args:=#[.tmp 35,.tmp 36],argTypes:=#[31,35] }) rfl rfl rfl rfl (by kernel_rfl) Tryd.func29 body29_of (by kernel_rfl) ?_
  dsimp only
  have hargs:∀ t:Array Value,t[35]?=some (d.val r)→t[36]?=some (.agg #[num l.lo,num l.hi,.slice al l.ops.length cap])→(#[Operand.tmp 35,Operand.tmp 36]).map (Fr 7 t []).eval=#[d.val r,.agg #[num l.lo,num l.hi,.slice al l.ops.length cap]]:=fun t h1 h2=>by simp only [List.map_toArray,List.map_cons,List.map_nil,eval_tmp h1,eval_tmp h2]
  rw [hargs _ rfl rfl,fr29]
  clear hargs
  refine judge_go E _ Arg W0 hArg _ _ _ _ W7 d r l (.slice al l.ops.length cap) (hd.old hO17) hsm (hg.old hO17) (hl.old hO17) (hkd.old hO17) hls ?_
  intro W8 Fz8 φ8 bv hO8 hb8
  rw [hj.1]
  obtain⟨ba,bc,hbv⟩:=hb8.cases
  rw [List.length_map,hj.2.1] at hbv
  subst hbv
  rw [Fr_finish (o:=⟨some 37,.call { callee:=.value (.func 29),args:=#[.tmp 35,.tmp 36],argTypes:=#[31,35] },_,_,_,none⟩) rfl]
  simp only [putD,List.setIfInBounds_toArray,List.set_cons_succ,List.set_cons_zero]
  refine Gm.op (o:=⟨some 34,.move (.tmp 37),_,_,_,none⟩) (.tuple #[.slice ba l.ops.length bc,num 0]) W8 rfl rfl (by kernel_rfl) rfl (mv_run _ (eval_tmp rfl)) id ?_
  simp only [putD,List.setIfInBounds_toArray,List.set_cons_succ,List.set_cons_zero]
  refine Gm.op (o:=⟨some 38,.extract (.tmp 34) 0,_,_,_,none⟩) (.slice ba l.ops.length bc) W8 rfl rfl (by kernel_rfl) rfl (extract_run (vs:=#[.slice ba l.ops.length bc,num 0]) _ (eval_tmp rfl) rfl) id ?_
  simp only [putD,List.setIfInBounds_toArray,List.set_cons_succ,List.set_cons_zero]
  refine Gm.op (o:=⟨some 39,.extract (.tmp 34) 1,_,_,_,none⟩) (num 0) W8 rfl rfl (by kernel_rfl) rfl (extract_run (vs:=#[.slice ba l.ops.length bc,num 0]) _ (eval_tmp rfl) rfl) id ?_
  simp only [putD,List.setIfInBounds_toArray,List.set_cons_succ,List.set_cons_zero]
  refine Gm.op (o:=⟨some 10,.assign (.tmp 38),_,_,_,none⟩) (.slice ba l.ops.length bc) W8 rfl rfl (by kernel_rfl) rfl (as_run _ (eval_tmp rfl)) id ?_
  simp only [putD,List.setIfInBounds_toArray,List.set_cons_succ,List.set_cons_zero]
  refine Gm.op (o:=⟨some 11,.assign (.tmp 39),_,_,_,none⟩) (num 0) W8 rfl rfl (by kernel_rfl) rfl (as_run _ (eval_tmp rfl)) id ?_
  simp only [putD,List.setIfInBounds_toArray,List.set_cons_succ,List.set_cons_zero]
  refine Gm.regionEnd ?_
  have hO18:=hO17.trans hO8
  have hB7:=Nat.lt_of_lt_of_le hB hO7.size
  have hL:=fun {v0 v1 v5 v6 v12 v13 v14 v15 v16 v17 v18 v19 v20 v21 v22 v23 v24 v25 v26 v27 v28 v29 v30 v31 v32 v33 v34 v35 v36 v37 v38 v39:Value}=>blame_tail (v0:=v0) (v1:=v1) (v5:=v5) (v6:=v6) (v12:=v12) (v13:=v13) (v14:=v14) (v15:=v15) (v16:=v16) (v17:=v17) (v18:=v18) (v19:=v19) (v20:=v20) (v21:=v21) (v22:=v22) (v23:=v23) (v24:=v24) (v25:=v25) (v26:=v26) (v27:=v27) (v28:=v28) (v29:=v29) (v30:=v30) (v31:=v31) (v32:=v32) (v33:=v33) (v34:=v34) (v35:=v35) (v36:=v36) (v37:=v37) (v38:=v38) (v39:=v39) d r l al ba oa cap bc oc x n xs B W8 (hd.old hO18) hO hlog (hl.old hO18) hBO (hv7.old hO8) hb8 (fun i v h=>(hO8.cell ⟨B,i,none⟩ (by show B<_;omega)).trans (cD7 i v h)) (fun i v h=>(hO8.cell ⟨B+1,i,none⟩ hB7).trans (cL7 i v h)) (Nat.lt_of_lt_of_le hB7 hO8.size) hx
  clear cD cL cD7 cL7 hl hd hkd hb8 hv7
  refine Gm.seq ?_
  refine Gm.lone (F:=FG 7) _ rfl rfl rfl (List.mem_cons_self ..) (FG_ok 7 hgood) (by kernel_rfl) (by kernel_rfl) hL ?_
  clear hL
  intro t5 V5 hL
  refine Gm.seq ?_
  refine Gm.lone (F:=FG 7) _ rfl rfl rfl (List.mem_cons_self ..) (FG_ok 7 hgood) (by kernel_rfl) (by kernel_rfl) hL ?_
  clear hL
  intro t7 V7 hL
  refine Gm.seq ?_
  refine Gm.lone (F:=FG 7) _ rfl rfl rfl (List.mem_cons_self ..) (FG_ok 7 hgood) (by kernel_rfl) (by kernel_rfl) hL ?_
  clear hL
  intro t17 V17 hL
  refine Gm.seq ?_
  refine Gm.lone (F:=FG 7) _ rfl rfl rfl (List.mem_cons_self ..) (FG_ok 7 hgood) (by kernel_rfl) (by kernel_rfl) hL ?_
  clear hL
  rintro t W9 ⟨hO89,c,m,hcc,hm,hs,k16,k8,k15,k7⟩
  have hO9:=hO18.trans hO89
  have hnbd:=hBO.bd
  have hcb2:=hcb.2
  have hbest:=hBO.best c hcc.1 hcc.2
  rw [← hm] at hbest
  clear hm
  refine Gm.seq ?_
  rw [bl19_eq]
  refine Gm.region ?_
  rw [show List.range opbl19.size=[0,1,2,3,4,5,6,7,8,9,10,11,12,13,14,15,16,17,18,19] by kernel_rfl]
  rcases hbest with hgt0 | ⟨heq0,hnb⟩
  ·have hgt:decide ((m:Int) > (xs.length:Int))=true:=decide_eq_true (by omega)
   refine Gm.op (o:=⟨some 127,.move (.tmp 16),_,_,_,none⟩) (num m) W9 rfl rfl (by kernel_rfl) rfl (mvg_run _ (eval_tmp (by simp only [putD_get,putD_same,putD_size,hs,k16,k8,k15,k7,ne_eq,Nat.reduceEqDiff,not_false_eq_true,Nat.reduceLT]))) id ?_
   refine Gm.op (o:=⟨some 128,.move (.tmp 8),_,_,_,none⟩) (.slice oa xs.length oc) W9 rfl rfl (by kernel_rfl) rfl (mvg_run _ (eval_tmp (by simp only [putD_get,putD_same,putD_size,hs,k16,k8,k15,k7,ne_eq,Nat.reduceEqDiff,not_false_eq_true,Nat.reduceLT]))) id ?_
   refine Gm.op (o:=⟨some 129,.call { callee:=.builtin .len,args:=#[.tmp 128],argTypes:=#[64] },_,_,_,none⟩) (num xs.length) W9 rfl rfl (by kernel_rfl) rfl (lenS_run (a:=oa) (n:=xs.length) (k:=oc) _ Tryd.underlying64 (eval_tmp (by simp only [putD_get,putD_same,putD_size,hs,k16,k8,k15,k7,ne_eq,Nat.reduceEqDiff,not_false_eq_true,Nat.reduceLT]))) id ?_
   refine Gm.op (o:=⟨some 130,.binOp .gtr 3 (.tmp 127) (.tmp 129) 3,_,_,_,none⟩) (.bool true) W9 rfl rfl (by kernel_rfl) rfl (gtrR_run (n:=m) (m:=xs.length) _ (eval_tmp (by simp only [putD_get,putD_same,putD_size,hs,k16,k8,k15,k7,ne_eq,Nat.reduceEqDiff,not_false_eq_true,Nat.reduceLT])) (eval_tmp (by simp only [putD_get,putD_same,putD_size,hs,k16,k8,k15,k7,ne_eq,Nat.reduceEqDiff,not_false_eq_true,Nat.reduceLT])) hgt) id ?_
   refine Gm.op (o:=⟨some 131,.move (.tmp 130),_,_,_,none⟩) (.bool true) W9 rfl rfl (by kernel_rfl) rfl (mvg_run _ (eval_tmp (by simp only [putD_get,putD_same,putD_size,hs,k16,k8,k15,k7,ne_eq,Nat.reduceEqDiff,not_false_eq_true,Nat.reduceLT]))) id ?_
   refine Gm.pass (o:=⟨some 132,.move (.tmp 16),_,_,_,some (4,false)⟩) rfl (unwanted_guard (i:=4) (b:=false) (d:=131) rfl rfl (by simp only [putD_get,putD_same,putD_size,hs,k16,k8,k15,k7,Bool.not_false,Bool.not_true,ne_eq,Nat.reduceEqDiff,not_false_eq_true,Nat.reduceLT])) (by kernel_rfl) rfl ?_
   refine Gm.pass (o:=⟨some 133,.move (.tmp 8),_,_,_,some (4,false)⟩) rfl (unwanted_guard (i:=4) (b:=false) (d:=131) rfl rfl (by simp only [putD_get,putD_same,putD_size,hs,k16,k8,k15,k7,Bool.not_false,Bool.not_true,ne_eq,Nat.reduceEqDiff,not_false_eq_true,Nat.reduceLT])) (by kernel_rfl) rfl ?_
   refine Gm.pass (o:=⟨some 134,.call { callee:=.builtin .len,args:=#[.tmp 133],argTypes:=#[64] },_,_,_,some (4,false)⟩) rfl (unwanted_guard (i:=4) (b:=false) (d:=131) rfl rfl (by simp only [putD_get,putD_same,putD_size,hs,k16,k8,k15,k7,Bool.not_false,Bool.not_true,ne_eq,Nat.reduceEqDiff,not_false_eq_true,Nat.reduceLT])) (by kernel_rfl) rfl ?_
   refine Gm.pass (o:=⟨some 135,.binOp .eql 3 (.tmp 132) (.tmp 134) 3,_,_,_,some (4,false)⟩) rfl (unwanted_guard (i:=4) (b:=false) (d:=131) rfl rfl (by simp only [putD_get,putD_same,putD_size,hs,k16,k8,k15,k7,Bool.not_false,Bool.not_true,ne_eq,Nat.reduceEqDiff,not_false_eq_true,Nat.reduceLT])) (by kernel_rfl) rfl ?_
   refine Gm.pass (o:=⟨some 136,.move (.tmp 135),_,_,_,some (4,false)⟩) rfl (unwanted_guard (i:=4) (b:=false) (d:=131) rfl rfl (by simp only [putD_get,putD_same,putD_size,hs,k16,k8,k15,k7,Bool.not_false,Bool.not_true,ne_eq,Nat.reduceEqDiff,not_false_eq_true,Nat.reduceLT])) (by kernel_rfl) rfl ?_
   refine Gm.pass (o:=⟨some 137,.move (.tmp 15),_,_,_,some (9,true)⟩) rfl (unwanted_undef (i:=9) (b:=true) (d:=136) rfl rfl (by simp only [putD_get,putD_same,putD_size,hs,k16,k8,k15,k7,ne_eq,Nat.reduceEqDiff,not_false_eq_true,Nat.reduceLT])) (by kernel_rfl) rfl ?_
   refine Gm.pass (o:=⟨some 138,.move (.tmp 7),_,_,_,some (9,true)⟩) rfl (unwanted_undef (i:=9) (b:=true) (d:=136) rfl rfl (by simp only [putD_get,putD_same,putD_size,hs,k16,k8,k15,k7,ne_eq,Nat.reduceEqDiff,not_false_eq_true,Nat.reduceLT])) (by kernel_rfl) rfl ?_
   refine Gm.pass (o:=⟨some 139,.call { callee:=.value (.func 34),args:=#[.tmp 137,.tmp 138],argTypes:=#[3,3] },_,_,_,some (9,true)⟩) rfl (unwanted_undef (i:=9) (b:=true) (d:=136) rfl rfl (by simp only [putD_get,putD_same,putD_size,hs,k16,k8,k15,k7,ne_eq,Nat.reduceEqDiff,not_false_eq_true,Nat.reduceLT])) (by kernel_rfl) rfl ?_
   refine Gm.pass (o:=⟨some 140,.unOp .not 4 (.tmp 139),_,_,_,some (9,true)⟩) rfl (unwanted_undef (i:=9) (b:=true) (d:=136) rfl rfl (by simp only [putD_get,putD_same,putD_size,hs,k16,k8,k15,k7,ne_eq,Nat.reduceEqDiff,not_false_eq_true,Nat.reduceLT])) (by kernel_rfl) rfl ?_
   refine Gm.pass (o:=⟨some 141,.pick (.tmp 136) (.tmp 140) (.const (.bool false)),_,_,_,some (4,false)⟩) rfl (unwanted_guard (i:=4) (b:=false) (d:=131) rfl rfl (by simp only [putD_get,putD_same,putD_size,hs,k16,k8,k15,k7,Bool.not_false,Bool.not_true,ne_eq,Nat.reduceEqDiff,not_false_eq_true,Nat.reduceLT])) (by kernel_rfl) rfl ?_
   refine Gm.op (o:=⟨some 142,.pick (.tmp 131) (.const (.bool true)) (.tmp 141),_,_,_,none⟩) (.bool true) W9 rfl rfl (by kernel_rfl) rfl (pickT_run _ (eval_tmp (by simp only [putD_get,putD_same,putD_size,hs,k16,k8,k15,k7,ne_eq,Nat.reduceEqDiff,not_false_eq_true,Nat.reduceLT])) rfl) id ?_
   refine Gm.op (o:=⟨some 143,.move (.tmp 142),_,_,_,none⟩) (.bool true) W9 rfl rfl (by kernel_rfl) rfl (mvg_run _ (eval_tmp (by simp only [putD_get,putD_same,putD_size,hs,k16,k8,k15,k7,ne_eq,Nat.reduceEqDiff,not_false_eq_true,Nat.reduceLT]))) id ?_
   refine Gm.enter (o:=⟨some 144,.call { callee:=.value (.func 20),args:=#[],argTypes:=#[] },_,_,_,some (16,true)⟩) (c:={ callee:=.value (.func 20),args:=#[],argTypes:=#[] }) rfl (wanted_guard (i:=16) (b:=true) (d:=143) rfl rfl (by simp only [putD_get,putD_same,putD_size,hs,k16,k8,k15,k7,ne_eq,Nat.reduceEqDiff,not_false_eq_true,Nat.reduceLT])) rfl rfl (by kernel_rfl) Tryd.func20 body20_of (by kernel_rfl) ?_
   rw [fr20]
   refine flows_go E _ Arg W0 hArg _ _ _ _ _ (hg.old hO9) ?_
   intro WL FzL φL hOL
   rw [Fr_finish (o:=⟨some 144,.call { callee:=.value (.func 20),args:=#[],argTypes:=#[] },_,_,_,some (16,true)⟩) rfl]
   refine Gm.op (o:=⟨some 145,.pick (.tmp 143) (.tmp 144) (.const (.bool false)),_,_,_,none⟩) (.bool true) WL rfl rfl (by kernel_rfl) rfl (pick_run _ (eval_tmp (by simp only [putD_get,putD_same,putD_size,hs,k16,k8,k15,k7,ne_eq,Nat.reduceEqDiff,not_false_eq_true,Nat.reduceLT])) (eval_tmp (by simp only [putD_get,putD_same,putD_size,hs,k16,k8,k15,k7,ne_eq,Nat.reduceEqDiff,not_false_eq_true,Nat.reduceLT]))) id ?_
   refine Gm.op (o:=⟨some 6,.assign (.tmp 145),_,_,_,none⟩) (.bool true) WL rfl rfl (by kernel_rfl) rfl (asg_run _ (eval_tmp (by simp only [putD_get,putD_same,putD_size,hs,k16,k8,k15,k7,ne_eq,Nat.reduceEqDiff,not_false_eq_true,Nat.reduceLT]))) id ?_
   refine Gm.regionEnd ?_
   refine Gm.done Tryd.func7 (by kernel_rfl) (results7 (.bool true) _ (by simp only [putD_get,putD_same,putD_size,hs,k16,k8,k15,k7,ne_eq,Nat.reduceEqDiff,not_false_eq_true,Nat.reduceLT])) ?_
   exact fun ρ D own A fr W' h=>hPost _ ρ D own A fr _ W' h
  ·have hgt:decide ((m:Int) > (xs.length:Int))=false:=decide_eq_false (by omega)
   have heq:(m:Int)=(xs.length:Int):=by omega
   refine Gm.op (o:=⟨some 127,.move (.tmp 16),_,_,_,none⟩) (num m) W9 rfl rfl (by kernel_rfl) rfl (mvg_run _ (eval_tmp (by simp only [putD_get,putD_same,putD_size,hs,k16,k8,k15,k7,ne_eq,Nat.reduceEqDiff,not_false_eq_true,Nat.reduceLT]))) id ?_
   refine Gm.op (o:=⟨some 128,.move (.tmp 8),_,_,_,none⟩) (.slice oa xs.length oc) W9 rfl rfl (by kernel_rfl) rfl (mvg_run _ (eval_tmp (by simp only [putD_get,putD_same,putD_size,hs,k16,k8,k15,k7,ne_eq,Nat.reduceEqDiff,not_false_eq_true,Nat.reduceLT]))) id ?_
   refine Gm.op (o:=⟨some 129,.call { callee:=.builtin .len,args:=#[.tmp 128],argTypes:=#[64] },_,_,_,none⟩) (num xs.length) W9 rfl rfl (by kernel_rfl) rfl (lenS_run (a:=oa) (n:=xs.length) (k:=oc) _ Tryd.underlying64 (eval_tmp (by simp only [putD_get,putD_same,putD_size,hs,k16,k8,k15,k7,ne_eq,Nat.reduceEqDiff,not_false_eq_true,Nat.reduceLT]))) id ?_
   refine Gm.op (o:=⟨some 130,.binOp .gtr 3 (.tmp 127) (.tmp 129) 3,_,_,_,none⟩) (.bool false) W9 rfl rfl (by kernel_rfl) rfl (gtrR_run (n:=m) (m:=xs.length) _ (eval_tmp (by simp only [putD_get,putD_same,putD_size,hs,k16,k8,k15,k7,ne_eq,Nat.reduceEqDiff,not_false_eq_true,Nat.reduceLT])) (eval_tmp (by simp only [putD_get,putD_same,putD_size,hs,k16,k8,k15,k7,ne_eq,Nat.reduceEqDiff,not_false_eq_true,Nat.reduceLT])) hgt) id ?_
   refine Gm.op (o:=⟨some 131,.move (.tmp 130),_,_,_,none⟩) (.bool false) W9 rfl rfl (by kernel_rfl) rfl (mvg_run _ (eval_tmp (by simp only [putD_get,putD_same,putD_size,hs,k16,k8,k15,k7,ne_eq,Nat.reduceEqDiff,not_false_eq_true,Nat.reduceLT]))) id ?_
   refine Gm.op (o:=⟨some 132,.move (.tmp 16),_,_,_,some (4,false)⟩) (num m) W9 rfl (wanted_guard (i:=4) (b:=false) (d:=131) rfl rfl (by simp only [putD_get,putD_same,putD_size,hs,k16,k8,k15,k7,ne_eq,Nat.reduceEqDiff,not_false_eq_true,Nat.reduceLT])) (by kernel_rfl) rfl (mvg_run _ (eval_tmp (by simp only [putD_get,putD_same,putD_size,hs,k16,k8,k15,k7,ne_eq,Nat.reduceEqDiff,not_false_eq_true,Nat.reduceLT]))) id ?_
   refine Gm.op (o:=⟨some 133,.move (.tmp 8),_,_,_,some (4,false)⟩) (.slice oa xs.length oc) W9 rfl (wanted_guard (i:=4) (b:=false) (d:=131) rfl rfl (by simp only [putD_get,putD_same,putD_size,hs,k16,k8,k15,k7,ne_eq,Nat.reduceEqDiff,not_false_eq_true,Nat.reduceLT])) (by kernel_rfl) rfl (mvg_run _ (eval_tmp (by simp only [putD_get,putD_same,putD_size,hs,k16,k8,k15,k7,ne_eq,Nat.reduceEqDiff,not_false_eq_true,Nat.reduceLT]))) id ?_
   refine Gm.op (o:=⟨some 134,.call { callee:=.builtin .len,args:=#[.tmp 133],argTypes:=#[64] },_,_,_,some (4,false)⟩) (num xs.length) W9 rfl (wanted_guard (i:=4) (b:=false) (d:=131) rfl rfl (by simp only [putD_get,putD_same,putD_size,hs,k16,k8,k15,k7,ne_eq,Nat.reduceEqDiff,not_false_eq_true,Nat.reduceLT])) (by kernel_rfl) rfl (lenS_run (a:=oa) (n:=xs.length) (k:=oc) _ Tryd.underlying64 (eval_tmp (by simp only [putD_get,putD_same,putD_size,hs,k16,k8,k15,k7,ne_eq,Nat.reduceEqDiff,not_false_eq_true,Nat.reduceLT]))) id ?_
   refine Gm.op (o:=⟨some 135,.binOp .eql 3 (.tmp 132) (.tmp 134) 3,_,_,_,some (4,false)⟩) (.bool true) W9 rfl (wanted_guard (i:=4) (b:=false) (d:=131) rfl rfl (by simp only [putD_get,putD_same,putD_size,hs,k16,k8,k15,k7,ne_eq,Nat.reduceEqDiff,not_false_eq_true,Nat.reduceLT])) (by kernel_rfl) rfl (eqR3_run (n:=m) (m:=xs.length) _ (eval_tmp (by simp only [putD_get,putD_same,putD_size,hs,k16,k8,k15,k7,ne_eq,Nat.reduceEqDiff,not_false_eq_true,Nat.reduceLT])) (eval_tmp (by simp only [putD_get,putD_same,putD_size,hs,k16,k8,k15,k7,ne_eq,Nat.reduceEqDiff,not_false_eq_true,Nat.reduceLT])) heq) id ?_
   refine Gm.op (o:=⟨some 136,.move (.tmp 135),_,_,_,some (4,false)⟩) (.bool true) W9 rfl (wanted_guard (i:=4) (b:=false) (d:=131) rfl rfl (by simp only [putD_get,putD_same,putD_size,hs,k16,k8,k15,k7,ne_eq,Nat.reduceEqDiff,not_false_eq_true,Nat.reduceLT])) (by kernel_rfl) rfl (mvg_run _ (eval_tmp (by simp only [putD_get,putD_same,putD_size,hs,k16,k8,k15,k7,ne_eq,Nat.reduceEqDiff,not_false_eq_true,Nat.reduceLT]))) id ?_
   refine Gm.op (o:=⟨some 137,.move (.tmp 15),_,_,_,some (9,true)⟩) (num c) W9 rfl (wanted_guard (i:=9) (b:=true) (d:=136) rfl rfl (by simp only [putD_get,putD_same,putD_size,hs,k16,k8,k15,k7,ne_eq,Nat.reduceEqDiff,not_false_eq_true,Nat.reduceLT])) (by kernel_rfl) rfl (mvg_run _ (eval_tmp (by simp only [putD_get,putD_same,putD_size,hs,k16,k8,k15,k7,ne_eq,Nat.reduceEqDiff,not_false_eq_true,Nat.reduceLT]))) id ?_
   refine Gm.op (o:=⟨some 138,.move (.tmp 7),_,_,_,some (9,true)⟩) (num n) W9 rfl (wanted_guard (i:=9) (b:=true) (d:=136) rfl rfl (by simp only [putD_get,putD_same,putD_size,hs,k16,k8,k15,k7,ne_eq,Nat.reduceEqDiff,not_false_eq_true,Nat.reduceLT])) (by kernel_rfl) rfl (mvg_run _ (eval_tmp (by simp only [putD_get,putD_same,putD_size,hs,k16,k8,k15,k7,ne_eq,Nat.reduceEqDiff,not_false_eq_true,Nat.reduceLT]))) id ?_
   refine Gm.enter (o:=⟨some 139,.call { callee:=.value (.func 34),args:=#[.tmp 137,.tmp 138],argTypes:=#[3,3] },_,_,_,some (9,true)⟩) (c:={ callee:=.value (.func 34),args:=#[.tmp 137,.tmp 138],argTypes:=#[3,3] }) rfl (wanted_guard (i:=9) (b:=true) (d:=136) rfl rfl (by simp only [putD_get,putD_same,putD_size,hs,k16,k8,k15,k7,ne_eq,Nat.reduceEqDiff,not_false_eq_true,Nat.reduceLT])) rfl rfl (by kernel_rfl) Tryd.func34 body34_of (by kernel_rfl) ?_
   have hargs:∀ t:Array Value,t[137]?=some (num c)→t[138]?=some (num n)→(#[Operand.tmp 137,Operand.tmp 138]).map (Fr 7 t []).eval=#[num c,num n]:=fun t h1 h2=>by simp only [List.map_toArray,List.map_cons,List.map_nil,eval_tmp h1,eval_tmp h2]
   dsimp only
   rw [hargs _ (by simp only [putD_get,putD_same,putD_size,hs,k16,k8,k15,k7,ne_eq,Nat.reduceEqDiff,not_false_eq_true,Nat.reduceLT]) (by simp only [putD_get,putD_same,putD_size,hs,k16,k8,k15,k7,ne_eq,Nat.reduceEqDiff,not_false_eq_true,Nat.reduceLT]),fr34]
   clear hargs
   refine nearer_go E _ Arg W0 _ _ _ _ _ c n (by omega) (by omega) ?_
   intro W10 hO10
   rw [hnb]
   rw [Fr_finish (o:=⟨some 139,.call { callee:=.value (.func 34),args:=#[.tmp 137,.tmp 138],argTypes:=#[3,3] },_,_,_,some (9,true)⟩) rfl]
   refine Gm.op (o:=⟨some 140,.unOp .not 4 (.tmp 139),_,_,_,some (9,true)⟩) (.bool true) W10 rfl (wanted_guard (i:=9) (b:=true) (d:=136) rfl rfl (by simp only [putD_get,putD_same,putD_size,hs,k16,k8,k15,k7,ne_eq,Nat.reduceEqDiff,not_false_eq_true,Nat.reduceLT])) (by kernel_rfl) rfl (notR_run (b:=false) _ (eval_tmp (by simp only [putD_get,putD_same,putD_size,hs,k16,k8,k15,k7,ne_eq,Nat.reduceEqDiff,not_false_eq_true,Nat.reduceLT]))) id ?_
   refine Gm.op (o:=⟨some 141,.pick (.tmp 136) (.tmp 140) (.const (.bool false)),_,_,_,some (4,false)⟩) (.bool true) W10 rfl (wanted_guard (i:=4) (b:=false) (d:=131) rfl rfl (by simp only [putD_get,putD_same,putD_size,hs,k16,k8,k15,k7,ne_eq,Nat.reduceEqDiff,not_false_eq_true,Nat.reduceLT])) (by kernel_rfl) rfl (pick_run _ (eval_tmp (by simp only [putD_get,putD_same,putD_size,hs,k16,k8,k15,k7,ne_eq,Nat.reduceEqDiff,not_false_eq_true,Nat.reduceLT])) (eval_tmp (by simp only [putD_get,putD_same,putD_size,hs,k16,k8,k15,k7,ne_eq,Nat.reduceEqDiff,not_false_eq_true,Nat.reduceLT]))) id ?_
   refine Gm.op (o:=⟨some 142,.pick (.tmp 131) (.const (.bool true)) (.tmp 141),_,_,_,none⟩) (.bool true) W10 rfl rfl (by kernel_rfl) rfl (pickF_run _ (eval_tmp (by simp only [putD_get,putD_same,putD_size,hs,k16,k8,k15,k7,ne_eq,Nat.reduceEqDiff,not_false_eq_true,Nat.reduceLT])) (eval_tmp (by simp only [putD_get,putD_same,putD_size,hs,k16,k8,k15,k7,ne_eq,Nat.reduceEqDiff,not_false_eq_true,Nat.reduceLT]))) id ?_
   refine Gm.op (o:=⟨some 143,.move (.tmp 142),_,_,_,none⟩) (.bool true) W10 rfl rfl (by kernel_rfl) rfl (mvg_run _ (eval_tmp (by simp only [putD_get,putD_same,putD_size,hs,k16,k8,k15,k7,ne_eq,Nat.reduceEqDiff,not_false_eq_true,Nat.reduceLT]))) id ?_
   refine Gm.enter (o:=⟨some 144,.call { callee:=.value (.func 20),args:=#[],argTypes:=#[] },_,_,_,some (16,true)⟩) (c:={ callee:=.value (.func 20),args:=#[],argTypes:=#[] }) rfl (wanted_guard (i:=16) (b:=true) (d:=143) rfl rfl (by simp only [putD_get,putD_same,putD_size,hs,k16,k8,k15,k7,ne_eq,Nat.reduceEqDiff,not_false_eq_true,Nat.reduceLT])) rfl rfl (by kernel_rfl) Tryd.func20 body20_of (by kernel_rfl) ?_
   rw [fr20]
   refine flows_go E _ Arg W0 hArg _ _ _ _ _ (hg.old (hO9.trans hO10)) ?_
   intro WL FzL φL hOL
   rw [Fr_finish (o:=⟨some 144,.call { callee:=.value (.func 20),args:=#[],argTypes:=#[] },_,_,_,some (16,true)⟩) rfl]
   refine Gm.op (o:=⟨some 145,.pick (.tmp 143) (.tmp 144) (.const (.bool false)),_,_,_,none⟩) (.bool true) WL rfl rfl (by kernel_rfl) rfl (pick_run _ (eval_tmp (by simp only [putD_get,putD_same,putD_size,hs,k16,k8,k15,k7,ne_eq,Nat.reduceEqDiff,not_false_eq_true,Nat.reduceLT])) (eval_tmp (by simp only [putD_get,putD_same,putD_size,hs,k16,k8,k15,k7,ne_eq,Nat.reduceEqDiff,not_false_eq_true,Nat.reduceLT]))) id ?_
   refine Gm.op (o:=⟨some 6,.assign (.tmp 145),_,_,_,none⟩) (.bool true) WL rfl rfl (by kernel_rfl) rfl (asg_run _ (eval_tmp (by simp only [putD_get,putD_same,putD_size,hs,k16,k8,k15,k7,ne_eq,Nat.reduceEqDiff,not_false_eq_true,Nat.reduceLT]))) id ?_
   refine Gm.regionEnd ?_
   refine Gm.done Tryd.func7 (by kernel_rfl) (results7 (.bool true) _ (by simp only [putD_get,putD_same,putD_size,hs,k16,k8,k15,k7,ne_eq,Nat.reduceEqDiff,not_false_eq_true,Nat.reduceLT])) ?_
   exact fun ρ D own A fr W' h=>hPost _ ρ D own A fr _ W' h
end Go.Proofs.YtolholkjeehamaaDoor

namespace Go.Proofs.YtolholkjeehamaaDoor
open Go.RowKit Go.Con Go.Conc Go.ChangeShapes Go.WideShapes Go.ChangeAt
local instance:Lone:=mainL
theorem fr7 (a0 a1 a2:Value):#[a0,a1,a2]++Array.replicate (Tryd.f7.ntmps-(#[a0,a1,a2]:Array Value).size) undef=#[a0,a1,a2,undef,undef,undef,undef,undef,undef,undef,undef,undef,undef,undef,undef,undef,undef,undef,undef,undef,undef,undef,undef,undef,undef,undef,undef,undef,undef,undef,undef,undef,undef,undef,undef,undef,undef,undef,undef,undef,undef,undef,undef,undef,undef,undef,undef,undef,undef,undef,undef,undef,undef,undef,undef,undef,undef,undef,undef,undef,undef,undef,undef,undef,undef,undef,undef,undef,undef,undef,undef,undef,undef,undef,undef,undef,undef,undef,undef,undef,undef,undef,undef,undef,undef,undef,undef,undef,undef,undef,undef,undef,undef,undef,undef,undef,undef,undef,undef,undef,undef,undef,undef,undef,undef,undef,undef,undef,undef,undef,undef,undef,undef,undef,undef,undef,undef,undef,undef,undef,undef,undef,undef,undef,undef,undef,undef,undef,undef,undef,undef,undef,undef,undef,undef,undef,undef,undef,undef,undef,undef,undef,undef,undef,undef,undef]:=by
 simp only [Tryd.ntmps7,List.size_toArray,List.length_cons,List.length_nil,Nat.reduceAdd,Nat.reduceSub,Array.replicate_succ,Array.replicate_zero,List.push_toArray,List.append_toArray,List.nil_append,List.cons_append]
theorem tblame_fin (d:Dit) (r:Rows6) (l:Lg) (al:Option Addr) (cap:Nat) (x2:Int) (W:World) (hd:DitSl W d r) (hb:d.Big) (hg:Glob W) (hl:(Sl W (.slice al l.ops.length cap) 3 (l.ops.map three))) (hkd:(Kind W (.slice al l.ops.length cap))) (hlb:(l.ops.length≤281474976710656)) (hx2:(0≤x2∧x2≤255)) :
  Con.Fin Tryd.prog (fun u W'=>u=.bool true∧Con.Left W W') (solo (G (Frame.enter Tryd.prog 7 #[d.val r,.agg #[num l.lo,num l.hi,.slice al l.ops.length cap],.int .u8 x2] .normal) []) W) #[]:=by
 refine law_fin Tryd.func7 lawB7_of hg (fun v hv=>?_) fun c Post hPost=>?_
 ·simp only [List.mem_cons,List.not_mem_nil,or_false] at hv
  rcases hv with rfl | rfl | rfl
  ·exact hd.same
  ·exact Same.agg fun v hv=>by (simp only [List.mem_cons,List.not_mem_nil,or_false] at hv;rcases hv with rfl | rfl | rfl;exact Same.num _;exact Same.num _;exact Same.slice ⟨_,_,_,rfl⟩ hkd)
  ·exact⟨fun c=>by simp [ren],by simp [ren]⟩
 ·rw [fr7]
  exact tblame_go _ _ _ _ (fun _=>Iff.rfl) Post _ d r l al cap x2 _ hd.entry hb hg.entry (hl.entry (by intro l hl x hx;obtain⟨z,_,rfl⟩:=List.mem_map.1 hl;simp only [three,List.mem_cons,List.not_mem_nil,or_false] at hx;rcases hx with rfl | rfl | rfl<;>exact inv_num _)) hlb hx2 hkd.entry hPost
theorem tblame_lifted (os:Os) (started:os.Started) (H:Type) (enc:TypeId×Value→H) :
  ReturnsInLeavingWide {} Tryd.checked os 7 .any (fun w args=>(Rows.turnBlameSpec.pre enc Tryd.prog Tryd.f7 [] false w args∧laidMetH Tryd.prog laid2 w)∧sizedMet enc Tryd.prog Tryd.f7 (OpenSpec.ofChange Rows.turnBlameSpec) false w args)
   (Rows.turnBlameSpec.post enc Tryd.prog Tryd.f7 false true false false):=by
 refine returnsInLeavingWide_and (C:=Tryd.checked) (X:=fun w _=>laidMetH Tryd.prog laid2 w) (fun _ _ _ hh h=>h.of_heap hh) own_knob started Tryd.func7
  (ChangeSpec.witness_shaped (enc:=enc) (C:=Tryd.checked) (os:=os) (X:=fun w _=>laidMetH Tryd.prog laid2 w) false (World.doorLaid Tryd.prog 600 os)
   #[.agg #[.slice none 0 0,.slice none 0 0,.int .i64 0,.int .i64 0,.int .i64 0,.int .i64 0,.slice none 0 0,.slice none 0 0,.slice none 0 0,.int .i64 0,.int .i64 0,.int .i64 0,.int .i64 0,.slice none 0 0],.agg #[.int .i64 0,.int .i64 0,.slice none 0 0],.int .u8 0] 8 rfl (World.shaped_of_RefB (by kernel_rfl) (by kernel_rfl)) (by kernel_rfl) (by kernel_rfl) (by kernel_rfl) (door_met os _)) ?_
 intro W base args ds gs before hval0 hW _ hsz hL
 have hval:∀ (j:Nat) t v,Tryd.f7.params[j]?=some t→args[j]?=some v→Value.okWide Tryd.prog W .any base t v:=hval0
 have hW':=hW
 obtain⟨p,q,hA0,hV,rfl,hfz,hnd⟩:=hW
 have hA:DataW.TrodAll enc Tryd.prog W 0 (fun _=>true) true Tryd.f7.params.toList args.toList ds p:=hA0
 rw [Tryd.params7] at hA hval
 obtain⟨v0,v1,v2,d0,d1,d2,p0,p1,p2,rfl,rfl,rfl,h0,h1,h2⟩:=trodAll_three hA
 obtain⟨rfl,rfl⟩:=trodVars_none hV
 have hfit1:Fits 35 d1:=fun n hn=>by
  have:=List.all_eq_true.1 hsz n (DataW.weights_mem_each (P:=Tryd.prog) (j:=1) (t:=35) (d:=d1) (by rw [show Tryd.checked.prog=Tryd.prog from rfl,Tryd.params7];rfl) rfl n hn)
  simpa using this
 obtain⟨l,al,cap,rfl,hl,hkd,hlb⟩:=log_open (hval 1 35 v1 rfl rfl) h1 hfit1
 obtain⟨x2,rfl,rfl,rfl,w2⟩:=open_int Tryd.underlying5 (hval 2 5 v2 rfl rfl) h2
 have hx2:0≤x2∧x2≤255:=by
  have h:=w2
  simp only [Lit.wf,Bool.and_eq_true,decide_eq_true_eq] at h
  exact h
 have hfit:Fits 31 d0:=fun n hn=>by
  have:=List.all_eq_true.1 hsz n (DataW.weights_mem_each (P:=Tryd.prog) (j:=0) (t:=31) (d:=d0) (by rw [show Tryd.checked.prog=Tryd.prog from rfl,Tryd.params7];rfl) rfl n hn)
  simpa using this
 obtain⟨d,r,rfl,hd,hb⟩:=dit_open (hval 0 31 v0 rfl rfl) h0 hfit
 clear hA0 hval0
 try simp only [List.append_nil] at hW'
 have hlt:=fun x hx=>hW'.lt x hx
 try simp only [Array.size_empty,Nat.add_zero] at hlt
 refine fin_post (tblame_fin d r l al cap x2 W hd hb (of_laid hL) hl hkd hlb hx2) fun W' hl=>?_
 have ha:=trodAll_mk3 (left_trod (by kernel_rfl) (of_decide_eq_true (by kernel_rfl)) h0 hl fun x hx=>hlt x (by simp [hx])) (left_trod (by kernel_rfl) (of_decide_eq_true (by kernel_rfl)) h1 hl fun x hx=>hlt x (by simp [hx])) (shut_int Tryd.underlying5 w2)
 try simp only [List.append_nil] at ha
 exact⟨[d0,d1,.lit (.int .u8 x2)],[],_,[],_,[],hW',trodAll_mk1 (shut_bool Tryd.underlying4 _),ha,rfl,left_kept hl _,fun h=>by cases h⟩
theorem tblame_holds:Rows.TurnBlameSaid :=
 OpenClaim.holds_of_wide_leaving 7 Tryd.f7 rfl rfl rfl rfl rfl rfl rfl ⟨rfl,rfl,rfl,rfl,rfl⟩ rfl rfl rfl rfl rfl (by kernel_rfl) Tryd.func7 (by kernel_rfl)
  (of_decide_eq_true (by kernel_rfl)) (by unfold Func.isWrapper;first | (rw [if_pos (by decide +kernel)];kernel_rfl) | (rw [if_neg (by decide +kernel)];exact⟨rfl,rfl⟩))
  (fun os started H enc _=>tblame_lifted os started H enc)
theorem tblame_card:Rows.TurnBlameCardSaid :=
 tied_plain_goes .later [] [.funcs,.data] true (true,"13bbfa5877394a3cde13138796d6bb679173f8167c87f9ccc98cd9f3e99a425f") false true
  tblame_holds (fun _ h=>by cases h) (by kernel_rfl) (fun _ h=>by cases h) turnBlame_row_tie rfl ⟨rfl,rfl⟩ (by kernel_rfl) rfl
  (fun f fn hf hfn=>by
   obtain rfl:f=7:=Option.some.inj ((show Tryd.prog.funcNamed "crocus/crocuslaw02.TurnBlame" = some 7 by kernel_rfl).symm.trans hf) |>.symm
   obtain rfl:fn=Tryd.f7:=(Option.some.inj (Tryd.func7.symm.trans hfn)).symm
   exact⟨by kernel_rfl,fun j t ht=>by
    rw [Tryd.params7] at ht
    have hm:t∈[31,35,5]:=by simpa using Array.mem_of_getElem? ht
    have hall:([31,35,5].all fun u=>!Tryd.prog.wantsStandIn u)=true:=by kernel_rfl
    exact (show Tryd.prog.wantsStandIn t=false by simpa using List.all_eq_true.1 hall t hm)⟩)
  (by kernel_rfl)
#print axioms tblame_card
end Go.Proofs.YtolholkjeehamaaDoor

