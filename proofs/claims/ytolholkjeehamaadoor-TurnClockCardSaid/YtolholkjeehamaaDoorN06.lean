/- For every ditch, any log and any byte the law TurnClock returns true, does not panic, and leaves the ditch and the log as they were. Conditions: the package's variables hold what the program lays in them at its start (the statement's own word: laid), and the arguments are values as the statement's card tells them. -/
import Derived.Test.YtolholkjeehamaaDoorK1
import Derived.Test.YtolholkjeehamaaDoorC40
import Derived.Test.YtolholkjeehamaaDoorC39
import Derived.Test.YtolholkjeehamaaDoorC34
import Derived.Test.YtolholkjeehamaaDoorC09
set_option linter.all false
set_option maxRecDepth 100000
set_option maxHeartbeats 4000000
namespace Go.Proofs.YtolholkjeehamaaDoor
end Go.Proofs.YtolholkjeehamaaDoor
namespace Go.Proofs.YtolholkjeehamaaDoor
open Go.RowKit
end Go.Proofs.YtolholkjeehamaaDoor

namespace Go.Proofs.YtolholkjeehamaaDoor
theorem own_eq {d:Dit} (hc:checkS d=0) {n:Int} (hn:0≤n∧n≤999999999):ownerF d n=(d.owner n,0):=by
 unfold ownerF;rw [if_neg (by simp [hc]),if_neg (by simp;omega)]
end Go.Proofs.YtolholkjeehamaaDoor

namespace Go.Proofs.YtolholkjeehamaaDoor
open Go.RowKit
def outI (d:Dit) (l:Lg) (n:Int) (i:Nat):Bool:=match l.ops[i]? with | some o=>d.out o.1 o.2.1 o.2.2 n | none=>false
theorem cntI_eq (d:Dit) (l:Lg) (n:Int) (i:Nat):∀ k,cntI (outL d l n k) i=if i<k∧outI d l n i=true then 1 else 0
 | 0=>by simp [outL,cntI]
 | k+1=>by
  have ih:=cntI_eq d l n i k
  have hc:cntI (outL d l n (k+1)) i=cntI (outL d l n k) i+(if outI d l n k=true∧i=k then 1 else 0):=by
   have e:outL d l n (k+1)=outL d l n k++(match l.ops[k]? with | some o=>if d.out o.1 o.2.1 o.2.2 n then [(k:Int)] else [] | none=>[]):=rfl
   rw [e]
   unfold cntI outI
   rw [List.count_append]
   cases l.ops[k]? with
   | none=>simp
   | some o =>
    dsimp only
    by_cases ho:d.out o.1 o.2.1 o.2.2 n=true
    ·rw [if_pos ho,List.count_singleton]
     by_cases hik:i=k
     ·subst hik;simp [ho]
     ·have:((k:Int) == (i:Int))=false:=by simp;omega
      simp [this,hik]
    ·rw [if_neg ho]
     simp [ho]
  rw [hc,ih]
  by_cases hik:i=k
  ·subst hik
   simp
  ·have e1:(i<k+1∧outI d l n i=true)↔(i<k∧outI d l n i=true):=by
    constructor<;>rintro ⟨a,b⟩<;>exact⟨by omega,b⟩
   rw [if_neg (show ¬ (outI d l n k=true∧i=k) from fun h=>hik h.2),Int.add_zero]
   simp only [e1]
theorem manyF_all (d:Dit) (l:Lg) (i:Nat):∀ L:List Nat,(manyF d l L i=L.length↔∀ k∈L,cntI (outL d l (l.lo+k) l.ops.length) i=1)∧(manyF d l L i=0↔∀ k∈L,cntI (outL d l (l.lo+k) l.ops.length) i=0)
 | []=>by simp [manyF]
 | k :: L=>by
  obtain⟨h1,h2⟩:=manyF_all d l i L
  have h3:=manyF_bd d l i L
  have h4:=cntI_bd d l (l.lo+k) i l.ops.length
  have h5:0≤cntI (outL d l (l.lo+k) l.ops.length) i∧cntI (outL d l (l.lo+k) l.ops.length) i≤1:=by split at h4<;>omega
  simp only [manyF,List.length_cons,List.forall_mem_cons,← h1,← h2]
  constructor<;>omega
theorem kks_in:∀ (n k:Nat),k∈kks n↔k<n
 | 0,k=>by simp [kks]
 | n+1,k=>by simp [kks,kks_in n k];omega
theorem belL_get (all:Int) (f:Nat→Int):∀ (k i:Nat),i<k→(belL all f k)[i]?=some (belS all (f i))
 | k+1,i,h=>by
  have hl:=belL_len all f k
  unfold belL
  by_cases e:i=k
  ·subst e
   rw [List.getElem?_append_right (by omega),hl]
   simp
  ·rw [List.getElem?_append_left (by omega)]
   exact belL_get all f k i (by omega)
structure BelOk (d:Dit) (l:Lg) (o:Int×Int×Int) (b:Int):Prop where
 one:b=0∨b=1∨b=2
 sure:b=1↔∀ c,l.lo≤c→c≤l.hi→d.out o.1 o.2.1 o.2.2 c=true
 never:b=2↔∀ c,l.lo≤c→c≤l.hi→d.out o.1 o.2.1 o.2.2 c=false
theorem judge_law {d:Dit} {l:Lg} (h:logS d l=0):(judgeF d l).2=0∧(judgeF d l).1.length=l.ops.length∧∀ (i:Nat) o,l.ops[i]?=some o→∃ b,(judgeF d l).1[i]?=some b∧BelOk d l o b:=by
 obtain⟨hL,hcl⟩:=log_ok h
 have e:judgeF d l=(belL (capN l) (manyF d l (kks (capN l))) l.ops.length,0):=by unfold judgeF;rw [if_neg (by simp [h])]
 rw [e]
 refine⟨rfl,belL_len ..,fun i o ho=>⟨_,belL_get _ _ _ _ (List.getElem?_eq_some_iff.1 ho).1,?_⟩⟩
 have hil:=(List.getElem?_eq_some_iff.1 ho).1
 obtain⟨h1,h2⟩:=manyF_all d l i (kks (capN l))
 rw [kks_len] at h1
 have hcap:(capN l:Int)=l.hi-l.lo+1:=by unfold capN;omega
 have hi:∀ n,outI d l n i=d.out o.1 o.2.1 o.2.2 n:=fun n=>by unfold outI;rw [ho]
 have hk1:manyF d l (kks (capN l)) i=capN l↔∀ c,l.lo≤c→c≤l.hi→d.out o.1 o.2.1 o.2.2 c=true:=by
  rw [h1]
  constructor
  ·intro H c c1 c2
   have:=H (c-l.lo).toNat ((kks_in ..).2 (by omega))
   rw [cntI_eq,show l.lo+((c-l.lo).toNat:Int)=c by omega,hi] at this
   split at this
   ·rename_i g;exact g.2
   ·cases this
  ·intro H k hk
   rw [kks_in] at hk
   rw [cntI_eq,hi,if_pos ⟨hil,H _ (by omega) (by omega)⟩]
 have hk2:manyF d l (kks (capN l)) i=0↔∀ c,l.lo≤c→c≤l.hi→d.out o.1 o.2.1 o.2.2 c=false:=by
  rw [h2]
  constructor
  ·intro H c c1 c2
   have:=H (c-l.lo).toNat ((kks_in ..).2 (by omega))
   rw [cntI_eq,show l.lo+((c-l.lo).toNat:Int)=c by omega,hi] at this
   split at this
   ·cases this
   ·rename_i g
    cases hb:d.out o.1 o.2.1 o.2.2 c with
    | false=>rfl
    | true=>exact absurd ⟨hil,hb⟩ g
  ·intro H k hk
   rw [kks_in] at hk
   rw [cntI_eq,hi,if_neg (by rw [H _ (by omega) (by omega)];simp)]
 generalize manyF d l (kks (capN l)) i=m at hk1 hk2 ⊢
 unfold belS
 refine⟨?_,?_,?_⟩
 ·split
  ·exact .inr (.inl rfl)
  ·split
   ·exact .inr (.inr rfl)
   ·exact .inl rfl
 ·rw [← hk1]
  split
  ·rename_i g;simp [g]
  ·split<;>rename_i g1 g2<;>simp [g1]
 ·rw [← hk2]
  split
  ·rename_i g
   subst g
   constructor
   ·intro h;cases h
   ·intro h;omega
  ·split<;>rename_i g1 g2<;>simp [g2]
end Go.Proofs.YtolholkjeehamaaDoor

namespace Go.Proofs.YtolholkjeehamaaDoor
open Go.RowKit Go.Con Go.Conc
local instance:Lone:=mainL
section
variable {dst:Option Nat} {ty:TypeId} {pos:String} {af:Array Edge} {x y c b o:Nat} {w:World} {gd:Option (Nat×Bool)} (e:Operand→Value)
end
end Go.Proofs.YtolholkjeehamaaDoor

namespace Go.Proofs.YtolholkjeehamaaDoor
open Go.RowKit
section
variable {F:Fence} {n:Nat} {ops:Array Oper} {C:World→Prop} {a:Act} {dst:Option Nat} {ty:TypeId} {pos:String} {af:Array Edge}
end
end Go.Proofs.YtolholkjeehamaaDoor

namespace Go.Proofs.YtolholkjeehamaaDoor
open Go.RowKit Go.Con Go.Conc
section
variable {dst:Option Nat} {ty:TypeId} {pos:String} {af:Array Edge} {x y:Nat} {w:World} (e:Operand→Value)
end
end Go.Proofs.YtolholkjeehamaaDoor

namespace Go.Proofs.YtolholkjeehamaaDoor
open Go.RowKit Go.Con Go.Conc Go.ChangeShapes Go.WideShapes Go.ChangeAt
section
variable {H:Type} {enc:TypeId×Value→H} {W:World}
end
end Go.Proofs.YtolholkjeehamaaDoor

namespace Go.Proofs.YtolholkjeehamaaDoor
open Go.RowKit Go.Con Go.Conc Go.ChangeShapes Go.WideShapes Go.ChangeAt
section
variable {H:Type} {enc:TypeId×Value→H} {W:World}
theorem log_open {v:Value} {dd:DataW H} {p:List MemPlace} {base:Nat} (hv:Value.okWide Tryd.prog W .any base 35 v) (h:DataW.Trod enc Tryd.prog W 0 (fun _=>true) true 35 v dd p) (hfit:Fits 35 dd) :
  ∃ (l:Lg) (al:Option Addr) (cap:Nat),v=.agg #[num l.lo,num l.hi,.slice al l.ops.length cap]∧Sl W (.slice al l.ops.length cap) 3 (l.ops.map three)∧Kind W (.slice al l.ops.length cap)∧l.ops.length≤281474976710656:=by
 simp only [Value.okWide,Tryd.underlying35] at hv
 obtain⟨cs,rfl,hsz,ts,hts,_,hcell⟩:=hv
 rw [show Tryd.prog.cellTypes Tryd.prog.depth 35=some [3,3,33] by kernel_rfl] at hts
 cases hts
 rw [show Tryd.prog.cellsOf 35=3 by kernel_rfl] at hsz
 obtain⟨fuel,hf⟩:=h
 simp only [Value.cells] at hf
 obtain⟨xs,m,_,hyy,_,hx,hg⟩:=DataW.trod_struct Tryd.underlying35 hf
 simp only [Prod.mk.injEq] at hyy
 obtain⟨rfl,rfl⟩:=hyy
 have hwt:(DataW.agg (xs.map (·.1)):DataW H).weights Tryd.prog 35=DataW.weightsEach Tryd.prog [28,33] (xs.map (·.1)):=by
  unfold DataW.weights
  rw [Tryd.underlying35]
  rfl
 unfold Fits at hfit
 rw [hwt] at hfit
 have hx0:∀ (i:Nat) (y:DataW H×List MemPlace) (t:TypeId),xs[i]?=some y→([28,33]:List TypeId)[i]?=some t→Fits t y.1:=fun i y t hy ht m hm=>hfit m (DataW.weights_mem_each ht (by rw [List.getElem?_map,hy];rfl) m hm)
 obtain⟨l⟩:=cs
 simp only [List.size_toArray] at hsz
 match l,hsz with
 | [u0,u1,u2],_ =>
  have c33:Tryd.prog.cellsOf 33=1:=by kernel_rfl
  have c28:Tryd.prog.cellsOf 28=2:=by kernel_rfl
  have g0:=hg 0 ⟨ "Clock",28,0,false,"","",0⟩ rfl
  have g1:=hg 1 ⟨ "Openings",33,2,false,"","",16⟩ rfl
  rw [List.getElem?_eq_getElem (by rw [hx];simp)] at g0 g1
  dsimp only at g0 g1
  rw [c28] at g0
  rw [c33] at g1
  simp only [List.drop_succ_cons,List.drop_zero,List.take_succ_cons,List.take_zero] at g0 g1
  have kc:Cell.okWide Tryd.prog W .any base 33 u2:=by
   obtain⟨t',h1,h2⟩:=hcell 2 u2 rfl
   have h3:([3,3,33]:List TypeId)[2 % 3]?=some 33:=rfl
   have e:t'=33:=by
    have:=h1.symm.trans h3
    exact Option.some.inj this
   rw [e] at h2
   exact h2
  obtain⟨ops,a1,a2,a3,a4,a5⟩:=sl_open (en:=three) (ok:=fun _=>True) Tryd.underlying33 (by decide +kernel) (fun n cs' y h hff=>read_three Tryd.underlying59 rfl rfl rfl rfl rfl rfl (by kernel_rfl) h) g1 (hx0 1 _ _ (List.getElem?_eq_getElem _) rfl) kc
  obtain⟨⟨n1,n2⟩,q1,_⟩:=read_two Tryd.underlying28 rfl rfl rfl rfl c28 g0
  simp only [two,List.cons.injEq,and_true] at q1
  obtain⟨rfl,rfl⟩:=q1
  rw [show Tryd.prog.cellsOf 59=3 by kernel_rfl] at a1
  obtain⟨al,cap,e⟩:=a1.cases
  rw [List.length_map] at e
  subst e
  exact⟨⟨n1,n2,ops⟩,al,cap,rfl,a1,a3,Nat.le_trans a4 (by decide)⟩
end
end Go.Proofs.YtolholkjeehamaaDoor

namespace Go.Proofs.YtolholkjeehamaaDoor
open Go.RowKit
theorem one28_any (a b n:Int) (w:World) (hab : -1000000000≤a∧a≤b∧b≤1000000000) (hn:0≤n∧n≤1000000) :
  CallsIn FL 0 Tryd.prog 28 #[.agg #[num a,num b],num n] w fun e w'=>e=.returned (num (a+n % (b-a+1)))∧Nx w w':=by
 generalize hW:w.alloc (.cells #[.int .i64 a,.int .i64 b] 28)=W
 have nW:Nx w W:=by rw [← hW];exact (Below.refl _ _).alloc (Nat.le_refl _) _
 have c0:W.cell? ⟨w.heap.size,0,none⟩=some (num a):=by rw [← hW];exact cell_new _ _ _ _ _ rfl
 have c1:W.cell? ⟨w.heap.size,1,none⟩=some (num b):=by rw [← hW];exact cell_new _ _ _ _ _ rfl
 have hm:0≤n % (b-a+1)∧n % (b-a+1)<b-a+1:=⟨Int.emod_nonneg _ (by omega),Int.emod_lt_of_pos _ (by omega)⟩
 have hz:b-a+1≠0:=by omega
 have hne:(b-a+1 == 0)=false:=by simpa using hz
 have h1 : -9223372036854775808≤b-a∧b-a≤9223372036854775807:=by omega
 have h2 : -9223372036854775808≤b-a+1∧b-a+1≤9223372036854775807:=by omega
 have h3 : -9223372036854775808≤n % (b-a+1)∧n % (b-a+1)≤9223372036854775807:=by omega
 have h4 : -9223372036854775808≤a+n % (b-a+1)∧a+n % (b-a+1)≤9223372036854775807:=by omega
 gi_enter Tryd.func28,Tryd.ntmps28
 gi_upto_region 1 with fail
 gi_big_quiet_th (fail)
 gi_wp2
 go_ret
 exact⟨rfl,Nx.drewN nW _⟩
theorem checklog27_any (d:Dit) (r:Rows6) (l:Lg) (v:Value) (w:World) (hd:DitSl w d r) (hs:d.Small) (hl:Sl w v 3 (l.ops.map three)) (hls:l.ops.length≤1000000000) :
  CallsIn FL 0 Tryd.prog 27 #[d.val r,.agg #[num l.lo,num l.hi,v]] w fun e w'=>e=.returned (num (logS d l))∧Nx w w':=by
 obtain⟨a,cap,rfl⟩:=hl.cases
 rw [List.length_map] at hl ⊢
 obtain⟨W,hW,n0,hWs,cW⟩:=boxed w d r
 generalize hY:W.alloc (.cells #[num l.lo,num l.hi,.slice a l.ops.length cap] 35)=Y
 have sY:Y.heap.size=w.heap.size+1+1:=by rw [← hY];simp [hWs]
 have nY:Nx W Y:=by rw [← hY];exact alloc_nx (Below.refl _ _) _
 have nwY:Nx w Y:=Nx.trans n0 nY
 have cq:∀ w1,Nx Y w1→w1.cell? ⟨w.heap.size+1,0,none⟩=some (num l.lo)∧w1.cell? ⟨w.heap.size+1,1,none⟩=some (num l.hi)∧w1.cell? ⟨w.heap.size+1,2,none⟩=some (.slice a l.ops.length cap):=by
  intro w1 n1
  have k:∀ i u,#[num l.lo,num l.hi,.slice a l.ops.length cap][i]?=some u→w1.cell? ⟨w.heap.size+1,i,none⟩=some u:=fun i u h =>
   (n1.cell (p:=⟨w.heap.size+1,i,none⟩) (by show w.heap.size+1<_;omega)).trans (by rw [← hY,← hWs];exact cell_new _ _ _ _ _ h)
  exact⟨k 0 _ rfl,k 1 _ rfl,k 2 _ rfl⟩
 obtain⟨c0,c1,c2,c3,c4,c5,c6,c7,c8,c9,c10,c11,c12,c13⟩:=cells14 (cW _ nY)
 obtain⟨ah,caph,eh⟩:=hd.holders.cases
 rw [List.length_map] at eh
 have CH:=Lib.hid (show ∀ w2,Nx Y w2→w2.cell? ⟨w.heap.size,0,none⟩=some (.slice ah d.holders.length caph) from fun w2 o=>(cW w2 (Nx.trans nY o) 0 r.h rfl).trans (by rw [eh]))
 have k25:=check25_any d r Y (hd.nx nwY) hs
 have hhl:=hs.h
 clear eh
 by_cases hc:checkS d=0
 ·rw [hc] at k25
  by_cases hi : -100≤l.lo∧l.lo≤l.hi∧l.hi≤100
  ·have k70:=fun w1=>mono_tt (inside70_any l.lo l.hi (-100) 100 w1) hi
   by_cases hn:20<l.ops.length
   ·have HA:Hid (logS d l=2):=by show _=_;unfold logS;rw [if_neg (by simp [hc]),if_neg (by simpa using hi),if_pos hn]
    have b1:decide ((l.ops.length:Int) > 20)=true:=by simp;omega
    clear hc cW hl
    gi_enter Tryd.func27,Tryd.ntmps27
    gi_wp2_with (first
     | (gi_at_call 25;refine CallsIn.mono k25 ?_;rintro e w1 ⟨rfl,n1⟩;obtain⟨q0,q1,q2⟩:=cq _ n1)
     | (gi_at_call 70;refine CallsIn.mono (k70 _) ?_;rintro e w2 ⟨rfl,n2⟩;obtain⟨p0,p1,p2⟩:=cq _ (Nx.trans n1 n2))
     | gi_in)
    go_ret
    exact⟨by rw [HA.out];rfl,Nx.trans nwY (Nx.trans n1 n2)⟩
   ·have HL:Hid (logS d l=scan (openF d.holders.length) 0 l.ops):=by show _=_;unfold logS;rw [if_neg (by simp [hc]),if_neg (by simpa using hi),if_neg hn]
    have b1:decide ((l.ops.length:Int) > 20)=false:=by simp;omega
    clear hc cW
    gi_enter Tryd.func27,Tryd.ntmps27
    gi_upto_region 8 with (first
     | (gi_at_call 25;refine CallsIn.mono k25 ?_;rintro e w1 ⟨rfl,n1⟩;obtain⟨q0,q1,q2⟩:=cq _ n1)
     | (gi_at_call 70;refine CallsIn.mono (k70 _) ?_;rintro e w2 ⟨rfl,n2⟩;obtain⟨p0,p1,p2⟩:=cq _ (Nx.trans n1 n2))
     | gi_in)
    have n12:=Nx.trans n1 n2
    have hl2:Sl w2 (.slice a l.ops.length cap) 3 (l.ops.map three):=hl.nx (Nx.trans nwY n12)
    clear hl q0 q1 q2 p0 p1 p2 k25 k70 c0 c1 c2 c3 c4 c5 c6 c7 c8 c9 c10 c11 c12 c13
    gi_wp2
    gi_loopw [6] (fun i wr=>∃ k:Nat,k≤l.ops.length∧i=num k∧(scan (openF d.holders.length) 0 l.ops=scan (openF d.holders.length) k (l.ops.drop k))∧Nx w2 wr) (fun i _=>l.ops.length-(intOf i).toNat)
    case atStart=>exact⟨0,Nat.zero_le _,rfl,rfl,Below.refl _ _⟩
    case round =>
     obtain⟨k,hk,rfl,hsc,nr⟩:=hrel
     obtain⟨q0,q1,q2⟩:=cq _ (Nx.trans n12 nr)
     have ch0:=CH.out _ (Nx.trans n12 nr)
     by_cases hlt:k<l.ops.length
     ·obtain⟨b,off,ha,hbl,hcl⟩:=hl2.get (by simp;omega)
      subst ha
      have hx:l.ops[k]?=some l.ops[k]:=List.getElem?_eq_getElem hlt
      generalize hxk:l.ops[k]=x at hx
      clear hxk
      obtain⟨x1,x2,x3⟩:=x
      obtain⟨g1,g2,g3⟩:=Sl.at3 hcl nr hbl hx
      have HG:=Lib.hid fun h0=>scan_go hx h0 hsc
      have HS:=Lib.hid fun h0=>scan_stop hx h0 hsc
      have nr1:∀ o,Nx w2 (wr.alloc o):=fun o=>alloc_nx nr o
      have ch1:(wr.alloc (.cells #[.int .i64 x1,.int .i64 x2,.int .i64 x3] 59)).cell? ⟨w.heap.size,0,none⟩=some (.slice ah d.holders.length caph):=CH.out _ (Nx.trans n12 (nr1 _))
      have tH:∀ w1,CallsIn FL 0 Tryd.prog 71 #[num x1,num 0,num ((d.holders.length:Int)-1)] w1 _:=fun w1=>in_any x1 0 (d.holders.length-1) w1
      have t1:∀ w1,CallsIn FL 0 Tryd.prog 71 #[num x2,num 0,num 999999999] w1 _:=fun w1=>in_any x2 0 999999999 w1
      have t2:∀ w1,CallsIn FL 0 Tryd.prog 71 #[num x3,num 0,num 999999999] w1 _:=fun w1=>in_any x3 0 999999999 w1
      have hfx:openF d.holders.length k (x1,x2,x3)=if 0≤x1∧x1≤(d.holders.length:Int)-1 then (if (0≤x2∧x2≤999999999)∧(0≤x3∧x3≤999999999) then (if x3≤x2 then 7 else if x3-x2 > 50 then 8 else 0) else 1) else 6:=rfl
      clear hsc hcl hx hl2 hW hY
      have bad:∀ {c:Int},openF d.holders.length k (x1,x2,x3)=c→c≠0→Hid (logS d l=c):=fun {c} h h0=>by
       show _=_;rw [HL.out,HS.out (by rw [h];exact h0),h]
      by_cases hh:0≤x1∧x1≤(d.holders.length:Int)-1
      ·have tH:=fun w1=>mono_tt (tH w1) hh
       rw [if_pos hh] at hfx
       by_cases p1:0≤x2∧x2≤999999999
       ·have t1:=fun w1=>mono_tt (t1 w1) p1
        by_cases p2:0≤x3∧x3≤999999999
        ·have t2:=fun w1=>mono_tt (t2 w1) p2
         rw [if_pos ⟨p1,p2⟩] at hfx
         by_cases p3:x3≤x2
         ·rw [if_pos p3] at hfx
          have HF:=bad hfx (by decide)
          have b2:decide (x3≤x2)=true:=decide_eq_true p3
          clear HG HS hfx bad hh
          gi_wp2_with (first
           | (gi_at_call 71;(first | (with_reducible refine CallsIn.mono (tH _) ?_) | (with_reducible refine CallsIn.mono (t1 _) ?_) | (with_reducible refine CallsIn.mono (t2 _) ?_));rintro e w3 ⟨rfl,rfl⟩)
           | gi_in)
          go_ret
          exact⟨by rw [HF.out];rfl,Nx.trans nwY (Nx.trans n12 (nr1 _))⟩
         ·rw [if_neg p3] at hfx
          have b2:decide (x3≤x2)=false:=decide_eq_false p3
          by_cases p4:x3-x2 > 50
          ·rw [if_pos p4] at hfx
           have HF:=bad hfx (by decide)
           have b3:decide (x3-x2 > 50)=true:=decide_eq_true p4
           clear HG HS hfx bad hh
           gi_wp2_with (first
            | (gi_at_call 71;(first | (with_reducible refine CallsIn.mono (tH _) ?_) | (with_reducible refine CallsIn.mono (t1 _) ?_) | (with_reducible refine CallsIn.mono (t2 _) ?_));rintro e w3 ⟨rfl,rfl⟩)
            | gi_in)
           go_ret
           exact⟨by rw [HF.out];rfl,Nx.trans nwY (Nx.trans n12 (nr1 _))⟩
          ·rw [if_neg p4] at hfx
           have hz:=Lib.hid (HG.out hfx)
           have b3:decide (x3-x2 > 50)=false:=decide_eq_false p4
           clear HG HS hfx bad hh
           gi_wp2_with (first
            | (gi_at_call 71;(first | (with_reducible refine CallsIn.mono (tH _) ?_) | (with_reducible refine CallsIn.mono (t1 _) ?_) | (with_reducible refine CallsIn.mono (t2 _) ?_));rintro e w3 ⟨rfl,rfl⟩)
            | gi_in)
           exact⟨⟨k+1,hlt,by simp,hz.out,nr1 _⟩,by simp [intOf];omega⟩
        ·have t2:=fun w1=>mono_ff (t2 w1) p2
         rw [if_neg fun h=>p2 h.2] at hfx
         have HF:=bad hfx (by decide)
         clear HG HS hfx bad hh
         gi_wp2_with (first
          | (gi_at_call 71;(first | (with_reducible refine CallsIn.mono (tH _) ?_) | (with_reducible refine CallsIn.mono (t1 _) ?_) | (with_reducible refine CallsIn.mono (t2 _) ?_));rintro e w3 ⟨rfl,rfl⟩)
          | gi_in)
         go_ret
         exact⟨by rw [HF.out];rfl,Nx.trans nwY (Nx.trans n12 (nr1 _))⟩
       ·have t1:=fun w1=>mono_ff (t1 w1) p1
        rw [if_neg fun h=>p1 h.1] at hfx
        have HF:=bad hfx (by decide)
        clear HG HS hfx bad hh
        gi_wp2_with (first
         | (gi_at_call 71;(first | (with_reducible refine CallsIn.mono (tH _) ?_) | (with_reducible refine CallsIn.mono (t1 _) ?_) | (with_reducible refine CallsIn.mono (t2 _) ?_));rintro e w3 ⟨rfl,rfl⟩)
         | gi_in)
        go_ret
        exact⟨by rw [HF.out];rfl,Nx.trans nwY (Nx.trans n12 (nr1 _))⟩
      ·have tH:=fun w1=>mono_ff (tH w1) hh
       rw [if_neg hh] at hfx
       have HF:=bad hfx (by decide)
       clear HG HS hfx bad
       gi_wp2_with (first
        | (gi_at_call 71;(first | (with_reducible refine CallsIn.mono (tH _) ?_) | (with_reducible refine CallsIn.mono (t1 _) ?_) | (with_reducible refine CallsIn.mono (t2 _) ?_));rintro e w3 ⟨rfl,rfl⟩)
        | gi_in)
       go_ret
       exact⟨by rw [HF.out];rfl,Nx.trans nwY (Nx.trans n12 (nr1 _))⟩
     ·obtain rfl:k=l.ops.length:=by omega
      have hz:=Lib.hid (scan_end hsc)
      clear hl2 hsc
      gi_wp2
      go_ret
      exact⟨by rw [HL.out,hz.out];rfl,Nx.trans nwY (Nx.trans n12 nr)⟩
  ·have HA:Hid (logS d l=1):=by show _=_;unfold logS;rw [if_neg (by simp [hc]),if_pos hi]
   have k70:=fun w1=>mono_ff (inside70_any l.lo l.hi (-100) 100 w1) hi
   clear hc cW hl hi
   gi_enter Tryd.func27,Tryd.ntmps27
   gi_wp2_with (first
    | (gi_at_call 25;refine CallsIn.mono k25 ?_;rintro e w1 ⟨rfl,n1⟩;obtain⟨q0,q1,q2⟩:=cq _ n1)
    | (gi_at_call 70;refine CallsIn.mono (k70 _) ?_;rintro e w2 ⟨rfl,n2⟩)
    | gi_in)
   go_ret
   exact⟨by rw [HA.out];rfl,Nx.trans nwY (Nx.trans n1 n2)⟩
 ·have HA:Hid (logS d l=checkS d):=by show _=_;unfold logS;rw [if_pos hc]
  have hb:(checkS d != 0)=true:=by simpa using hc
  generalize checkS d=ck at *
  clear hc cW hl
  gi_enter Tryd.func27,Tryd.ntmps27
  gi_wp2_with (first
   | (gi_at_call 25;refine CallsIn.mono k25 ?_;rintro e w1 ⟨rfl,n1⟩)
   | gi_in)
  go_ret
  exact⟨by rw [HA.out];rfl,Nx.trans nwY n1⟩
end Go.Proofs.YtolholkjeehamaaDoor

namespace Go.Proofs.YtolholkjeehamaaDoor
open Go.RowKit
def anyO (d:Dit) (holder:Int) (l:List Int):Bool:=l.any fun h=>decide ((d.owner h).1≠holder)
theorem owner_neg {d:Dit} {h:Int} (hh:h<0):(d.owner h).1=-1:=by
 have hat:d.at d.ends d.cyc h=(-1,-1):=by unfold Dit.at;rw [if_pos (.inl hh)]
 unfold Dit.owner whoS
 rw [hat]
 simp
theorem outOf30_any (d:Dit) (r:Rows6) (holder a b c:Int) (w:World) (hd:DitSl w d r) (hs:d.Small) (hg:Glob w) (hck:checkS d=0) (ha:0≤a∧a<b) (hb:b≤999999999) (hc : -100≤c∧c≤100) (hbc:b+c≤999999999) :
  CallsIn FL 0 Tryd.prog 30 #[d.val r,.agg #[num holder,num a,num b],num c] w fun e w'=>e=.returned (.tuple #[.bool (d.out holder a b c),.bool true])∧Nx w w':=by
 obtain⟨W,hW,n0,hWs,cW⟩:=boxed w d r
 generalize hY:W.alloc (.cells #[.int .i64 holder,.int .i64 a,.int .i64 b] 59)=Y
 have sY:Y.heap.size=w.heap.size+1+1:=by rw [← hY];simp [hWs]
 have nY:Nx W Y:=by rw [← hY];exact alloc_nx (Below.refl _ _) _
 have nwY:Nx w Y:=Nx.trans n0 nY
 have cq:∀ w1,Nx Y w1→w1.cell? ⟨w.heap.size+1,0,none⟩=some (num holder)∧w1.cell? ⟨w.heap.size+1,1,none⟩=some (num a)∧w1.cell? ⟨w.heap.size+1,2,none⟩=some (num b):=by
  intro w1 n1
  have k:∀ i u,#[num holder,num a,num b][i]?=some u→w1.cell? ⟨w.heap.size+1,i,none⟩=some u:=fun i u h =>
   (n1.cell (p:=⟨w.heap.size+1,i,none⟩) (by show w.heap.size+1<_;omega)).trans (by rw [← hY,← hWs];exact cell_new _ _ _ _ _ h)
  exact⟨k 0 _ rfl,k 1 _ rfl,k 2 _ rfl⟩
 have CO:=Lib.hid (fun w1 (n1:Nx Y w1)=>cW w1 (Nx.trans nY n1))
 have KO:=Lib.hid (fun (h:Int) (hh:0≤h∧h≤999999999) u (n1:Nx Y u)=>show CallsIn FL 0 Tryd.prog 26 #[d.val r,num h] u fun e w'=>∃ y z:Int,e=Ending.returned (.tuple #[num (d.owner h).1,num y,num z,num 0])∧Nx u w' from
  (owner_any d r h u (hd.nx (Nx.trans nwY n1)) hs (hg.nx (Nx.trans nwY n1))).mono fun e w' ⟨p,q⟩=>⟨(d.owner h).2.1,(d.owner h).2.2,p.trans (by rw [own_eq hck hh]),q⟩)
 have CQ:=Lib.hid cq
 have hout:d.out holder a b c=anyO d holder (hoursL (a+c) (b-a).toNat):=rfl
 have HOUT:=Lib.hid hout
 have hneg:=Lib.hid (fun h (hh:h<0)=>owner_neg (d:=d) hh)
 clear hd hg hck cW cq hout
 obtain⟨q0,q1,q2⟩:=CQ.out Y (Below.refl _ _)
 gi_enter Tryd.func30,Tryd.ntmps30
 gi_wp2
 gi_loopw [8,9] (fun out h wr=>∃ k:Nat,k≤(b-a).toNat∧h=num (a+c+k)∧out=.bool (anyO d holder (hoursL (a+c) k))∧Nx Y wr) (fun _ h _=>(b+c-intOf h).toNat)
 case atStart=>exact⟨0,Nat.zero_le _,by simp,by simp [anyO,hoursL],Below.refl _ _⟩
 case round =>
  obtain⟨k,hk,rfl,rfl,n2⟩:=hrel
  clear q0 q1 q2
  obtain⟨q0,q1,q2⟩:=CQ.out wr n2
  by_cases hlt:a+c+k<b+c
  ·have hstep:anyO d holder (hoursL (a+c) (k+1))=(anyO d holder (hoursL (a+c) k) || decide ((d.owner (a+c+k)).1≠holder)):=by
    unfold anyO
    rw [hoursL_succ,List.any_append]
    simp
   have HST:=Lib.hid hstep
   generalize hv:anyO d holder (hoursL (a+c) k)=v at *
   have b1:decide (a+c+(k:Int)<b+c)=true:=decide_eq_true hlt
   clear hstep hv
   by_cases h0:0≤a+c+(k:Int)
   ·have b2:decide (a+c+(k:Int)≥0)=true:=decide_eq_true h0
    have b3:decide (a+c+(k:Int)≤999999999)=true:=decide_eq_true (by omega)
    have ko:=KO.out (a+c+k) (by omega) wr n2
    obtain⟨c0,c1,c2,c3,c4,c5,c6,c7,c8,c9,c10,c11,c12,c13⟩:=cells14 (CO.out wr n2)
    generalize (d.owner (a+c+(k:Int))).1=o at *
    cases v with
    | true =>
     gi_wp2_with (first
      | (gi_at_call 26;refine CallsIn.mono ko ?_;rintro e w5 ⟨y,z,rfl,n5⟩;obtain⟨p0,p1,p2⟩:=CQ.out w5 (Nx.trans n2 n5))
      | gi_in)
     exact⟨⟨k+1,by omega,by simp;omega,by rw [HST.out];simp,Nx.trans n2 n5⟩,by simp [intOf];omega⟩
    | false =>
     by_cases ho:o=holder
     ·have b4:(o != holder)=false:=by simpa using ho
      gi_wp2_with (first
       | (gi_at_call 26;refine CallsIn.mono ko ?_;rintro e w5 ⟨y,z,rfl,n5⟩;obtain⟨p0,p1,p2⟩:=CQ.out w5 (Nx.trans n2 n5))
       | gi_in)
      exact⟨⟨k+1,by omega,by simp;omega,by rw [HST.out];simp [ho],Nx.trans n2 n5⟩,by simp [intOf];omega⟩
     ·have b4:(o != holder)=true:=by simpa using ho
      gi_wp2_with (first
       | (gi_at_call 26;refine CallsIn.mono ko ?_;rintro e w5 ⟨y,z,rfl,n5⟩;obtain⟨p0,p1,p2⟩:=CQ.out w5 (Nx.trans n2 n5))
       | gi_in)
      exact⟨⟨k+1,by omega,by simp;omega,by rw [HST.out];simp [ho],Nx.trans n2 n5⟩,by simp [intOf];omega⟩
   ·have b2:decide (a+c+(k:Int)≥0)=false:=decide_eq_false h0
    have b3:decide (a+c+(k:Int) > 999999999)=false:=decide_eq_false (by omega)
    have hn:=hneg.out (a+c+k) (by omega)
    have HN:=Lib.hid hn
    clear hn
    cases v with
    | true =>
     gi_wp2
     exact⟨⟨k+1,by omega,by simp;omega,by rw [HST.out];simp,n2⟩,by simp [intOf];omega⟩
    | false =>
     by_cases ho : -1=holder
     ·have b4:((-1:Int) != holder)=false:=by simpa using ho
      gi_wp2
      exact⟨⟨k+1,by omega,by simp;omega,by rw [HST.out,HN.out];simp [ho],n2⟩,by simp [intOf];omega⟩
     ·have b4:((-1:Int) != holder)=true:=by simpa using ho
      gi_wp2
      exact⟨⟨k+1,by omega,by simp;omega,by rw [HST.out,HN.out];simp [ho],n2⟩,by simp [intOf];omega⟩
  ·have b1:decide (a+c+(k:Int)<b+c)=false:=decide_eq_false hlt
   obtain rfl:k=(b-a).toNat:=by omega
   generalize hv:anyO d holder (hoursL (a+c) (b-a).toNat)=v at *
   gi_wp2
   go_ret2
   exact⟨by rw [HOUT.out]<;>rfl,Nx.trans nwY n2⟩
end Go.Proofs.YtolholkjeehamaaDoor

namespace Go.Proofs.YtolholkjeehamaaDoor
open Go.RowKit Go.Con Go.Conc
local instance:Lone:=mainL
noncomputable def lawB6:Code:=match Tryd.f6.body with | some c=>c | none=>.skip
noncomputable def cl0:Code:=seqL lawB6
noncomputable def clp1:Code:=seqR lawB6
noncomputable def cl1:Code:=seqL (seqL clp1)
noncomputable def cl2:Code:=match seqR (seqL clp1) with | .cond _ x _=>seqL x | c=>c
noncomputable def clp2:Code:=seqR clp1
noncomputable def cl3:Code:=seqL clp2
noncomputable def clp3:Code:=seqR clp2
noncomputable def cl4:Code:=seqL clp3
noncomputable def clp4:Code:=seqR clp3
noncomputable def cl5:Code:=seqL clp4
noncomputable def clp5:Code:=seqR clp4
noncomputable def cl7:Code:=seqL clp5
noncomputable def clp6:Code:=seqR clp5
noncomputable def cl14:Code:=seqL clp6
theorem lawB6_eq:lawB6=.seq cl0 (.seq (.seq cl1 (.cond (.tmp 21) (.seq cl2 .ret) .skip)) (.seq cl3 (.seq cl4 (.seq cl5 (.seq cl7 (.seq cl14 .ret)))))):=by kernel_rfl
theorem lawB6_of:Tryd.f6.body=some lawB6:=by kernel_rfl
noncomputable def opcl2:Array Oper:=opsOf cl2
theorem cl2_eq:cl2=.region 2 opcl2 false:=by kernel_rfl
noncomputable def opcl14:Array Oper:=opsOf cl14
theorem cl14_eq:cl14=.region 14 opcl14 false:=by kernel_rfl
theorem al2' {w W:World} {o1 o2:Obj} (h:(w.alloc o1).alloc o2=W):Old w W∧W.heap.size=w.heap.size+2∧W.heap[w.heap.size]?=some o1∧W.heap[w.heap.size+1]?=some o2:=by
 obtain⟨h1,h2,h3,h4⟩:=al2 h
 exact⟨.nx h4,h3,h1,h2⟩
def ClkA (d:Dit) (r:Rows6) (l:Lg) (al:Option Addr) (cap:Nat) (x:Int) (W:World) (t:Array Value) (W2:World):Prop :=
 Old W W2∧∃ (B:Nat) (v13 v14 v15 v16 v17 v18 v19 v20 v21 v23 v24 v25 v26 v27:Value),t=#[d.val r,.agg #[num l.lo,num l.hi,.slice al l.ops.length cap],.int .u8 x,.pointer (some ⟨B,0,none⟩),.pointer (some ⟨B+1,0,none⟩),undef,.bool false,num (l.lo+x % (l.hi-l.lo+1)),undef,undef,undef,undef,undef,v13,v14,v15,v16,v17,v18,v19,v20,v21,undef,v23,v24,v25,v26,v27,undef,undef,undef,undef,undef,undef,undef,undef,undef,undef,undef,undef,undef,undef,undef,undef,undef,undef,undef,undef,undef,undef,undef,undef,undef,undef,undef,undef,undef,undef,undef,undef,undef,undef,undef,undef,undef,undef,undef,undef,undef,undef,undef,undef,undef,undef,undef,undef,undef,undef,undef,undef,undef,undef,undef,undef,undef,undef,undef,undef,undef,undef,undef,undef,undef,undef]∧B+1<W2.heap.size∧(∀ i v,(d.cellsA r)[i]?=some v→W2.cell? ⟨B,i,none⟩=some v)∧(∀ i v,(#[num l.lo,num l.hi,.slice al l.ops.length cap]:Array Value)[i]?=some v→W2.cell? ⟨B+1,i,none⟩=some v)
theorem clock_lone (d:Dit) (r:Rows6) (l:Lg) (al:Option Addr) (cap:Nat) (x:Int) (W:World) (hd:DitSl W d r) (hb:d.Big) (hg:Glob W) (hl:Sl W (.slice al l.ops.length cap) 3 (l.ops.map three)) (hlb:l.ops.length≤281474976710656) (hx:0≤x∧x≤255) :
  Lones Tryd.prog (FG 6) [cl0,cl1] (fun t W1=>Old W W1∧t.size=94∧(t[21]?=some (.bool true)∨(t[21]?=some (.bool false)∧(logS d l=0∧d.Small)∧Lones Tryd.prog (FG 6) [cl3] (ClkA d r l al cap x W) t W1)))
   #[d.val r,.agg #[num l.lo,num l.hi,.slice al l.ops.length cap],.int .u8 x,undef,undef,undef,undef,undef,undef,undef,undef,undef,undef,undef,undef,undef,undef,undef,undef,undef,undef,undef,undef,undef,undef,undef,undef,undef,undef,undef,undef,undef,undef,undef,undef,undef,undef,undef,undef,undef,undef,undef,undef,undef,undef,undef,undef,undef,undef,undef,undef,undef,undef,undef,undef,undef,undef,undef,undef,undef,undef,undef,undef,undef,undef,undef,undef,undef,undef,undef,undef,undef,undef,undef,undef,undef,undef,undef,undef,undef,undef,undef,undef,undef,undef,undef,undef,undef,undef,undef,undef,undef,undef,undef] W:=by
 intro τ
 generalize hw0:({ W with tape:=τ }:World)=w0
 have hO0:Old W w0:=by rw [← hw0];exact .same rfl
 clear hw0
 generalize hY:(w0.alloc (.cells (d.cellsA r) 31)).alloc (.cells #[num l.lo,num l.hi,.slice al l.ops.length cap] 35)=Y
 obtain⟨oY,sY,g1,g2⟩:=al2' hY
 have hcd:d.cellsA r=#[r.h,r.t,num d.begin_,num d.week,num d.from_,num d.long,r.f,r.s,r.l,num d.flow.1,num d.flow.2,num d.loss.1,num d.loss.2,r.p]:=rfl
 rw [hcd] at hY
 simp only [cl0,lawB6,seqL,seqR,Tryd.f6]
 gi_wp2
 clear hcd hY
 intro τ1
 generalize hw1:({ Y with tape:=τ1 }:World)=w1
 have h1:w1.heap=Y.heap:=by rw [← hw1]
 clear hw1
 have hOw:Old W w1:=hO0.trans (oY.trans (.same h1))
 have cell0:∀ (b:Nat) (cs:Array Value) (T:TypeId),Y.heap[b]?=some (.cells cs T (0,0))→∀ w2,Old w1 w2→∀ i v,cs[i]?=some v→w2.cell? ⟨b,i,none⟩=some v:=fun b cs T hb w2 o i v hv=>by
  have hl:=(Array.getElem?_eq_some_iff.1 hb).1
  rw [o.cell ⟨b,i,none⟩ (by rw [h1];exact hl)]
  unfold World.cell?
  dsimp only
  rw [h1,hb]
  exact hv
 have CO:=Lib.hid (cell0 _ _ _ g1)
 have CL:=Lib.hid (cell0 _ _ _ g2)
 have hBl:w0.heap.size+2≤w1.heap.size:=by rw [h1];omega
 clear cell0 g1 g2 sY oY h1
 have HD:=Lib.hid hd
 have HG:=Lib.hid hg
 have HL:=Lib.hid hl
 have k19:=toFG 6 (m:=0) (great_big d r l.lo l.hi (.slice al l.ops.length cap) (l.ops.map three) w1 (hd.old hOw) hb (hl.old hOw) (by rw [List.length_map];exact hlb))
 rw [List.length_map] at k19
 clear hd hg hl hlb
 obtain⟨c0,c1,c2,c3,c4,c5,c6,c7,c8,c9,c10,c11,c12,c13⟩:=cells14 (CO.out w1 (Old.refl _))
 have q0:=CL.out w1 (Old.refl _) 0 _ rfl
 have q1:=CL.out w1 (Old.refl _) 1 _ rfl
 have q2:=CL.out w1 (Old.refl _) 2 _ rfl
 simp only [cl1,clp6,clp5,clp4,clp3,clp2,clp1,lawB6,seqL,seqR,Tryd.f6]
 cases hgr:greatS d l.ops.length with
 | true =>
  rw [hgr] at k19
  gi_wp2_with (first
   | (gi_at_call 19;refine CallsIn.mono k19 ?_;rintro e w2 ⟨rfl,x2⟩)
   | gi_in)
  first | exact⟨hOw.trans (.nx x2),rfl,.inl rfl⟩ | exact⟨hOw.trans (.nx x2),rfl,rfl⟩
 | false =>
 rw [hgr] at k19
 have hs:=small_of_great hgr
 have hls:l.ops.length≤1000000000:=by
  unfold greatS at hgr
  simp only [Bool.or_eq_false_iff,decide_eq_false_iff_not] at hgr
  omega
 have k27:=Lib.hid (fun w2 (o:Old w1 w2)=>toFG 6 (m:=0) (checklog27_any d r l (.slice al l.ops.length cap) w2 (HD.out.old (hOw.trans o)) hs (HL.out.old (hOw.trans o)) hls))
 clear hgr
 rcases (Decidable.em (logS d l=0)).symm with hc | hc
 ·have b1:(logS d l != 0)=true:=by simpa using hc
  generalize logS d l=g at *
  gi_wp2_with (first
   | (gi_at_call 19;refine CallsIn.mono k19 ?_;rintro e w2 ⟨rfl,x2⟩;clear c0 c1 c2 c3 c4 c5 c6 c7 c8 c9 c10 c11 c12 c13;clear q0 q1 q2;obtain⟨c0,c1,c2,c3,c4,c5,c6,c7,c8,c9,c10,c11,c12,c13⟩:=cells14 (CO.out w2 (.nx x2));have q0:=CL.out w2 (.nx x2) 0 _ rfl;have q1:=CL.out w2 (.nx x2) 1 _ rfl;have q2:=CL.out w2 (.nx x2) 2 _ rfl;have kk:=k27.out w2 (.nx x2))
   | (gi_at_call 27;refine CallsIn.mono kk ?_;rintro e w3 ⟨rfl,x3⟩)
   | gi_in)
  first | exact⟨hOw.trans (.trans (.nx x2) (.nx x3)),rfl,.inl rfl⟩ | exact⟨hOw.trans (.trans (.nx x2) (.nx x3)),rfl,rfl⟩
 have HC:=Lib.hid hc
 rw [hc] at k27
 clear hc
 gi_wp2_with (first
  | (gi_at_call 19;refine CallsIn.mono k19 ?_;rintro e w2 ⟨rfl,x2⟩;clear c0 c1 c2 c3 c4 c5 c6 c7 c8 c9 c10 c11 c12 c13;clear q0 q1 q2;obtain⟨c0,c1,c2,c3,c4,c5,c6,c7,c8,c9,c10,c11,c12,c13⟩:=cells14 (CO.out w2 (.nx x2));have q0:=CL.out w2 (.nx x2) 0 _ rfl;have q1:=CL.out w2 (.nx x2) 1 _ rfl;have q2:=CL.out w2 (.nx x2) 2 _ rfl;have kk:=k27.out w2 (.nx x2))
  | (gi_at_call 27;refine CallsIn.mono kk ?_;rintro e w3 ⟨rfl,x3⟩;clear c0 c1 c2 c3 c4 c5 c6 c7 c8 c9 c10 c11 c12 c13;clear q0 q1 q2)
  | gi_in)
 have oB2:Old w1 w3:=.trans (.nx x2) (.nx x3)
 refine⟨hOw.trans oB2,rfl,.inr ⟨rfl,by first | exact⟨HC.out,hs⟩ | exact HC.out,?_⟩⟩
 clear k19 k27 kk
 have hcl:=(log_ok HC.out).2
 intro τ3
 generalize hq3:({ w3 with tape:=τ3 }:World)=u3
 have oA3:Old w1 u3:=oB2.trans (by rw [← hq3];exact .same rfl)
 clear hq3
 have k28:=toFG 6 (m:=0) (one28_any l.lo l.hi x u3 (by omega) (by omega))
 have q0:=CL.out u3 oA3 0 _ rfl
 have q1:=CL.out u3 oA3 1 _ rfl
 simp only [cl3,clp6,clp5,clp4,clp3,clp2,clp1,lawB6,seqL,seqR,Tryd.f6]
 gi_wp2_with (first
  | (gi_at_call 28;refine CallsIn.mono k28 ?_;rintro e w4 ⟨rfl,x4⟩)
  | gi_in)
 have oB4:Old w1 w4:=oA3.trans (.nx x4)
 exact⟨hOw.trans oB4,w0.heap.size,_,_,_,_,_,_,_,_,_,_,_,_,_,_,rfl,by have:=oB4.size;omega,CO.out w4 oB4,CL.out w4 oB4⟩
end Go.Proofs.YtolholkjeehamaaDoor

namespace Go.Proofs.YtolholkjeehamaaDoor
open Go.RowKit Go.Con Go.Conc
local instance:Lone:=mainL
theorem wpIn_code_eq {c c' : Code} {F:Fence} {n:Nat} {P:Program} {Q:Exit→Act→World→Prop} {a:Act} {w:World} (h:c=c') (H:c'.wpIn F n P Q a w):c.wpIn F n P Q a w:=h ▸ H
noncomputable def cl11:Code:=match seqR cl7 with
 | .block _ (.loop b)=>(match seqL (seqR b) with | .block _ c=>seqL (seqR c) | c=>c)
 | c=>c
noncomputable def opcl11:Array Oper:=match cl11 with | .region _ ops _=>ops | _=>#[]
theorem cl11_eqA:cl11=.region 11 opcl11 true:=by kernel_rfl
theorem clock_out {v0 v1 v2 v5 v6 v11 v12 v13 v14 v15 v16 v17 v18 v19 v20 v21 v22 v23 v24 v25 v26 v27 v28 v29 v30 v31 v32 v33 v34 v35 v36 v37 v38 v39 v40 v41 v42 v43 v44 v45 v46 v47 v48 v49 v50 v51 v52 v53 v54 v55 v56 v57 v58 v59 v60 v61 v62 v63 v64 v65 v66 v67 v68 v69 v70 v71 v72 v73 v74 v75 v76 v77 v78 v79 v80 v81 v82 v83 v84 v85 v86 v87 v88 v89 v90 v91 v92:Value} (d:Dit) (r:Rows6) (l:Lg) (b off cap k:Nat) (x1 x2 x3 c:Int) (B:Nat) (out:Bool) (W5 wr:World) (ba:Option Addr) (bc:Nat) (hlt:k<l.ops.length) (oR:Old W5 wr)
  (CO:Hid (∀ w2,Old W5 w2→∀ i v,(d.cellsA r)[i]?=some v→w2.cell? ⟨B,i,none⟩=some v)) (CL:Hid (∀ w2,Old W5 w2→∀ i v,(#[num l.lo,num l.hi,.slice (some ⟨b,off,none⟩) l.ops.length cap]:Array Value)[i]?=some v→w2.cell? ⟨B+1,i,none⟩=some v))
  (E0:Hid (∀ w2,Old W5 w2→w2.cell? ⟨b,off+k * 3,none⟩=some (num x1))) (E1:Hid (∀ w2,Old W5 w2→w2.cell? ⟨b,off+k * 3+1,none⟩=some (num x2))) (E2:Hid (∀ w2,Old W5 w2→w2.cell? ⟨b,off+k * 3+2,none⟩=some (num x3)))
  (KO:Hid (∀ u,Old W5 u→CallsIn (FG 6) 0 Tryd.prog 30 #[d.val r,.agg #[num x1,num x2,num x3],num c] u fun e w'=>e=Ending.returned (.tuple #[.bool out,.bool true])∧Nx u w')) :
  cl11.wpIn (FG 6) 0 Tryd.prog (fun e a w'=>e=.normal∧a.defers=[]∧a.tmps=#[v0,v1,v2,.pointer (some ⟨B,0,none⟩),.pointer (some ⟨B+1,0,none⟩),v5,v6,num c,.slice ba l.ops.length bc,num 0,num k,.bool out,.bool true,v13,v14,v15,v16,v17,v18,v19,v20,v21,v22,v23,v24,v25,v26,v27,v28,v29,v30,v31,v32,v33,v34,v35,v36,v37,v38,v39,v40,v41,v42,v43,v44,v45,v46,v47,v48,v49,v50,v51,v52,v53,v54,v55,v56,v57,v58,.tuple #[.bool out,.bool true],d.val r,.pointer (some ⟨B+1,2,none⟩),.slice (some ⟨b,off,none⟩) l.ops.length cap,num k,.pointer (some ⟨b,off+k * 3,none⟩),.agg #[num x1,num x2,num x3],num c,.tuple #[.bool out,.bool true],.bool out,.bool true,v70,v71,v72,v73,v74,v75,v76,v77,v78,v79,v80,v81,v82,v83,v84,v85,v86,v87,v88,v89,v90,v91,v92,undef]∧Old W5 w') ⟨#[v0,v1,v2,.pointer (some ⟨B,0,none⟩),.pointer (some ⟨B+1,0,none⟩),v5,v6,num c,.slice ba l.ops.length bc,num 0,num k,v11,v12,v13,v14,v15,v16,v17,v18,v19,v20,v21,v22,v23,v24,v25,v26,v27,v28,v29,v30,v31,v32,v33,v34,v35,v36,v37,v38,v39,v40,v41,v42,v43,v44,v45,v46,v47,v48,v49,v50,v51,v52,v53,v54,v55,v56,v57,v58,v59,v60,v61,v62,v63,v64,v65,v66,v67,v68,v69,v70,v71,v72,v73,v74,v75,v76,v77,v78,v79,v80,v81,v82,v83,v84,v85,v86,v87,v88,v89,v90,v91,v92,undef],[]⟩ wr:=by
 rw [cl11_eqA]
 have oD:Old W5 wr.drew:=oR.trans (.nx (Below.drew (Below.refl _ _)))
 refine wpIn_region_C (fun x=>Old W5 x) (by kernel_rfl) ?_
 change wpAnyC _ _ _ _ _ _ _ 13 #[false,false,false,false,false,false,false,false,false,false,false,false,false] _ _
 refine wpAnyC_takeR (i:=0) (oi:=⟨some 60,.load 31 (.tmp 3),_,_,_,none⟩) (v:=d.val r) (plain_ops (by kernel_rfl)) rfl (by kernel_rfl) (by kernel_rfl) (by kernel_rfl) (fun _ _ _ h=>by cases h.1) (yC_dit rfl (fun x hx=>CO.out x hx)) ?_
 simp only [Act.put,List.setIfInBounds_toArray,List.set_cons_succ,List.set_cons_zero]
 refine wpAnyC_as (l':=#[true,false,false,false,false,false,false,false,false,false,false,false,false]) rfl ?_
 refine wpAnyC_takeR (i:=1) (oi:=⟨some 61,.fieldAddr 35 (.tmp 4) 1,_,_,_,none⟩) (v:=.pointer (some ⟨B+1,2,none⟩)) (plain_ops (by kernel_rfl)) rfl (by kernel_rfl) (by kernel_rfl) (by kernel_rfl) (fun _ _ _ h=>by cases h.1) (yC rfl (fun _=>rfl) fun x hx=>by clear CO CL KO oD;simp [execOp,go_sem]) ?_
 simp only [Act.put,List.setIfInBounds_toArray,List.set_cons_succ,List.set_cons_zero]
 refine wpAnyC_as (l':=#[true,true,false,false,false,false,false,false,false,false,false,false,false]) rfl ?_
 refine wpAnyC_takeR (i:=2) (oi:=⟨some 62,.load 33 (.tmp 61),_,_,_,none⟩) (v:=.slice (some ⟨b,off,none⟩) l.ops.length cap) (plain_ops (by kernel_rfl)) rfl (by kernel_rfl) (by kernel_rfl) (by kernel_rfl) (fun _ _ _ h=>by cases h.1) (yC rfl (fun _=>rfl) fun x hx=>by have e:=CL.out x hx 2 _ rfl;clear CO CL KO oD;simp [execOp,go_sem,e]) ?_
 simp only [Act.put,List.setIfInBounds_toArray,List.set_cons_succ,List.set_cons_zero]
 refine wpAnyC_as (l':=#[true,true,true,false,false,false,false,false,false,false,false,false,false]) rfl ?_
 refine wpAnyC_takeR (i:=3) (oi:=⟨some 63,.move (.tmp 10),_,_,_,none⟩) (v:=num k) (plain_ops (by kernel_rfl)) rfl (by kernel_rfl) (by kernel_rfl) (by kernel_rfl) (fun _ _ _ h=>by cases h.1) (yC_move rfl) ?_
 simp only [Act.put,List.setIfInBounds_toArray,List.set_cons_succ,List.set_cons_zero]
 refine wpAnyC_as (l':=#[true,true,true,true,false,false,false,false,false,false,false,false,false]) rfl ?_
 refine wpAnyC_takeR (i:=4) (oi:=⟨some 64,.indexAddr 33 (.tmp 62) (.tmp 63),_,_,_,none⟩) (v:=.pointer (some ⟨b,off+k * 3,none⟩)) (plain_ops (by kernel_rfl)) rfl (by kernel_rfl) (by kernel_rfl) (by kernel_rfl) (fun _ _ _ h=>by cases h.1) (yC rfl (fun _=>rfl) fun x hx=>by clear CO CL KO oD;simp [execOp,go_sem,hlt]) ?_
 simp only [Act.put,List.setIfInBounds_toArray,List.set_cons_succ,List.set_cons_zero]
 refine wpAnyC_as (l':=#[true,true,true,true,true,false,false,false,false,false,false,false,false]) rfl ?_
 refine wpAnyC_takeR (i:=5) (oi:=⟨some 65,.load 59 (.tmp 64),_,_,_,none⟩) (v:=.agg #[num x1,num x2,num x3]) (plain_ops (by kernel_rfl)) rfl (by kernel_rfl) (by kernel_rfl) (by kernel_rfl) (fun _ _ _ h=>by cases h.1) (yC rfl (fun _=>rfl) fun x hx=>by have e0:=E0.out x hx;have e1:=E1.out x hx;have e2:=E2.out x hx;clear CO CL KO oD;simp [execOp,go_sem,e0,e1,e2]) ?_
 simp only [Act.put,List.setIfInBounds_toArray,List.set_cons_succ,List.set_cons_zero]
 refine wpAnyC_as (l':=#[true,true,true,true,true,true,false,false,false,false,false,false,false]) rfl ?_
 refine wpAnyC_takeR (i:=6) (oi:=⟨some 66,.move (.tmp 7),_,_,_,none⟩) (v:=num c) (plain_ops (by kernel_rfl)) rfl (by kernel_rfl) (by kernel_rfl) (by kernel_rfl) (fun _ _ _ h=>by cases h.1) (yC_move rfl) ?_
 simp only [Act.put,List.setIfInBounds_toArray,List.set_cons_succ,List.set_cons_zero]
 refine wpAnyC_as (l':=#[true,true,true,true,true,true,true,false,false,false,false,false,false]) rfl ?_
 refine wpAnyC_only (i:=7) (o:=⟨some 67,.call { callee:=.value (.func 30),args:=#[.tmp 60,.tmp 65,.tmp 66],argTypes:=#[31,59,3] },_,_,_,none⟩) (by kernel_rfl) rfl rfl (oD) ?_
 intro K hK
 go_simp
 refine CallsIn.mono (((KO.out _ (oD)).mono fun e w' ⟨p,q⟩=>(⟨p,Old.trans (oD) (.nx q)⟩:e=Ending.returned (.tuple #[.bool out,.bool true])∧Old W5 w'))) ?_
 rintro e v7 ⟨rfl,y7⟩
 refine hK _ _ ?_
 refine wpAnyC_as (l':=#[true,true,true,true,true,true,true,true,false,false,false,false,false]) rfl ?_
 refine wpAnyC_takeR (i:=8) (oi:=⟨some 59,.move (.tmp 67),_,_,_,none⟩) (v:=.tuple #[.bool out,.bool true]) (plain_ops (by kernel_rfl)) rfl (by kernel_rfl) (by kernel_rfl) (by kernel_rfl) (fun _ _ _ h=>by cases h.1) (yC_move rfl) ?_
 simp only [Act.put,List.setIfInBounds_toArray,List.set_cons_succ,List.set_cons_zero]
 refine wpAnyC_as (l':=#[true,true,true,true,true,true,true,true,true,false,false,false,false]) rfl ?_
 refine wpAnyC_takeR (i:=9) (oi:=⟨some 68,.extract (.tmp 59) 0,_,_,_,none⟩) (v:=.bool out) (plain_ops (by kernel_rfl)) rfl (by kernel_rfl) (by kernel_rfl) (by kernel_rfl) (fun _ _ _ h=>by cases h.1) (yC rfl (fun _=>rfl) fun x hx=>by clear CO CL KO oD;simp [execOp,go_sem]) ?_
 simp only [Act.put,List.setIfInBounds_toArray,List.set_cons_succ,List.set_cons_zero]
 refine wpAnyC_as (l':=#[true,true,true,true,true,true,true,true,true,true,false,false,false]) rfl ?_
 refine wpAnyC_takeR (i:=10) (oi:=⟨some 69,.extract (.tmp 59) 1,_,_,_,none⟩) (v:=.bool true) (plain_ops (by kernel_rfl)) rfl (by kernel_rfl) (by kernel_rfl) (by kernel_rfl) (fun _ _ _ h=>by cases h.1) (yC rfl (fun _=>rfl) fun x hx=>by clear CO CL KO oD;simp [execOp,go_sem]) ?_
 simp only [Act.put,List.setIfInBounds_toArray,List.set_cons_succ,List.set_cons_zero]
 refine wpAnyC_as (l':=#[true,true,true,true,true,true,true,true,true,true,true,false,false]) rfl ?_
 refine wpAnyC_takeR (i:=11) (oi:=⟨some 11,.assign (.tmp 68),_,_,_,none⟩) (v:=.bool out) (plain_ops (by kernel_rfl)) rfl (by kernel_rfl) (by kernel_rfl) (by kernel_rfl) (fun _ _ _ h=>by cases h.1) (yC_assign rfl) ?_
 simp only [Act.put,List.setIfInBounds_toArray,List.set_cons_succ,List.set_cons_zero]
 refine wpAnyC_as (l':=#[true,true,true,true,true,true,true,true,true,true,true,true,false]) rfl ?_
 refine wpAnyC_takeR (i:=12) (oi:=⟨some 12,.assign (.tmp 69),_,_,_,none⟩) (v:=.bool true) (plain_ops (by kernel_rfl)) rfl (by kernel_rfl) (by kernel_rfl) (by kernel_rfl) (fun _ _ _ h=>by cases h.1) (yC_assign rfl) ?_
 simp only [Act.put,List.setIfInBounds_toArray,List.set_cons_succ,List.set_cons_zero]
 refine wpAnyC_as (l':=#[true,true,true,true,true,true,true,true,true,true,true,true,true]) rfl ?_
 refine wpAnyC_done (by kernel_rfl) (y7) ?_
 exact⟨rfl,rfl,rfl,y7⟩
theorem clock_tail {v0 v1 v2 v5 v6 v10 v11 v12 v13 v14 v15 v16 v17 v18 v19 v20 v21 v22 v23 v24 v25 v26 v27 v28 v29 v30 v31 v32 v33:Value} (d:Dit) (r:Rows6) (l:Lg) (al ba:Option Addr) (cap bc:Nat) (c:Int) (B:Nat) (W5:World) (hd:DitSl W5 d r) (hs:d.Small) (hg:Glob W5) (hc:logS d l=0) (hl:Sl W5 (.slice al l.ops.length cap) 3 (l.ops.map three)) (hcc:l.lo≤c∧c≤l.hi)
  (hbs:Sl W5 (.slice ba l.ops.length bc) 1 ((judgeF d l).1.map fun x=>[num x])) (cO:∀ i v,(d.cellsA r)[i]?=some v→W5.cell? ⟨B,i,none⟩=some v) (cL:∀ i v,(#[num l.lo,num l.hi,.slice al l.ops.length cap]:Array Value)[i]?=some v→W5.cell? ⟨B+1,i,none⟩=some v) (hB:B+1<W5.heap.size) :
  Lones Tryd.prog (FG 6) [cl5,cl7] (fun t W2=>Old W5 W2∧t.size=94) #[v0,v1,v2,.pointer (some ⟨B,0,none⟩),.pointer (some ⟨B+1,0,none⟩),v5,v6,num c,.slice ba l.ops.length bc,num 0,v10,v11,v12,v13,v14,v15,v16,v17,v18,v19,v20,v21,v22,v23,v24,v25,v26,v27,v28,v29,v30,v31,v32,v33,undef,undef,undef,undef,undef,undef,undef,undef,undef,undef,undef,undef,undef,undef,undef,undef,undef,undef,undef,undef,undef,undef,undef,undef,undef,undef,undef,undef,undef,undef,undef,undef,undef,undef,undef,undef,undef,undef,undef,undef,undef,undef,undef,undef,undef,undef,undef,undef,undef,undef,undef,undef,undef,undef,undef,undef,undef,undef,undef,undef] W5:=by
 have CO:=Lib.hid (fun w2 (o:Old W5 w2) i v (h:(d.cellsA r)[i]?=some v)=>(o.cell ⟨B,i,none⟩ (by show B<_;omega)).trans (cO i v h))
 have CL:=Lib.hid (fun w2 (o:Old W5 w2) i v (h:(#[num l.lo,num l.hi,.slice al l.ops.length cap]:Array Value)[i]?=some v)=>(o.cell ⟨B+1,i,none⟩ hB).trans (cL i v h))
 have HD:=Lib.hid hd
 have HG:=Lib.hid hg
 have HL:=Lib.hid hl
 have HBS:=Lib.hid hbs
 have HC:=Lib.hid hc
 clear cO cL hd hg hl hbs hc
 intro τ5
 generalize hq5:({ W5 with tape:=τ5 }:World)=u5
 have oA5:Old W5 u5:=by rw [← hq5];exact .same rfl
 clear hq5
 have q2:=CL.out u5 oA5 2 _ rfl
 simp only [cl5,clp6,clp5,clp4,clp3,clp2,clp1,lawB6,seqL,seqR,Tryd.f6]
 gi_wp2
 clear q2
 intro τ7
 generalize hq7:({ u5 with tape:=τ7 }:World)=u7
 have oA7:Old W5 u7:=oA5.trans (by rw [← hq7];exact .same rfl)
 clear hq7 oA5
 simp only [cl7,clp6,clp5,clp4,clp3,clp2,clp1,lawB6,seqL,seqR,Tryd.f6]
 gi_wp2
 gi_loopw [10] (fun i wr=>∃ k:Nat,k≤l.ops.length∧i=num k∧Old W5 wr) (fun i _=>l.ops.length-(intOf i).toNat)
 case atStart=>exact⟨0,Nat.zero_le _,rfl,oA7⟩
 case round =>
  obtain⟨k,hk,rfl,oR⟩:=hrel
  by_cases hlt:k<l.ops.length
  ·obtain⟨b,off,ha,hbl,hcl⟩:=HL.out.get (by simp;omega)
   subst ha
   have hx:l.ops[k]?=some l.ops[k]:=List.getElem?_eq_getElem hlt
   generalize l.ops[k]=x at hx
   obtain⟨x1,x2,x3⟩:=x
   have E0:=Lib.hid (fun w2 (o:Old W5 w2)=>show w2.cell? ⟨b,off+k * 3,none⟩=some (num x1) from (o.cell ⟨b,off+k * 3,none⟩ hbl).trans (hcl k 0 (three (x1,x2,x3)) (num x1) (by simp [hx]) rfl))
   have E1:=Lib.hid (fun w2 (o:Old W5 w2)=>show w2.cell? ⟨b,off+k * 3+1,none⟩=some (num x2) from (o.cell ⟨b,off+k * 3+1,none⟩ hbl).trans (hcl k 1 (three (x1,x2,x3)) (num x2) (by simp [hx]) rfl))
   have E2:=Lib.hid (fun w2 (o:Old W5 w2)=>show w2.cell? ⟨b,off+k * 3+2,none⟩=some (num x3) from (o.cell ⟨b,off+k * 3+2,none⟩ hbl).trans (hcl k 2 (three (x1,x2,x3)) (num x3) (by simp [hx]) rfl))
   obtain⟨bv,hb1,hb2⟩:=(judge_law HC.out).2.2 k _ hx
   obtain⟨b2,off2,ha2,hbl2,hcl2⟩:=HBS.out.get (by rw [List.length_map,(judge_law HC.out).2.1];omega)
   subst ha2
   have E3:=Lib.hid (fun w2 (o:Old W5 w2)=>show w2.cell? ⟨b2,off2+k,none⟩=some (num bv) from (o.cell ⟨b2,off2+k,none⟩ hbl2).trans (by have:=hcl2 k 0 [num bv] (num bv) (by simp [hb1]) rfl;simpa using this))
   have hop:=(log_ok HC.out).1.op k _ hx
   have hcl3:=(log_ok HC.out).2
   have hfew:=(log_ok HC.out).1.few
   have hck:checkS d=0:=by
    have h:=HC.out
    unfold logS at h
    split at h
    ·rename_i g;exact absurd h g
    ·rename_i g;exact Decidable.not_not.1 g
   dsimp only at hop hb2
   clear hx hcl hcl2 hb1
   by_cases hT:x3+c > 999999999
   ·have b1:decide (x3+c > 999999999)=true:=decide_eq_true hT
    have q2:=CL.out wr oR 2 _ rfl
    have e2:=E2.out wr oR
    clear hb2
    gi_wp2
    exact⟨⟨k+1,hlt,by simp,oR⟩,by simp [intOf];omega⟩
   ·have b1:decide (x3+c > 999999999)=false:=decide_eq_false hT
    have HB2:=Lib.hid hb2
    clear hb2
    generalize hOUT:d.out x1 x2 x3 c=OUT at *
    have KO:=Lib.hid (fun u (o:Old W5 u)=>show CallsIn (FG 6) 0 Tryd.prog 30 #[d.val r,.agg #[num x1,num x2,num x3],num c] u fun e w'=>e=Ending.returned (.tuple #[.bool OUT,.bool true])∧Nx u w' by
     have:=toFG 6 (m:=0) (outOf30_any d r x1 x2 x3 c u (HD.out.old o) hs (HG.out.old o) hck (by omega) (by omega) (by omega) (by omega))
     rw [hOUT] at this
     exact this)
    have HOUT:=Lib.hid hOUT
    clear hck hOUT
    rcases HB2.out.one with e | e | e
    ·skip
     subst e
     have q2:=CL.out wr oR 2 _ rfl
     have e2:=E2.out wr oR
     gi_upto_region 11 with fail
     clear q2 e2
     refine wpIn_code_eq (c':=cl11) (by kernel_rfl) ?_
     refine wpIn_mono (clock_out d r l b off cap k x1 x2 x3 c B _ W5 wr _ _ hlt oR CO CL E0 E1 E2 KO) ?_
     rintro e a w' ⟨rfl,hdf,hta,o'⟩
     obtain⟨ta,df⟩:=a
     dsimp only at hdf hta
     subst hta hdf
     have f3:=E3.out w' o'
     gi_wp2
     exact⟨⟨k+1,hlt,by simp,o'⟩,by simp [intOf];omega⟩
    ·skip
     subst e
     have hout:OUT=true:=HOUT.out.symm.trans (HB2.out.sure.1 rfl c (by omega) (by omega))
     clear HOUT
     subst hout
     have q2:=CL.out wr oR 2 _ rfl
     have e2:=E2.out wr oR
     gi_upto_region 11 with fail
     clear q2 e2
     refine wpIn_code_eq (c':=cl11) (by kernel_rfl) ?_
     refine wpIn_mono (clock_out d r l b off cap k x1 x2 x3 c B _ W5 wr _ _ hlt oR CO CL E0 E1 E2 KO) ?_
     rintro e a w' ⟨rfl,hdf,hta,o'⟩
     obtain⟨ta,df⟩:=a
     dsimp only at hdf hta
     subst hta hdf
     have f3:=E3.out w' o'
     gi_wp2
     exact⟨⟨k+1,hlt,by simp,o'⟩,by simp [intOf];omega⟩
    ·skip
     subst e
     have hout:OUT=false:=HOUT.out.symm.trans (HB2.out.never.1 rfl c (by omega) (by omega))
     clear HOUT
     subst hout
     have q2:=CL.out wr oR 2 _ rfl
     have e2:=E2.out wr oR
     gi_upto_region 11 with fail
     clear q2 e2
     refine wpIn_code_eq (c':=cl11) (by kernel_rfl) ?_
     refine wpIn_mono (clock_out d r l b off cap k x1 x2 x3 c B _ W5 wr _ _ hlt oR CO CL E0 E1 E2 KO) ?_
     rintro e a w' ⟨rfl,hdf,hta,o'⟩
     obtain⟨ta,df⟩:=a
     dsimp only at hdf hta
     subst hta hdf
     have f3:=E3.out w' o'
     gi_wp2
     exact⟨⟨k+1,hlt,by simp,o'⟩,by simp [intOf];omega⟩
  ·obtain rfl:k=l.ops.length:=by omega
   gi_wp2
   exact⟨oR,rfl⟩
end Go.Proofs.YtolholkjeehamaaDoor

namespace Go.Proofs.YtolholkjeehamaaDoor
open Go.RowKit Go.Con Go.Conc
local instance:Lone:=mainL
noncomputable def opcl4:Array Oper:=opsOf cl4
theorem cl4_eq:cl4=.region 4 opcl4 false:=by kernel_rfl
theorem results6 (v:Value) (t:Array Value) (h:t[6]?=some v) (σ:Rn):ResultsC Tryd.prog Tryd.f6 (t.map (ren σ)) (ren σ v):=by
 have:=resultsC_tmp (P:=Tryd.prog) (fn:=Tryd.f6) (t:=6) rfl (t.map (ren σ))
 simp only [Array.getD_eq_getD_getElem?,Array.getElem?_map,h,Option.map_some,Option.getD_some] at this
 exact this
theorem clock_go (E Fz Arg:Nat→Prop) (W0:World) (hArg:∀ x,Arg x↔x<W0.heap.size) (Post:Value→World→Prop) (φ:Ph) (d:Dit) (r:Rows6) (l:Lg) (al:Option Addr) (cap:Nat) (x:Int) (W:World) (hd:DitSl W d r) (hb:d.Big) (hg:Glob W) (hl:Sl W (.slice al l.ops.length cap) 3 (l.ops.map three)) (hlb:l.ops.length≤281474976710656) (hx:0≤x∧x≤255) (hkd:Kind W (.slice al l.ops.length cap))
  (hPost:∀ Fz1 ρ D own A fr W1 W',Here Tryd.prog true E Fz1 Arg W0 ρ D own A fr [] W1 W'→Post (ren ρ (.bool true)) W') :
  GoM Tryd.prog true E Fz Arg W0 (AtEnd Tryd.prog Post) φ [] (Fr 6 #[d.val r,.agg #[num l.lo,num l.hi,.slice al l.ops.length cap],.int .u8 x,undef,undef,undef,undef,undef,undef,undef,undef,undef,undef,undef,undef,undef,undef,undef,undef,undef,undef,undef,undef,undef,undef,undef,undef,undef,undef,undef,undef,undef,undef,undef,undef,undef,undef,undef,undef,undef,undef,undef,undef,undef,undef,undef,undef,undef,undef,undef,undef,undef,undef,undef,undef,undef,undef,undef,undef,undef,undef,undef,undef,undef,undef,undef,undef,undef,undef,undef,undef,undef,undef,undef,undef,undef,undef,undef,undef,undef,undef,undef,undef,undef,undef,undef,undef,undef,undef,undef,undef,undef,undef,undef] [.code lawB6]) [] W:=by
 have hgood:goodFn Tryd.prog (.func 6)=false:=by kernel_rfl
 have hL:=clock_lone d r l al cap x W hd hb hg hl hlb hx
 rw [lawB6_eq]
 refine Gm.seq ?_
 refine Gm.lone (F:=FG 6) _ rfl rfl rfl (List.mem_cons_self ..) (FG_ok 6 hgood) (by kernel_rfl) (by kernel_rfl) hL ?_
 clear hL
 intro t0 V0 hL
 refine Gm.seq (Gm.seq ?_)
 refine Gm.lone (F:=FG 6) _ rfl rfl rfl (List.mem_cons_self ..) (FG_ok 6 hgood) (by kernel_rfl) (by kernel_rfl) hL ?_
 clear hL
 rintro t W1 ⟨hO1,hs,h21 | ⟨h21,⟨hlog,hsm⟩,hL⟩⟩
 ·refine Gm.cond (b:=true) (eval_tmp h21) rfl ?_
  refine Gm.seq ?_
  rw [cl2_eq]
  refine Gm.region ?_
  rw [show List.range opcl2.size=[0,1] by kernel_rfl]
  refine Gm.enter (o:=⟨some 22,.call { callee:=.value (.func 20),args:=#[],argTypes:=#[] },_,_,_,none⟩) (c:={ callee:=.value (.func 20),args:=#[],argTypes:=#[] }) rfl rfl rfl rfl (by kernel_rfl) Tryd.func20 body20_of (by kernel_rfl) ?_
  rw [fr20]
  refine flows_go E _ Arg W0 hArg _ _ _ _ _ (hg.old hO1) ?_
  intro WL FzL φL hOL
  rw [Fr_finish (o:=⟨some 22,.call { callee:=.value (.func 20),args:=#[],argTypes:=#[] },_,_,_,none⟩) rfl]
  refine Gm.op (o:=⟨some 6,.assign (.tmp 22),_,_,_,none⟩) (.bool true) WL rfl rfl (by kernel_rfl) rfl (asg_run _ (eval_tmp (by simp only [putD_get,putD_same,putD_size,hs,ne_eq,Nat.reduceEqDiff,not_false_eq_true,Nat.reduceLT]))) id ?_
  refine Gm.regionEnd ?_
  refine Gm.done Tryd.func6 (by kernel_rfl) (results6 (.bool true) _ (by simp only [putD_get,putD_same,putD_size,hs,ne_eq,Nat.reduceEqDiff,not_false_eq_true,Nat.reduceLT])) ?_
  exact fun ρ D own A fr W' h=>hPost _ ρ D own A fr _ W' h
 ·refine Gm.cond (b:=false) (eval_tmp h21) rfl ?_
  refine Gm.skip ?_
  refine Gm.seq ?_
  refine Gm.lone (F:=FG 6) _ rfl rfl rfl (List.mem_cons_self ..) (FG_ok 6 hgood) (by kernel_rfl) (by kernel_rfl) hL ?_
  clear hL hO1 hs h21
  rintro t W2 ⟨hO2,B,v13,v14,v15,v16,v17,v18,v19,v20,v21,v23,v24,v25,v26,v27,rfl,hB,cD,cL⟩
  have hj:=judge_law hlog
  have hcb:=log_ok hlog
  have hls:l.ops.length≤1000000000:=by have:=hcb.1.few;omega
  refine Gm.seq ?_
  rw [cl4_eq]
  refine Gm.region ?_
  rw [show List.range opcl4.size=[0,1,2,3,4,5,6,7] by kernel_rfl]
  refine Gm.op (o:=⟨some 29,.load 31 (.tmp 3),_,_,_,none⟩) (d.val r) W2 rfl rfl (by kernel_rfl) rfl (load31_run _ (eval_tmp rfl) (cD 0 _ rfl) (cD 1 _ rfl) (cD 2 _ rfl) (cD 3 _ rfl) (cD 4 _ rfl) (cD 5 _ rfl) (cD 6 _ rfl) (cD 7 _ rfl) (cD 8 _ rfl) (cD 9 _ rfl) (cD 10 _ rfl) (cD 11 _ rfl) (cD 12 _ rfl) (cD 13 _ rfl)) id ?_
  simp only [putD,List.setIfInBounds_toArray,List.set_cons_succ,List.set_cons_zero]
  refine Gm.op (o:=⟨some 30,.load 35 (.tmp 4),_,_,_,none⟩) (.agg #[num l.lo,num l.hi,.slice al l.ops.length cap]) W2 rfl rfl (by kernel_rfl) rfl (load35_run _ (eval_tmp rfl) (cL 0 _ rfl) (cL 1 _ rfl) (cL 2 _ rfl)) id ?_
  simp only [putD,List.setIfInBounds_toArray,List.set_cons_succ,List.set_cons_zero]
  refine Gm.enter (o:=⟨some 31,.call { callee:=.value (.func 29),args:=#[.tmp 29,.tmp 30],argTypes:=#[31,35] },_,_,_,none⟩) (c:={ callee:=.value (.func 29),args:=#[.tmp 29,.tmp 30],argTypes:=#[31,35] }) rfl rfl rfl rfl (by kernel_rfl) Tryd.func29 body29_of (by kernel_rfl) ?_
  dsimp only
  have hargs:∀ t:Array Value,t[29]?=some (d.val r)→t[30]?=some (.agg #[num l.lo,num l.hi,.slice al l.ops.length cap])→(#[Operand.tmp 29,Operand.tmp 30]).map (Fr 6 t []).eval=#[d.val r,.agg #[num l.lo,num l.hi,.slice al l.ops.length cap]]:=fun t h1 h2=>by simp only [List.map_toArray,List.map_cons,List.map_nil,eval_tmp h1,eval_tmp h2]
  rw [hargs _ rfl rfl,fr29]
  clear hargs
  refine judge_go E _ Arg W0 hArg _ _ _ _ W2 d r l (.slice al l.ops.length cap) (hd.old hO2) hsm (hg.old hO2) (hl.old hO2) (hkd.old hO2) hls ?_
  intro W7 Fz7 φ7 bv hO7 hb7
  rw [hj.1]
  obtain⟨ba,bc,hbv⟩:=hb7.cases
  rw [List.length_map,hj.2.1] at hbv
  subst hbv
  rw [Fr_finish (o:=⟨some 31,.call { callee:=.value (.func 29),args:=#[.tmp 29,.tmp 30],argTypes:=#[31,35] },_,_,_,none⟩) rfl]
  simp only [putD,List.setIfInBounds_toArray,List.set_cons_succ,List.set_cons_zero]
  refine Gm.op (o:=⟨some 28,.move (.tmp 31),_,_,_,none⟩) (.tuple #[.slice ba l.ops.length bc,num 0]) W7 rfl rfl (by kernel_rfl) rfl (mv_run _ (eval_tmp rfl)) id ?_
  simp only [putD,List.setIfInBounds_toArray,List.set_cons_succ,List.set_cons_zero]
  refine Gm.op (o:=⟨some 32,.extract (.tmp 28) 0,_,_,_,none⟩) (.slice ba l.ops.length bc) W7 rfl rfl (by kernel_rfl) rfl (extract_run (vs:=#[.slice ba l.ops.length bc,num 0]) _ (eval_tmp rfl) rfl) id ?_
  simp only [putD,List.setIfInBounds_toArray,List.set_cons_succ,List.set_cons_zero]
  refine Gm.op (o:=⟨some 33,.extract (.tmp 28) 1,_,_,_,none⟩) (num 0) W7 rfl rfl (by kernel_rfl) rfl (extract_run (vs:=#[.slice ba l.ops.length bc,num 0]) _ (eval_tmp rfl) rfl) id ?_
  simp only [putD,List.setIfInBounds_toArray,List.set_cons_succ,List.set_cons_zero]
  refine Gm.op (o:=⟨some 8,.assign (.tmp 32),_,_,_,none⟩) (.slice ba l.ops.length bc) W7 rfl rfl (by kernel_rfl) rfl (as_run _ (eval_tmp rfl)) id ?_
  simp only [putD,List.setIfInBounds_toArray,List.set_cons_succ,List.set_cons_zero]
  refine Gm.op (o:=⟨some 9,.assign (.tmp 33),_,_,_,none⟩) (num 0) W7 rfl rfl (by kernel_rfl) rfl (as_run _ (eval_tmp rfl)) id ?_
  simp only [putD,List.setIfInBounds_toArray,List.set_cons_succ,List.set_cons_zero]
  refine Gm.regionEnd ?_
  have hO27:=hO2.trans hO7
  have hmo:0≤x % (l.hi-l.lo+1)∧x % (l.hi-l.lo+1)<l.hi-l.lo+1:=⟨Int.emod_nonneg _ (by omega),Int.emod_lt_of_pos _ (by omega)⟩
  have hL:=fun {v0 v1 v2 v5 v6 v10 v11 v12 v13 v14 v15 v16 v17 v18 v19 v20 v21 v22 v23 v24 v25 v26 v27 v28 v29 v30 v31 v32 v33:Value}=>clock_tail (v0:=v0) (v1:=v1) (v2:=v2) (v5:=v5) (v6:=v6) (v10:=v10) (v11:=v11) (v12:=v12) (v13:=v13) (v14:=v14) (v15:=v15) (v16:=v16) (v17:=v17) (v18:=v18) (v19:=v19) (v20:=v20) (v21:=v21) (v22:=v22) (v23:=v23) (v24:=v24) (v25:=v25) (v26:=v26) (v27:=v27) (v28:=v28) (v29:=v29) (v30:=v30) (v31:=v31) (v32:=v32) (v33:=v33) d r l al ba cap bc (l.lo+x % (l.hi-l.lo+1)) B W7 (hd.old hO27) hsm (hg.old hO27) hlog (hl.old hO27) (by omega) hb7 (fun i v h=>(hO7.cell ⟨B,i,none⟩ (by show B<_;omega)).trans (cD i v h)) (fun i v h=>(hO7.cell ⟨B+1,i,none⟩ hB).trans (cL i v h)) (Nat.lt_of_lt_of_le hB hO7.size)
  refine Gm.seq ?_
  refine Gm.lone (F:=FG 6) _ rfl rfl rfl (List.mem_cons_self ..) (FG_ok 6 hgood) (by kernel_rfl) (by kernel_rfl) hL ?_
  clear hL
  intro t5 V5 hL
  refine Gm.seq ?_
  refine Gm.lone (F:=FG 6) _ rfl rfl rfl (List.mem_cons_self ..) (FG_ok 6 hgood) (by kernel_rfl) (by kernel_rfl) hL ?_
  clear hL
  rintro t W8 ⟨hO8,hs⟩
  refine Gm.seq ?_
  rw [cl14_eq]
  refine Gm.region ?_
  rw [show List.range opcl14.size=[0,1] by kernel_rfl]
  refine Gm.enter (o:=⟨some 93,.call { callee:=.value (.func 20),args:=#[],argTypes:=#[] },_,_,_,none⟩) (c:={ callee:=.value (.func 20),args:=#[],argTypes:=#[] }) rfl rfl rfl rfl (by kernel_rfl) Tryd.func20 body20_of (by kernel_rfl) ?_
  rw [fr20]
  refine flows_go E _ Arg W0 hArg _ _ _ _ _ (hg.old (hO27.trans hO8)) ?_
  intro WL FzL φL hOL
  rw [Fr_finish (o:=⟨some 93,.call { callee:=.value (.func 20),args:=#[],argTypes:=#[] },_,_,_,none⟩) rfl]
  refine Gm.op (o:=⟨some 6,.assign (.tmp 93),_,_,_,none⟩) (.bool true) WL rfl rfl (by kernel_rfl) rfl (asg_run _ (eval_tmp (by simp only [putD_get,putD_same,putD_size,hs,ne_eq,Nat.reduceEqDiff,not_false_eq_true,Nat.reduceLT]))) id ?_
  refine Gm.regionEnd ?_
  refine Gm.done Tryd.func6 (by kernel_rfl) (results6 (.bool true) _ (by simp only [putD_get,putD_same,putD_size,hs,ne_eq,Nat.reduceEqDiff,not_false_eq_true,Nat.reduceLT])) ?_
  exact fun ρ D own A fr W' h=>hPost _ ρ D own A fr _ W' h
end Go.Proofs.YtolholkjeehamaaDoor

namespace Go.Proofs.YtolholkjeehamaaDoor
open Go.RowKit Go.Con Go.Conc Go.ChangeShapes Go.WideShapes Go.ChangeAt
local instance:Lone:=mainL
theorem fr6 (a0 a1 a2:Value):#[a0,a1,a2]++Array.replicate (Tryd.f6.ntmps-(#[a0,a1,a2]:Array Value).size) undef=#[a0,a1,a2,undef,undef,undef,undef,undef,undef,undef,undef,undef,undef,undef,undef,undef,undef,undef,undef,undef,undef,undef,undef,undef,undef,undef,undef,undef,undef,undef,undef,undef,undef,undef,undef,undef,undef,undef,undef,undef,undef,undef,undef,undef,undef,undef,undef,undef,undef,undef,undef,undef,undef,undef,undef,undef,undef,undef,undef,undef,undef,undef,undef,undef,undef,undef,undef,undef,undef,undef,undef,undef,undef,undef,undef,undef,undef,undef,undef,undef,undef,undef,undef,undef,undef,undef,undef,undef,undef,undef,undef,undef,undef,undef]:=by
 simp only [Tryd.ntmps6,List.size_toArray,List.length_cons,List.length_nil,Nat.reduceAdd,Nat.reduceSub,Array.replicate_succ,Array.replicate_zero,List.push_toArray,List.append_toArray,List.nil_append,List.cons_append]
theorem clock_fin (d:Dit) (r:Rows6) (l:Lg) (al:Option Addr) (cap:Nat) (x2:Int) (W:World) (hd:DitSl W d r) (hb:d.Big) (hg:Glob W) (hl:(Sl W (.slice al l.ops.length cap) 3 (l.ops.map three))) (hkd:(Kind W (.slice al l.ops.length cap))) (hlb:(l.ops.length≤281474976710656)) (hx2:(0≤x2∧x2≤255)) :
  Con.Fin Tryd.prog (fun u W'=>u=.bool true∧Con.Left W W') (solo (G (Frame.enter Tryd.prog 6 #[d.val r,.agg #[num l.lo,num l.hi,.slice al l.ops.length cap],.int .u8 x2] .normal) []) W) #[]:=by
 refine law_fin Tryd.func6 lawB6_of hg (fun v hv=>?_) fun c Post hPost=>?_
 ·simp only [List.mem_cons,List.not_mem_nil,or_false] at hv
  rcases hv with rfl | rfl | rfl
  ·exact hd.same
  ·exact Same.agg fun v hv=>by (simp only [List.mem_cons,List.not_mem_nil,or_false] at hv;rcases hv with rfl | rfl | rfl;exact Same.num _;exact Same.num _;exact Same.slice ⟨_,_,_,rfl⟩ hkd)
  ·exact⟨fun c=>by simp [ren],by simp [ren]⟩
 ·rw [fr6]
  exact clock_go _ _ _ _ (fun _=>Iff.rfl) Post _ d r l al cap x2 _ hd.entry hb hg.entry (hl.entry (by intro l hl x hx;obtain⟨z,_,rfl⟩:=List.mem_map.1 hl;simp only [three,List.mem_cons,List.not_mem_nil,or_false] at hx;rcases hx with rfl | rfl | rfl<;>exact inv_num _)) hlb hx2 hkd.entry hPost
theorem clock_lifted (os:Os) (started:os.Started) (H:Type) (enc:TypeId×Value→H) :
  ReturnsInLeavingWide {} Tryd.checked os 6 .any (fun w args=>(Rows.turnClockSpec.pre enc Tryd.prog Tryd.f6 [] false w args∧laidMetH Tryd.prog laid2 w)∧sizedMet enc Tryd.prog Tryd.f6 (OpenSpec.ofChange Rows.turnClockSpec) false w args)
   (Rows.turnClockSpec.post enc Tryd.prog Tryd.f6 false true false false):=by
 refine returnsInLeavingWide_and (C:=Tryd.checked) (X:=fun w _=>laidMetH Tryd.prog laid2 w) (fun _ _ _ hh h=>h.of_heap hh) own_knob started Tryd.func6
  (ChangeSpec.witness_shaped (enc:=enc) (C:=Tryd.checked) (os:=os) (X:=fun w _=>laidMetH Tryd.prog laid2 w) false (World.doorLaid Tryd.prog 600 os)
   #[.agg #[.slice none 0 0,.slice none 0 0,.int .i64 0,.int .i64 0,.int .i64 0,.int .i64 0,.slice none 0 0,.slice none 0 0,.slice none 0 0,.int .i64 0,.int .i64 0,.int .i64 0,.int .i64 0,.slice none 0 0],.agg #[.int .i64 0,.int .i64 0,.slice none 0 0],.int .u8 0] 8 rfl (World.shaped_of_RefB (by kernel_rfl) (by kernel_rfl)) (by kernel_rfl) (by kernel_rfl) (by kernel_rfl) (door_met os _)) ?_
 intro W base args ds gs before hval0 hW _ hsz hL
 have hval:∀ (j:Nat) t v,Tryd.f6.params[j]?=some t→args[j]?=some v→Value.okWide Tryd.prog W .any base t v:=hval0
 have hW':=hW
 obtain⟨p,q,hA0,hV,rfl,hfz,hnd⟩:=hW
 have hA:DataW.TrodAll enc Tryd.prog W 0 (fun _=>true) true Tryd.f6.params.toList args.toList ds p:=hA0
 rw [Tryd.params6] at hA hval
 obtain⟨v0,v1,v2,d0,d1,d2,p0,p1,p2,rfl,rfl,rfl,h0,h1,h2⟩:=trodAll_three hA
 obtain⟨rfl,rfl⟩:=trodVars_none hV
 have hfit1:Fits 35 d1:=fun n hn=>by
  have:=List.all_eq_true.1 hsz n (DataW.weights_mem_each (P:=Tryd.prog) (j:=1) (t:=35) (d:=d1) (by rw [show Tryd.checked.prog=Tryd.prog from rfl,Tryd.params6];rfl) rfl n hn)
  simpa using this
 obtain⟨l,al,cap,rfl,hl,hkd,hlb⟩:=log_open (hval 1 35 v1 rfl rfl) h1 hfit1
 obtain⟨x2,rfl,rfl,rfl,w2⟩:=open_int Tryd.underlying5 (hval 2 5 v2 rfl rfl) h2
 have hx2:0≤x2∧x2≤255:=by
  have h:=w2
  simp only [Lit.wf,Bool.and_eq_true,decide_eq_true_eq] at h
  exact h
 have hfit:Fits 31 d0:=fun n hn=>by
  have:=List.all_eq_true.1 hsz n (DataW.weights_mem_each (P:=Tryd.prog) (j:=0) (t:=31) (d:=d0) (by rw [show Tryd.checked.prog=Tryd.prog from rfl,Tryd.params6];rfl) rfl n hn)
  simpa using this
 obtain⟨d,r,rfl,hd,hb⟩:=dit_open (hval 0 31 v0 rfl rfl) h0 hfit
 clear hA0 hval0
 try simp only [List.append_nil] at hW'
 have hlt:=fun x hx=>hW'.lt x hx
 try simp only [Array.size_empty,Nat.add_zero] at hlt
 refine fin_post (clock_fin d r l al cap x2 W hd hb (of_laid hL) hl hkd hlb hx2) fun W' hl=>?_
 have ha:=trodAll_mk3 (left_trod (by kernel_rfl) (of_decide_eq_true (by kernel_rfl)) h0 hl fun x hx=>hlt x (by simp [hx])) (left_trod (by kernel_rfl) (of_decide_eq_true (by kernel_rfl)) h1 hl fun x hx=>hlt x (by simp [hx])) (shut_int Tryd.underlying5 w2)
 try simp only [List.append_nil] at ha
 exact⟨[d0,d1,.lit (.int .u8 x2)],[],_,[],_,[],hW',trodAll_mk1 (shut_bool Tryd.underlying4 _),ha,rfl,left_kept hl _,fun h=>by cases h⟩
theorem clock_holds:Rows.TurnClockSaid :=
 OpenClaim.holds_of_wide_leaving 6 Tryd.f6 rfl rfl rfl rfl rfl rfl rfl ⟨rfl,rfl,rfl,rfl,rfl⟩ rfl rfl rfl rfl rfl (by kernel_rfl) Tryd.func6 (by kernel_rfl)
  (of_decide_eq_true (by kernel_rfl)) (by unfold Func.isWrapper;first | (rw [if_pos (by decide +kernel)];kernel_rfl) | (rw [if_neg (by decide +kernel)];exact⟨rfl,rfl⟩))
  (fun os started H enc _=>clock_lifted os started H enc)
theorem clock_card:Rows.TurnClockCardSaid :=
 tied_plain_goes .later [] [.funcs,.data] true (true,"13bbfa5877394a3cde13138796d6bb679173f8167c87f9ccc98cd9f3e99a425f") false true
  clock_holds (fun _ h=>by cases h) (by kernel_rfl) (fun _ h=>by cases h) turnClock_row_tie rfl ⟨rfl,rfl⟩ (by kernel_rfl) rfl
  (fun f fn hf hfn=>by
   obtain rfl:f=6:=Option.some.inj ((show Tryd.prog.funcNamed "crocus/crocuslaw02.TurnClock" = some 6 by kernel_rfl).symm.trans hf) |>.symm
   obtain rfl:fn=Tryd.f6:=(Option.some.inj (Tryd.func6.symm.trans hfn)).symm
   exact⟨by kernel_rfl,fun j t ht=>by
    rw [Tryd.params6] at ht
    have hm:t∈[31,35,5]:=by simpa using Array.mem_of_getElem? ht
    have hall:([31,35,5].all fun u=>!Tryd.prog.wantsStandIn u)=true:=by kernel_rfl
    exact (show Tryd.prog.wantsStandIn t=false by simpa using List.all_eq_true.1 hall t hm)⟩)
  (by kernel_rfl)
#print axioms clock_card
end Go.Proofs.YtolholkjeehamaaDoor

