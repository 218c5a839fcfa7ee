/- For every ditch, any byte, any row of picks and any two words of sixteen bits the law TurnGets returns true, does not panic, and leaves its arguments as they were. Conditions: the package's variables hold what the program lays in them at its start (laid), and the arguments are values as the card tells. -/
import Derived.Test.YtolholkjeehamaaDoorR1
import Derived.Test.YtolholkjeehamaaDoorR40
import Derived.Test.YtolholkjeehamaaDoorC39
import Derived.Test.YtolholkjeehamaaDoorC34
import Derived.Test.YtolholkjeehamaaDoorC09
import Derived.Deep.Upon
import Derived.Carry
set_option linter.all false
set_option maxRecDepth 100000
set_option maxHeartbeats 4000000
namespace Go.Proofs.YtolholkjeehamaaDoor
end Go.Proofs.YtolholkjeehamaaDoor
namespace Go.Proofs.YtolholkjeehamaaDoor
open Go.RowKit
theorem scan_all {α:Type} {f:Nat→α→Int}:∀ {l:List α} {i:Nat},(∀ j x,l[j]?=some x→f (i+j) x=0)→scan f i l=0
 | [],_,_=>rfl
 | y :: l,i,H=>by
  rw [scan,if_pos (by simpa using H 0 y rfl)]
  exact scan_all fun j x h=>by
   have:=H (j+1) x (by simpa using h)
   rwa [show i+(j+1)=i+1+j by omega] at this
end Go.Proofs.YtolholkjeehamaaDoor

namespace Go.Proofs.YtolholkjeehamaaDoor
def stepS (loss x:Int):Int:=x-(x * loss).tdiv 1000
theorem step_bd {loss x:Int} (hl:0≤loss∧loss≤1000) (hx:0≤x∧x≤100000):0≤stepS loss x∧stepS loss x≤x:=(behind_step hl hx).2
theorem step_mono {l m x y:Int} (hl:0≤l∧l≤m∧m≤1000) (hx:0≤x∧x≤y∧y≤100000):stepS m x≤stepS l y:=by
 unfold stepS
 have h0:0≤x * m:=Int.mul_nonneg hx.1 (by omega)
 have h1:0≤y * l:=Int.mul_nonneg (by omega) hl.1
 rw [Int.tdiv_eq_ediv_of_nonneg h0,Int.tdiv_eq_ediv_of_nonneg h1]
 have h2:x * l≤x * m:=Int.mul_le_mul_of_nonneg_left hl.2.1 hx.1
 have h3:(y-x) * l≤(y-x) * 1000:=Int.mul_le_mul_of_nonneg_left (by omega) (by omega)
 rw [Int.sub_mul,Int.sub_mul] at h3
 omega
theorem behind_last (loss:Int):∀ (n:Nat) (x:Int),behindS loss (n+1) x=stepS loss (behindS loss n x)
 | 0,x=>rfl
 | n+1,x=>behind_last loss n (x-(x * loss).tdiv 1000)
theorem behind_mono {l m:Int} (hl:0≤l∧l≤m∧m≤1000):∀ (n:Nat) (x y:Int),0≤x∧x≤y∧y≤100000→behindS m n x≤behindS l n y
 | 0,x,y,h=>h.2.1
 | n+1,x,y,h=>by
  rw [behind_last,behind_last]
  have h1:=behind_mono hl n x y h
  have h2:=behind_bd (loss:=m) (by omega) n x (by omega)
  have h3:=behind_bd (loss:=l) (by omega) n y (by omega)
  exact step_mono hl (by omega)
theorem behind_more {l:Int} (hl:0≤l∧l≤1000) {x:Int} (hx:0≤x∧x≤100000) (n:Nat):∀ k:Nat,behindS l (n+k) x≤behindS l n x
 | 0=>Int.le_refl _
 | k+1=>by
  have h:=behind_more hl hx n k
  have h2:=behind_bd hl (n+k) x hx
  have h3:=step_bd (x:=behindS l (n+k) x) hl (by omega)
  rw [show n+(k+1)=n+k+1 by omega,behind_last]
  omega
theorem ground_zero {d:Dit} (hf:0≤d.flow.1∧d.flow.1≤d.flow.2∧d.flow.2≤100000) (hl:0≤d.loss.1∧d.loss.1≤d.loss.2∧d.loss.2≤1000) (h8:d.plots.length≤8)
  (hp:∀ (i:Nat) (p:Plot),d.plots[i]?=some p→nameB p.name=true∧(∀ j o,j<i→d.plots[j]?=some o→o.name≠p.name)∧(0≤p.holder∧p.holder≤(d.holders.length:Int)-1)∧(0≤p.far∧p.far≤20)∧(0≤p.low∧p.low≤p.high∧p.high≤999999999)∧(0≤p.worth∧p.worth≤10000)):groundS d=0:=by
 unfold groundS
 rw [if_neg (by simp only [Decidable.not_not];exact⟨hf,hl⟩),if_neg (by omega)]
 refine scan_all fun j p hj=>?_
 obtain⟨h1,h2,h3,h4,h5,h6⟩:=hp j p hj
 have ha:((d.plots.take (0+j)).any fun o=>decide (o.name=p.name))=false:=by
  rw [List.any_eq_false]
  intro o ho
  obtain⟨i,hi⟩:=List.mem_iff_getElem?.1 ho
  rw [List.getElem?_take,Nat.zero_add] at hi
  split at hi
  ·simpa using h2 i o (by assumption) hi
  ·cases hi
 unfold plotF
 rw [h1,ha,decide_eq_true h3,decide_eq_true h4,decide_eq_true h5,decide_eq_true h6]
 rfl
def Dit.wet (d:Dit) (flow loss:Int×Int) (plots:List Plot):Dit:={ d with flow:=flow,loss:=loss,plots:=plots }
theorem check_wet {d:Dit} (hc:checkS d=0) {flow loss:Int×Int} {plots:List Plot} (h:groundS (d.wet flow loss plots)=0):checkS (d.wet flow loss plots)=0:=by
 obtain⟨h1,h2,h3,_⟩:=check_parts hc
 have e1:peopleS (d.wet flow loss plots)=0:=h1
 have e2:timesS (d.wet flow loss plots)=0:=h2
 have e3:changesS (d.wet flow loss plots)=0:=h3
 unfold checkS
 rw [if_neg (by simp [e1]),if_neg (by simp [e2]),if_neg (by simp [e3]),h]
def getsF (d:Dit) (k:Int):(Int×Int)×Int:=if checkS d≠0 then ((0,0),checkS d) else match (if 0≤k then d.plots[k.toNat]? else none) with | some p=>(d.gets p,0) | none=>((0,0),6)
theorem getsF_of {d:Dit} (hc:checkS d=0) {k:Nat} {p:Plot} (hp:d.plots[k]?=some p):getsF d k=(d.gets p,0):=by
 unfold getsF
 rw [if_neg (by simp [hc]),if_pos (by omega),Int.toNat_natCast,hp]
theorem gets_law {d:Dit} (hc:checkS d=0) {k:Nat} {p:Plot} (hp:d.plots[k]?=some p) {a b c:Int} (ha:0≤a) (hb:0≤b) (hcc:0≤c) {o q:Dit}
  (ho:o=d.wet (min 100000 (d.flow.1+a),min 100000 (d.flow.2+a)) (max 0 (d.loss.1-b),max 0 (d.loss.2-b)) d.plots)
  (hq:q=d.wet d.flow d.loss (d.plots.set k { p with far:=min 20 (p.far+c) })) :
  ∃ x y u v s t:Int,getsF d k=((x,y),0)∧getsF o k=((u,v),0)∧getsF q k=((s,t),0)∧x≤u∧y≤v∧s≤x∧t≤y∧x=behindS d.loss.2 p.far.toNat d.flow.1∧y=behindS d.loss.1 p.far.toNat d.flow.2:=by
 have hO:=ok_of_check hc
 have hfl:=hO.flow
 have hls:=hO.loss
 have hpl:=hO.pl k p hp
 have hkl:k<d.plots.length:=(List.getElem?_eq_some_iff.1 hp).1
 have c1:checkS o=0:=by
  subst ho
  refine check_wet hc (ground_zero ?_ ?_ hO.p8 hO.pl)
  ·show 0≤min 100000 (d.flow.1+a)∧min 100000 (d.flow.1+a)≤min 100000 (d.flow.2+a)∧min 100000 (d.flow.2+a)≤100000;omega
  ·show 0≤max 0 (d.loss.1-b)∧max 0 (d.loss.1-b)≤max 0 (d.loss.2-b)∧max 0 (d.loss.2-b)≤1000;omega
 have c2:checkS q=0:=by
  subst hq
  refine check_wet hc (ground_zero hfl hls (by show (d.plots.set _ _).length≤8;rw [List.length_set];exact hO.p8) ?_)
  show ∀ (i:Nat) (x:Plot),(d.plots.set k { p with far:=min 20 (p.far+c) })[i]?=some x→_
  have hget:∀ (i:Nat) (x:Plot),(d.plots.set k { p with far:=min 20 (p.far+c) })[i]?=some x→∃ y,d.plots[i]?=some y∧x.name=y.name∧x.holder=y.holder∧x.low=y.low∧x.high=y.high∧x.worth=y.worth∧(0≤y.far∧y.far≤20→0≤x.far∧x.far≤20):=by
   intro i x hx
   rw [List.getElem?_set] at hx
   split at hx
   ·rename_i e
    subst e
    obtain rfl:=Option.some.inj hx
    exact⟨p,hp,rfl,rfl,rfl,rfl,rfl,fun h=>by show 0≤min 20 (p.far+c)∧min 20 (p.far+c)≤20;omega⟩
   ·exact⟨x,hx,rfl,rfl,rfl,rfl,rfl,id⟩
  intro i x hx
  obtain⟨y,hy,e1,e2,e3,e4,e5,e6⟩:=hget i x hx
  obtain⟨g1,g2,g3,g4,g5,g6⟩:=hO.pl i y hy
  rw [e1,e2,e3,e4,e5]
  refine⟨g1,fun j z hj hz=>?_,g3,e6 g4,g5,g6⟩
  obtain⟨y',hy',e',_⟩:=hget j z hz
  rw [e']
  exact g2 j y' hj hy'
 have hfn:∃ n:Nat,p.far=n:=⟨p.far.toNat,by omega⟩
 obtain⟨n,hn⟩:=hfn
 refine⟨_,_,_,_,_,_,getsF_of hc hp,getsF_of c1 (p:=p) (by rw [ho];exact hp),getsF_of c2 (p:={ p with far:=min 20 (p.far+c) }) (by rw [hq];show (d.plots.set _ _)[k]?=_;rw [List.getElem?_set,if_pos rfl,if_pos hkl]),?_,?_,?_,?_,rfl,rfl⟩
 ·subst ho
  exact behind_mono (by show 0≤max 0 (d.loss.2-b)∧max 0 (d.loss.2-b)≤d.loss.2∧d.loss.2≤1000;omega) _ _ _ (by show 0≤d.flow.1∧d.flow.1≤min 100000 (d.flow.1+a)∧min 100000 (d.flow.1+a)≤100000;omega)
 ·subst ho
  exact behind_mono (by show 0≤max 0 (d.loss.1-b)∧max 0 (d.loss.1-b)≤d.loss.1∧d.loss.1≤1000;omega) _ _ _ (by show 0≤d.flow.2∧d.flow.2≤min 100000 (d.flow.2+a)∧min 100000 (d.flow.2+a)≤100000;omega)
 ·subst hq
  show behindS d.loss.2 (min 20 (p.far+c)).toNat d.flow.1≤behindS d.loss.2 p.far.toNat d.flow.1
  rw [show (min 20 (p.far+c)).toNat=p.far.toNat+((min 20 (p.far+c)).toNat-p.far.toNat) by omega]
  exact behind_more (by omega) (by omega) _ _
 ·subst hq
  show behindS d.loss.1 (min 20 (p.far+c)).toNat d.flow.2≤behindS d.loss.1 p.far.toNat d.flow.2
  rw [show (min 20 (p.far+c)).toNat=p.far.toNat+((min 20 (p.far+c)).toNat-p.far.toNat) by omega]
  exact behind_more (by omega) (by omega) _ _
end Go.Proofs.YtolholkjeehamaaDoor

namespace Go.Proofs.YtolholkjeehamaaDoor
open Go.RowKit
theorem res47 (tmps:Array Value) (W:World) (b:Nat) (x y f:Int) (hp:tmps.getD 4 undef=.pointer (some ⟨b,0,none⟩)) (h5:tmps.getD 5 undef=num f) (h0:W.cell? ⟨b,0,none⟩=some (num x)) (h1:W.cell? ⟨b,1,none⟩=some (num y)) :
  (results Tryd.f47 tmps).run Tryd.prog W=.ok (.tuple #[.agg #[num x,num y],num f]) W:=by
 have hp' : tmps[4]?.getD undef=.pointer (some ⟨b,0,none⟩):=by simpa using hp
 have h5' : tmps[5]?.getD undef=num f:=by simpa using h5
 simp [results,Tryd.results47,go_sem,hp',h5',h0,h1]
theorem getsF_bad {d:Dit} (hc:checkS d≠0) (k:Int):getsF d k=((0,0),checkS d):=by unfold getsF;rw [if_pos hc]
theorem getsF_none {d:Dit} (hc:checkS d=0) {k:Int} (hk:¬ (0≤k∧k≤(d.plots.length:Int)-1)):getsF d k=((0,0),6):=by
 unfold getsF
 rw [if_neg (by simp [hc])]
 split
 ·rename_i p hp
  split at hp
  ·have:=(List.getElem?_eq_some_iff.1 hp).1
   omega
  ·cases hp
 ·rfl
theorem getsP_any (d:Dit) (r:Rows6) (k:Int) (w:World) (hd:DitSl w d r) (hs:d.Small) (hg:Glob w) :
  CallsIn FL 0 Tryd.prog 47 #[d.val r,num k] w fun e w'=>e=.returned (.tuple #[.agg #[num (getsF d k).1.1,num (getsF d k).1.2],num (getsF d k).2])∧Nx w w':=by
 obtain⟨W,hW,n0,hWs,cW⟩:=boxed w d r
 generalize hY:W.alloc (.cells #[.int .i64 0,.int .i64 0] 28)=Y
 have nY:Nx W Y:=by rw [← hY];exact (Below.refl _ _).alloc (Nat.le_refl _) _
 have n1:Nx w Y:=Nx.trans n0 nY
 have sY:w.heap.size+1<Y.heap.size:=by rw [← hY];simp [hWs]
 have hz:∀ w1,Nx Y w1→w1.cell? ⟨w.heap.size+1,0,none⟩=some (num 0)∧w1.cell? ⟨w.heap.size+1,1,none⟩=some (num 0)∧w1.frozen? ⟨w.heap.size+1,0,none⟩=false∧w1.frozen? ⟨w.heap.size+1,1,none⟩=false:=by
  intro w1 nx
  have h0:Y.heap[w.heap.size+1]?=some (.cells #[.int .i64 0,.int .i64 0] 28 (0,0)):=by rw [← hY,← hWs];exact heap_alloc_new _ _
  have hb:w1.heap[w.heap.size+1]?=some (.cells #[.int .i64 0,.int .i64 0] 28 (0,0)):=(nx.block _ sY).trans h0
  refine⟨?_,?_,frozen_of_row _ _ _ _ _ hb,frozen_of_row _ _ _ _ _ hb⟩<;>(unfold World.cell?;dsimp only;rw [hb];rfl)
 have hN:Nx Y Y:=Below.refl _ _
 obtain⟨c0,c1,c2,c3,c4,c5,c6,c7,c8,c9,c10,c11,c12,c13⟩:=cells14 (cW _ nY)
 by_cases hc:checkS d=0
 ·have hO:=ok_of_check hc
  have k66:=open_any d r Y (hd.nx n1) hs (hg.nx n1) hc
  obtain⟨ap,capp,ep⟩:=hd.plots.cases
  rw [List.length_map] at ep
  have h13:∀ w1,Nx Y w1→w1.cell? ⟨w.heap.size,13,none⟩=some (.slice ap d.plots.length capp):=fun w1 nx=>(cW w1 (Nx.trans nY nx) 13 r.p rfl).trans (by rw [ep])
  have h8:=hO.p8
  clear ep
  have H0:Hid (d.Ok):=hO
  by_cases hk:0≤k∧k≤(d.plots.length:Int)-1
  ·obtain⟨m,rfl⟩:=Int.eq_ofNat_of_zero_le hk.1
   have hml:m<d.plots.length:=by omega
   have hp:d.plots[m]?=some d.plots[m]:=List.getElem?_eq_getElem hml
   have HA:Hid (getsF d m=(d.gets d.plots[m],0)):=getsF_of hc hp
   have k67:=fun w1=>between_tt hk w1
   have HP:=Lib.hid hp
   have HW2:=Lib.hid n1
   generalize hgx:(d.gets d.plots[m]).1=gx at *
   generalize hgy:(d.gets d.plots[m]).2=gy at *
   have HX:=Lib.hid hgx
   have HY:=Lib.hid hgy
   clear hc cW hO hp hgx hgy hd
   gi_enter Tryd.func47,Tryd.ntmps47
   gi_upto_region 6 with (first
    | (gi_at_call 66;refine CallsIn.mono k66 ?_;rintro e w1 ⟨B,M,rfl,n2,hB,hw⟩;clear c13;have c13:=h13 w1 n2;have HW:=Lib.hid hw;clear hw)
    | (gi_at_call 67;refine CallsIn.mono (k67 _) ?_;rintro e w1 ⟨rfl,rfl⟩)
    | gi_in)
   have k81:=gets_any B d m _ w1 HW.out.wat.dit H0.out HP.out
   rw [HX.out,HY.out] at k81
   clear k66 k67 h13 c0 c1 c2 c3 c4 c5 c6 c7 c8 c9 c10 c11 c12 c13
   gi_wp2_with (first
    | (gi_at_call 81;refine CallsIn.mono k81 ?_;rintro e w2 ⟨rfl,n3⟩;obtain⟨z0,z1,z2,z3⟩:=hz w2 (Nx.trans n2 n3))
    | gi_in)
   obtain⟨r1,r2⟩:=set2 w2 (w.heap.size+1) gx gy 0 0 z0 z1
   refine bodyPost_ret (res47 _ _ (w.heap.size+1) gx gy 0 rfl rfl r1 r2) rfl ?_
   exact⟨by rw [HA.out,HX.out,HY.out],((Nx.trans HW2.out (Nx.trans n2 n3)).setCell (by exact Nat.le_succ _) _).setCell (by exact Nat.le_succ _) _⟩
  ·have HA:Hid (getsF d k=((0,0),6)):=getsF_none hc hk
   have k67:=fun w1=>between_ff hk w1
   have HW2:=Lib.hid n1
   clear hc cW hO hd hk
   gi_enter Tryd.func47,Tryd.ntmps47
   gi_wp2_with (first
    | (gi_at_call 66;refine CallsIn.mono k66 ?_;rintro e w1 ⟨B,M,rfl,n2,hB,hw⟩;clear c13;have c13:=h13 w1 n2;clear hw;obtain⟨z0,z1,z2,z3⟩:=hz w1 n2)
    | (gi_at_call 67;refine CallsIn.mono (k67 _) ?_;rintro e w1 ⟨rfl,rfl⟩)
    | gi_in)
   obtain⟨r1,r2⟩:=set2 w1 (w.heap.size+1) 0 0 0 0 z0 z1
   refine bodyPost_ret (res47 _ _ (w.heap.size+1) 0 0 6 rfl rfl r1 r2) rfl ?_
   exact⟨by rw [HA.out],((Nx.trans HW2.out n2).setCell (by exact Nat.le_succ _) _).setCell (by exact Nat.le_succ _) _⟩
 ·have k66:=open_bad d r Y (hd.nx n1) hs (hg.nx n1) hc
  have HA:Hid (getsF d k=((0,0),checkS d)):=getsF_bad hc k
  have hb:(checkS d != 0)=true:=by simpa using hc
  have hb2:(checkS d == 0)=false:=by simpa using hc
  have HW2:=Lib.hid n1
  generalize checkS d=ck at *
  clear cW hc hd
  gi_enter Tryd.func47,Tryd.ntmps47
  gi_wp2_with (first
   | (gi_at_call 66;refine CallsIn.mono k66 ?_;rintro e w1 ⟨rfl,n2⟩;obtain⟨z0,z1,z2,z3⟩:=hz w1 n2)
   | gi_in)
  obtain⟨r1,r2⟩:=set2 w1 (w.heap.size+1) 0 0 0 0 z0 z1
  refine bodyPost_ret (res47 _ _ (w.heap.size+1) 0 0 ck rfl rfl r1 r2) rfl ?_
  exact⟨by rw [HA.out],((Nx.trans HW2.out n2).setCell (by exact Nat.le_succ _) _).setCell (by exact Nat.le_succ _) _⟩
end Go.Proofs.YtolholkjeehamaaDoor

namespace Go.Proofs.YtolholkjeehamaaDoor
open Go.RowKit Go.Con Go.Conc
local instance:Lone:=mainL
section
variable {dst:Option Nat} {ty:TypeId} {pos:String} {af:Array Edge} {x y c b o:Nat} {w:World} {gd:Option (Nat×Bool)} (e:Operand→Value)
theorem leqR_run {n m:Int} (h:e (.tmp x)=num n) (h2:e (.tmp y)=num m) (hn:n≤m) (τ:Tape):(execOp e ⟨dst,.binOp .leq 3 (.tmp x) (.tmp y) 3,ty,pos,af,gd⟩).run Tryd.prog { w with tape:=τ }=.ok (.value (.bool true)) { w with tape:=τ }:=by
 simp [execOp,go_sem,h,h2,hn]
theorem eqcR37_run {n:Int} (h:e (.tmp x)=num n) (h2:e (.const (.int .i64 n))=num n) (τ:Tape):(execOp e ⟨dst,.binOp .eql 37 (.tmp x) (.const (.int .i64 n)) 37,ty,pos,af,gd⟩).run Tryd.prog { w with tape:=τ }=.ok (.value (.bool true)) { w with tape:=τ }:=by
 simp [execOp,go_sem,h,h2]
theorem fa28_0g_run (h:e (.tmp x)=.pointer (some ⟨b,0,none⟩)) (τ:Tape):(execOp e ⟨dst,.fieldAddr 28 (.tmp x) 0,ty,pos,af,gd⟩).run Tryd.prog { w with tape:=τ }=.ok (.value (.pointer (some ⟨b,0,none⟩))) { w with tape:=τ }:=by
 simp [execOp,go_sem,h]
theorem fa28_1g_run (h:e (.tmp x)=.pointer (some ⟨b,0,none⟩)) (τ:Tape):(execOp e ⟨dst,.fieldAddr 28 (.tmp x) 1,ty,pos,af,gd⟩).run Tryd.prog { w with tape:=τ }=.ok (.value (.pointer (some ⟨b,1,none⟩))) { w with tape:=τ }:=by
 simp [execOp,go_sem,h]
theorem ld3g_run {a:Addr} {v:Value} (h:e (.tmp x)=.pointer (some a)) (hc:w.cell? a=some v) (τ:Tape) :
  (execOp e ⟨dst,.load 3 (.tmp x),ty,pos,af,gd⟩).run Tryd.prog { w with tape:=τ }=.ok (.value v) { w with tape:=τ }:=by
 have hc' : ({ w with tape:=τ }:World).cell? a=some v:=hc
 simp [execOp,go_sem,h,hc']
end
end Go.Proofs.YtolholkjeehamaaDoor

namespace Go.Proofs.YtolholkjeehamaaDoor
open Go.RowKit
theorem one28_any (a b n:Int) (w:World) (hab : -1000000000≤a∧a≤b∧b≤1000000000) (hn:0≤n∧n≤1000000) :
  CallsIn FL 0 Tryd.prog 28 #[.agg #[num a,num b],num n] w fun e w'=>e=.returned (num (a+n % (b-a+1)))∧Nx w w':=by
 generalize hW:w.alloc (.cells #[.int .i64 a,.int .i64 b] 28)=W
 have nW:Nx w W:=by rw [← hW];exact (Below.refl _ _).alloc (Nat.le_refl _) _
 have c0:W.cell? ⟨w.heap.size,0,none⟩=some (num a):=by rw [← hW];exact cell_new _ _ _ _ _ rfl
 have c1:W.cell? ⟨w.heap.size,1,none⟩=some (num b):=by rw [← hW];exact cell_new _ _ _ _ _ rfl
 have hm:0≤n % (b-a+1)∧n % (b-a+1)<b-a+1:=⟨Int.emod_nonneg _ (by omega),Int.emod_lt_of_pos _ (by omega)⟩
 have hz:b-a+1≠0:=by omega
 have hne:(b-a+1 == 0)=false:=by simpa using hz
 have h1 : -9223372036854775808≤b-a∧b-a≤9223372036854775807:=by omega
 have h2 : -9223372036854775808≤b-a+1∧b-a+1≤9223372036854775807:=by omega
 have h3 : -9223372036854775808≤n % (b-a+1)∧n % (b-a+1)≤9223372036854775807:=by omega
 have h4 : -9223372036854775808≤a+n % (b-a+1)∧a+n % (b-a+1)≤9223372036854775807:=by omega
 gi_enter Tryd.func28,Tryd.ntmps28
 gi_upto_region 1 with fail
 gi_big_quiet_th (fail)
 gi_wp2
 go_ret
 exact⟨rfl,Nx.drewN nW _⟩
end Go.Proofs.YtolholkjeehamaaDoor

namespace Go.Proofs.YtolholkjeehamaaDoor
open Go.RowKit
theorem pick48_any (ps:List Int) (pv:Value) (k:Nat) (w:World) (hp:Sl w pv 1 (ps.map fun x=>[Value.int .u16 x])) (hb:∀ x∈ps,0≤x∧x≤65535) (hl:ps.length≤281474976710656) (hk:k≤1000) :
  CallsIn FL 0 Tryd.prog 48 #[pv,num k] w fun e w'=>∃ z:Int,e=.returned (num z)∧(0≤z∧z≤65535)∧w'=w:=by
 obtain⟨a,cap,rfl⟩:=hp.cases
 rw [List.length_map] at hp ⊢
 by_cases hlt:k<ps.length
 ·obtain⟨b,off,rfl,hbl,hcl⟩:=hp.get (by simp;omega)
  have hx:ps[k]?=some ps[k]:=List.getElem?_eq_getElem hlt
  have hz:=hb ps[k] (List.getElem_mem _)
  generalize ps[k]=x at hx hz
  have e0:w.cell? ⟨b,off+k,none⟩=some (.int .u16 x):=by have:=hcl k 0 [.int .u16 x] (.int .u16 x) (by simp [hx]) rfl;simpa using this
  clear hcl hp hb hx
  gi_enter Tryd.func48,Tryd.ntmps48
  gi_wp2
  go_ret
  exact⟨x,rfl,hz,rfl⟩
 ·clear hp hb
  have hlt2:¬ (k:Int)<(ps.length:Int):=by omega
  gi_enter Tryd.func48,Tryd.ntmps48
  gi_wp2
  go_ret
  exact⟨0,rfl,by omega,rfl⟩
end Go.Proofs.YtolholkjeehamaaDoor

namespace Go.Proofs.YtolholkjeehamaaDoor
open Go.RowKit
theorem flat_at {sz:Nat}:∀ (ys:List (List Value)) (j k:Nat) (l:List Value) (x:Value),(∀ y∈ys,y.length=sz)→ys[j]?=some l→l[k]?=some x→ys.flatten[j * sz+k]?=some x
 | [],j,k,l,x,_,h,_=>by simp at h
 | y :: ys,j,k,l,x,hl,hj,hk=>by
  have hy:=hl y (List.mem_cons_self ..)
  cases j with
  | zero =>
   simp only [List.getElem?_cons_zero,Option.some.injEq] at hj
   subst hj
   have:k<y.length:=(List.getElem?_eq_some_iff.1 hk).1
   rw [Nat.zero_mul,Nat.zero_add,List.flatten_cons,List.getElem?_append_left this]
   exact hk
  | succ j =>
   rw [List.flatten_cons,List.getElem?_append_right (by rw [hy,Nat.succ_mul];omega),hy]
   have:(j+1) * sz+k-sz=j * sz+k:=by rw [Nat.succ_mul];omega
   rw [this]
   exact flat_at ys j k l x (fun y hy=>hl y (List.mem_cons_of_mem _ hy)) hj hk
theorem flat_len {sz:Nat}:∀ ys:List (List Value),(∀ y∈ys,y.length=sz)→ys.flatten.length=ys.length * sz
 | [],_=>by simp
 | y :: ys,h=>by
  have:=flat_len ys fun z hz=>h z (List.mem_cons_of_mem _ hz)
  rw [List.flatten_cons,List.length_append,this,h y (List.mem_cons_self ..),List.length_cons,Nat.succ_mul]
  omega
theorem flat_ix {sz:Nat} (hs:0<sz) {ys:List (List Value)} (h:∀ y∈ys,y.length=sz) {j:Nat} {x:Value} (hj:ys.flatten[j]?=some x):∃ l,ys[j / sz]?=some l∧l[j % sz]?=some x:=by
 have hl:j<ys.length * sz:=by rw [← flat_len ys h];exact (List.getElem?_eq_some_iff.1 hj).1
 have hd:j / sz<ys.length:=Nat.div_lt_of_lt_mul (by rwa [Nat.mul_comm])
 have hm:j % sz<(ys[j / sz]).length:=by rw [h _ (List.getElem_mem _)];exact Nat.mod_lt _ hs
 have h1:=flat_at (sz:=sz) ys (j / sz) (j % sz) _ _ h (List.getElem?_eq_getElem hd) (List.getElem?_eq_getElem hm)
 rw [show j / sz * sz+j % sz=j by rw [Nat.mul_comm];exact Nat.div_add_mod ..] at h1
 rw [h1] at hj
 cases hj
 exact⟨_,List.getElem?_eq_getElem hd,List.getElem?_eq_getElem hm⟩
theorem addr_add (b o j:Nat):(⟨b,o,none⟩:Addr).add j=⟨b,o+j,none⟩:=by
 unfold Addr.add
 split
 ·rename_i h;subst h;rfl
 ·rfl
structure ElemT (t e:TypeId) (z:Value) (sz by_:Nat):Prop where
 und:Tryd.prog.underlying t=some (.slice e)
 info:∃ i:TypeInfo,Tryd.prog.info? e=some i∧i.zero=some z∧i.size=sz∧i.bytes=by_
 zs:z.cells.size=sz
 pos:0<sz
theorem ElemT.mk' {t e:TypeId} {z:Value} {sz by_:Nat} (h1:Tryd.prog.underlying t=some (.slice e)) (h:(Tryd.prog.info? e).map (fun i=>(i.zero,i.size,i.bytes))=some (some z,sz,by_)) (h2:z.cells.size=sz) (h3:0<sz):ElemT t e z sz by_:=by
 refine⟨h1,?_,h2,h3⟩
 cases hi:Tryd.prog.info? e with
 | none=>rw [hi] at h;cases h
 | some i =>
  rw [hi] at h
  simp only [Option.map_some,Option.some.injEq,Prod.mk.injEq] at h
  exact⟨i,rfl,h.1,h.2.1,h.2.2⟩
theorem own_sl {w:World} {base e sz n:Nat} {v:Value} {rows:List (List Value)} (hr:∀ y∈rows,y.length=sz) (hn:rows.length=n) (h:w.ownsRow base e sz v n rows.flatten):Sl w v sz rows:=by
 subst hn
 obtain⟨_,⟨rfl,h0⟩ | ⟨g,cap,cur,rfl,hb,hg,hc,hm,hs,ht⟩⟩:=h
 ·exact⟨0,.inl ⟨List.eq_nil_of_length_eq_zero h0,rfl⟩⟩
 ·refine⟨cap,.inr ⟨g,0,rfl,(Array.getElem?_eq_some_iff.1 hg).1,fun j k l x hj hk=>?_⟩⟩
  have h1:=flat_at (sz:=sz) rows j k l x hr hj hk
  rw [← ht,List.getElem?_take] at h1
  split at h1
  ·unfold World.cell?
   dsimp only
   rw [hg]
   simpa using h1
  ·cases h1
theorem own_shape {w:World} {base e sz n:Nat} {v:Value} {xs:List Value} (h0:0<n) (h:w.ownsRow base e sz v n xs):∃ g cap,v=.slice (some ⟨g,0,none⟩) n cap∧base≤g∧g<w.heap.size∧n≤cap∧Kind w v:=by
 obtain⟨_,⟨_,h1⟩ | ⟨g,cap,cur,rfl,hb,hg,hc,_⟩⟩:=h
 ·omega
 ·exact⟨g,cap,rfl,hb,(Array.getElem?_eq_some_iff.1 hg).1,hc,fun a n c e=>by cases e;exact⟨_,_,_,hg⟩⟩
section
variable {t e:TypeId} {z:Value} {sz by_:Nat} (T:ElemT t e z sz by_)
include T
theorem run_copy (base:Nat) (w:World) (g0:Nat) (hg:w.heap[g0]?=some (.cells #[] e (0,0))) (hb:base≤g0) (u:Value) (rows:List (List Value)) (hr:∀ y∈rows,y.length=sz) (h1:∀ y∈rows,∀ x∈y,x.oneCell'=true) (hu:Sl w u sz rows)
  (hl:rows.length * by_≤140737488355328) (hm:rows.length≤281474976710656) :
  ∃ v' w',(Builtin.append_ #[t,t] t #[.slice (some ⟨g0,0,none⟩) 0 0,u]).run Tryd.prog w=.ok v' w'∧w'.ownsRow base e sz v' rows.length rows.flatten∧w.grownBy w' (some g0)∧(v'.ownBlock=some g0∨v'.ownBlock=some w.heap.size):=by
 obtain⟨i,hi,hz,hs,hby⟩:=T.info
 have hown:w.ownsRow base e sz (.slice (some ⟨g0,0,none⟩) 0 0) 0 []:=⟨by simp,.inr ⟨g0,0,#[],rfl,hb,hg,Nat.le_refl _,by simp [maxLen],by simp,by simp⟩⟩
 have hgl:g0<w.heap.size:=(Array.getElem?_eq_some_iff.1 hg).1
 obtain⟨cap,⟨h0,rfl⟩ | ⟨b,off,rfl,hbl,hc⟩⟩:=hu
 ·subst h0
  refine⟨_,w,?_,hown,World.grownBy.refl _ _,.inl rfl⟩
  simp [Builtin.append_,run_underlying T.und,sizeOf,typeInfo,hi,Builtin.lenOf,Builtin.firstCells,storeCells]
 ·obtain⟨v',w',r1,r2,r3,_,r5⟩:=run_append_own_at (P:=Tryd.prog) w base t t e i z sz by_ T.und hi hz hs hby T.zs T.pos _ 0 [] hown ⟨b,off,none⟩ rows.length cap rows.flatten (by rw [flat_len rows hr]) (fun j x hj=>by
   obtain⟨l,g1,g2⟩:=flat_ix T.pos hr hj
   have:=hc (j / sz) (j % sz) l x g1 g2
   rw [addr_add]
   rw [show off+j / sz * sz+j % sz=off+j by have:=Nat.div_add_mod j sz;rw [Nat.mul_comm] at this;omega] at this
   exact this) (fun x hx=>by
   obtain⟨y,hy,hxy⟩:=List.mem_flatten.1 hx
   exact h1 y hy x hxy) (by unfold maxLen;omega) (by rw [Nat.zero_add];exact hl) (by omega)
  rw [Nat.zero_add,List.nil_append] at r2
  exact⟨v',w',r1,r2,r3,r5⟩
end
theorem T29:ElemT 29 91 (.agg #[str [],num 0,num 0,num 0,num 0,num 0]) 6 56:=.mk' Tryd.underlying29 (by kernel_rfl) (by kernel_rfl) (by decide)
end Go.Proofs.YtolholkjeehamaaDoor

namespace Go.Proofs.YtolholkjeehamaaDoor
open Go.RowKit Go.Con Go.Conc Go.ChangeShapes Go.WideShapes Go.ChangeAt
section
variable {H:Type} {enc:TypeId×Value→H} {W:World}
theorem under86:Tryd.prog.underlying 86=some (.slice 77):=by kernel_rfl
theorem read_u16 {n:Nat} {cs:List Value} {y:DataW H×List MemPlace} (h:trodW enc W n 77 cs=some y):∃ k:Int,cs=[Value.int .u16 k]∧(0≤k∧k≤65535):=by
 obtain⟨k,h1,_,h3⟩:=DataW.trod_int Tryd.underlying77 h
 simp only [Lit.wf,Bool.and_eq_true,decide_eq_true_eq] at h3
 exact⟨k,h1,h3⟩
theorem picks_open {v:Value} {dd:DataW H} {p:List MemPlace} {base:Nat} (hv:Value.okWide Tryd.prog W .any base 86 v) (h:DataW.Trod enc Tryd.prog W 0 (fun _=>true) true 86 v dd p) (hfit:Fits 86 dd) :
  ∃ ps:List Int,(∃ a n k,v=.slice a n k)∧Sl W v 1 (ps.map fun x=>[Value.int .u16 x])∧Kind W v∧ps.length≤281474976710656∧∀ x∈ps,0≤x∧x≤65535:=by
 simp only [Value.okWide,under86] at hv
 have hs:∃ a n k,v=.slice a n k:=by
  have hv2:=hv
  cases v with
  | slice a n k=>exact⟨_,_,_,rfl⟩
  | _=>simp [Cell.okWide,under86,Cell.ok] at hv2
 obtain⟨a,n,k,rfl⟩:=hs
 obtain⟨fuel,hf⟩:=h
 simp only [Value.cells] at hf
 obtain⟨l,a1,a2,a3,a4,a5⟩:=sl_open (en:=fun x=>[Value.int .u16 x]) (ok:=fun x=>0≤x∧x≤65535) under86 (by decide +kernel) (fun n cs' y h hff=>read_u16 h) hf hfit hv
 rw [show Tryd.prog.cellsOf 77=1 by kernel_rfl] at a1
 exact⟨l,⟨_,_,_,rfl⟩,a1,a3,Nat.le_trans a4 (by decide),a5⟩
end
section
variable {H:Type} {enc:TypeId×Value→H} {P:Program} {w:World} {base:Nat} {spare:Nat→Bool} {held:Bool}
theorem trodAll_five {t t1 t2 t3 t4:TypeId} {args:Array Value} {ds:List (DataW H)} {ps:List MemPlace} (h:DataW.TrodAll enc P w base spare held [t,t1,t2,t3,t4] args.toList ds ps) :
  ∃ v v1 v2 v3 v4 d d1 d2 d3 d4 p p1 p2 p3 p4,args=#[v,v1,v2,v3,v4]∧ds=[d,d1,d2,d3,d4]∧ps=p++p1++p2++p3++p4∧DataW.Trod enc P w base spare held t v d p∧DataW.Trod enc P w base spare held t1 v1 d1 p1∧DataW.Trod enc P w base spare held t2 v2 d2 p2∧DataW.Trod enc P w base spare held t3 v3 d3 p3∧DataW.Trod enc P w base spare held t4 v4 d4 p4:=by
 obtain⟨v,vs,d,ds0,p,q,hargs,rfl,rfl,hd,hr⟩:=trodAll_cons h
 obtain⟨v1,vs1,d1,ds1,p1,q1,rfl,rfl,rfl,hd1,hr1⟩:=trodAll_cons hr
 obtain⟨v2,vs2,d2,ds2,p2,q2,rfl,rfl,rfl,hd2,hr2⟩:=trodAll_cons hr1
 obtain⟨v3,vs3,d3,ds3,p3,q3,rfl,rfl,rfl,hd3,hr3⟩:=trodAll_cons hr2
 obtain⟨v4,vs4,d4,ds4,p4,q4,rfl,rfl,rfl,hd4,hr4⟩:=trodAll_cons hr3
 obtain⟨rfl,rfl,rfl⟩:=trodAll_nil hr4
 exact⟨v,v1,v2,v3,v4,d,d1,d2,d3,d4,p,p1,p2,p3,p4,by cases args;simp_all,rfl,by simp,hd,hd1,hd2,hd3,hd4⟩
theorem trodAll_mk5 {t t1 t2 t3 t4:TypeId} {v v1 v2 v3 v4:Value} {d d1 d2 d3 d4:DataW H} {p p1 p2 p3 p4:List MemPlace} (h:DataW.Trod enc P w base spare held t v d p) (h1:DataW.Trod enc P w base spare held t1 v1 d1 p1)
  (h2:DataW.Trod enc P w base spare held t2 v2 d2 p2) (h3:DataW.Trod enc P w base spare held t3 v3 d3 p3) (h4:DataW.Trod enc P w base spare held t4 v4 d4 p4):DataW.TrodAll enc P w base spare held [t,t1,t2,t3,t4] [v,v1,v2,v3,v4] [d,d1,d2,d3,d4] (p++(p1++(p2++(p3++p4)))):=⟨p,p1++(p2++(p3++p4)),h,trodAll_mk4 h1 h2 h3 h4,rfl⟩
end
end Go.Proofs.YtolholkjeehamaaDoor

namespace Go.Proofs.YtolholkjeehamaaDoor
open Go.RowKit Go.Con Go.Conc
local instance:Lone:=mainL
theorem wpIn_code_eq {c c' : Code} {F:Fence} {n:Nat} {P:Program} {Q:Exit→Act→World→Prop} {a:Act} {w:World} (h:c=c') (H:c'.wpIn F n P Q a w):c.wpIn F n P Q a w:=h ▸ H
end Go.Proofs.YtolholkjeehamaaDoor

namespace Go.Proofs.YtolholkjeehamaaDoor
open Go.RowKit Go.Con Go.Conc
local instance:Lone:=mainL
theorem old_then {w u w' : World} (o:Old w u) (hs:u.heap.size≤w'.heap.size) (h:∀ b,b<w.heap.size→w'.heap[b]?=u.heap[b]?):Old w w':=by
 refine⟨Nat.le_trans o.size hs,fun a ha=>?_,fun b hb=>?_,fun b es k hb=>?_⟩
 ·rw [← o.cell a ha]
  unfold World.cell?
  rw [h _ ha]
 ·have hl:b<w.heap.size:=by
   obtain⟨cs,t,fz,e⟩:=hb
   exact (Array.getElem?_eq_some_iff.1 e).1
  obtain⟨cs,t,fz,e⟩:=o.kind b hb
  exact⟨cs,t,fz,(h b hl).trans e⟩
 ·exact (h b (Array.getElem?_eq_some_iff.1 hb).1).trans (o.map b es k hb)
theorem sl_at {w w' : World} {g n cap sz:Nat} {xs:List (List Value)} (h:Sl w (.slice (some ⟨g,0,none⟩) n cap) sz xs) (hs:w.heap.size≤w'.heap.size) (hg:w'.heap[g]?=w.heap[g]?):Sl w' (.slice (some ⟨g,0,none⟩) n cap) sz xs:=by
 obtain⟨c',⟨h0,e⟩ | ⟨b,o,e,h2,h3⟩⟩:=h
 ·cases e
 ·simp only [Value.slice.injEq,Option.some.injEq,Addr.mk.injEq,and_true] at e
  obtain⟨⟨rfl,rfl⟩,e2,rfl⟩:=e
  refine⟨cap,.inr ⟨_,_,by rw [← e2],Nat.lt_of_lt_of_le h2 hs,fun j k l x hj hk=>?_⟩⟩
  have:=h3 j k l x hj hk
  unfold World.cell? at this ⊢
  dsimp only at this ⊢
  rw [hg]
  exact this
end Go.Proofs.YtolholkjeehamaaDoor

namespace Go.Proofs.YtolholkjeehamaaDoor
open Go.RowKit Go.Con Go.Conc
local instance:Lone:=mainL
noncomputable def lawB14:Code:=match Tryd.f14.body with | some c=>c | none=>.skip
noncomputable def q0:Code:=seqL lawB14
noncomputable def qp1:Code:=seqR lawB14
noncomputable def q1:Code:=seqL qp1
noncomputable def qp2:Code:=seqR qp1
noncomputable def q2:Code:=seqL qp2
noncomputable def qp3:Code:=seqR qp2
noncomputable def q3:Code:=seqL (seqL qp3)
noncomputable def q4:Code:=match seqR (seqL qp3) with | .cond _ x _=>seqL x | c=>c
end Go.Proofs.YtolholkjeehamaaDoor

namespace Go.Proofs.YtolholkjeehamaaDoor
open Go.RowKit Go.Con Go.Conc
local instance:Lone:=mainL
noncomputable def lawB15:Code:=match Tryd.f15.body with | some c=>c | none=>.skip
noncomputable def ge0:Code:=seqL lawB15
noncomputable def gep1:Code:=seqR lawB15
noncomputable def ge1:Code:=seqL (seqL gep1)
noncomputable def ge2:Code:=match seqR (seqL gep1) with | .cond _ x _=>seqL x | c=>c
noncomputable def gep2:Code:=seqR gep1
noncomputable def ge3:Code:=seqL gep2
noncomputable def gep3:Code:=seqR gep2
noncomputable def ge4:Code:=seqL gep3
noncomputable def gep4:Code:=seqR gep3
noncomputable def ge5:Code:=seqL gep4
noncomputable def gep5:Code:=seqR gep4
noncomputable def ge6:Code:=seqL gep5
noncomputable def gep6:Code:=seqR gep5
noncomputable def ge10:Code:=seqL gep6
noncomputable def gep7:Code:=seqR gep6
noncomputable def ge12:Code:=seqL gep7
noncomputable def gep8:Code:=seqR gep7
noncomputable def ge13:Code:=seqL gep8
noncomputable def gep9:Code:=seqR gep8
noncomputable def ge14:Code:=seqL gep9
noncomputable def gep10:Code:=seqR gep9
noncomputable def ge15:Code:=seqL gep10
noncomputable def gep11:Code:=seqR gep10
noncomputable def ge16:Code:=seqL gep11
noncomputable def gep12:Code:=seqR gep11
noncomputable def ge17:Code:=seqL gep12
noncomputable def gep13:Code:=seqR gep12
noncomputable def ge19:Code:=seqL gep13
noncomputable def gep14:Code:=seqR gep13
noncomputable def ge20:Code:=seqL gep14
noncomputable def gep15:Code:=seqR gep14
noncomputable def ge21:Code:=seqL gep15
noncomputable def gep16:Code:=seqR gep15
noncomputable def ge22:Code:=seqL gep16
noncomputable def gep17:Code:=seqR gep16
noncomputable def ge23:Code:=seqL gep17
theorem lawB15_eq:lawB15=.seq ge0 (.seq (.seq ge1 (.cond (.tmp 33) (.seq ge2 .ret) .skip)) (.seq ge3 (.seq ge4 (.seq ge5 (.seq ge6 (.seq ge10 (.seq ge12 (.seq ge13 (.seq ge14 (.seq ge15 (.seq ge16 (.seq ge17 (.seq ge19 (.seq ge20 (.seq ge21 (.seq ge22 (.seq ge23 .ret))))))))))))))))):=by kernel_rfl
theorem lawB15_of:Tryd.f15.body=some lawB15:=by kernel_rfl
noncomputable def opge2:Array Oper:=opsOf ge2
theorem ge2_eq:ge2=.region 2 opge2 false:=by kernel_rfl
noncomputable def opge23:Array Oper:=opsOf ge23
theorem ge23_eq:ge23=.region 23 opge23 false:=by kernel_rfl
theorem gets_again {v0 v1 v2 v3 v4 v6 v7 v8 v9 v10 v11 v12 v13 v14 v15 v17 v18 v19 v20 v21 v22 v23 v24 v25 v26 v27 v28 v29 v30 v31 v32 v33 v34 v35 v36 v37 v38 v39 v40 v41 v42 v43 v44 v45 v46 v47 v48 v49 v50 v51 v52 v53 v54 v55 v56 v57 v58 v59 v60 v61 v62 v63 v64 v65 v66 v67 v68 v69 v70 v71 v72 v73 v74 v75 v76 v77 v78 v79 v80 v81 v82 v83 v84 v85 v86 v87 v88 v89 v90 v91 v92 v93 v94 v95 v96 v97 v98 v99 v100 v101 v102 v103 v104 v105 v106 v107 v108 v109 v110 v111 v112 v113 v114 v115 v116 v117 v118 v119 v120 v121 v122 v123 v124 v125 v126 v127 v128 v129 v130 v131 v132 v133 v134 v135 v136 v137 v138 v139 v140 v141 v142 v143 v144:Value} (d:Dit) (r:Rows6) (Y:World) (B Bo:Nat) (x0 x1 x2 x3 x4 x5 x6 x7 x8 x9 x10 x11 x12 x13:Value) (hd:DitSl Y d r) (hc:∀ i v,(d.cellsA r)[i]?=some v→Y.cell? ⟨B,i,none⟩=some v) (hO:Y.heap[Bo]?=some (.cells #[x0,x1,x2,x3,x4,x5,x6,x7,x8,x9,x10,x11,x12,x13] 31 (0,0))) :
  ge19.wpIn (FG 15) 0 Tryd.prog (fun e a w'=>e=.normal∧a.defers=[]∧a.tmps=#[v0,v1,v2,v3,v4,.pointer (some ⟨B,0,none⟩),v6,v7,v8,v9,v10,v11,v12,v13,v14,v15,.pointer (some ⟨Bo,0,none⟩),v17,v18,v19,v20,v21,v22,v23,v24,v25,v26,v27,v28,v29,v30,v31,v32,v33,v34,v35,v36,v37,v38,v39,v40,v41,v42,v43,v44,v45,v46,v47,v48,v49,v50,v51,v52,v53,v54,v55,v56,v57,v58,v59,v60,v61,v62,v63,v64,v65,v66,v67,v68,v69,v70,v71,v72,v73,v74,v75,v76,v77,v78,v79,v80,v81,v82,v83,v84,v85,v86,v87,v88,v89,v90,v91,v92,v93,v94,v95,v96,v97,v98,v99,v100,v101,v102,v103,v104,v105,v106,v107,v108,v109,v110,v111,v112,v113,v114,v115,v116,v117,v118,v119,v120,v121,v122,v123,v124,v125,v126,v127,v128,v129,v130,v131,v132,v133,v134,v135,v136,v137,v138,v139,v140,v141,v142,v143,v144,d.val r,undef,undef,undef,undef,undef,undef,undef,undef,undef,undef,undef,undef,undef,undef,undef,undef,undef,undef,undef,undef,undef,undef,undef,undef,undef,undef,undef,undef,undef,undef,undef,undef,undef,undef,undef,undef,undef,undef,undef,undef,undef,undef,undef,undef,undef,undef]∧w'.heap.size=Y.heap.size∧(∀ k,k≠Bo→w'.heap[k]?=Y.heap[k]?)∧w'.heap[Bo]?=some (.cells (d.cellsA r) 31 (0,0))) ⟨#[v0,v1,v2,v3,v4,.pointer (some ⟨B,0,none⟩),v6,v7,v8,v9,v10,v11,v12,v13,v14,v15,.pointer (some ⟨Bo,0,none⟩),v17,v18,v19,v20,v21,v22,v23,v24,v25,v26,v27,v28,v29,v30,v31,v32,v33,v34,v35,v36,v37,v38,v39,v40,v41,v42,v43,v44,v45,v46,v47,v48,v49,v50,v51,v52,v53,v54,v55,v56,v57,v58,v59,v60,v61,v62,v63,v64,v65,v66,v67,v68,v69,v70,v71,v72,v73,v74,v75,v76,v77,v78,v79,v80,v81,v82,v83,v84,v85,v86,v87,v88,v89,v90,v91,v92,v93,v94,v95,v96,v97,v98,v99,v100,v101,v102,v103,v104,v105,v106,v107,v108,v109,v110,v111,v112,v113,v114,v115,v116,v117,v118,v119,v120,v121,v122,v123,v124,v125,v126,v127,v128,v129,v130,v131,v132,v133,v134,v135,v136,v137,v138,v139,v140,v141,v142,v143,v144,undef,undef,undef,undef,undef,undef,undef,undef,undef,undef,undef,undef,undef,undef,undef,undef,undef,undef,undef,undef,undef,undef,undef,undef,undef,undef,undef,undef,undef,undef,undef,undef,undef,undef,undef,undef,undef,undef,undef,undef,undef,undef,undef,undef,undef,undef,undef],[]⟩ Y:=by
 obtain⟨c0,c1,c2,c3,c4,c5,c6,c7,c8,c9,c10,c11,c12,c13⟩:=cells14 hc
 obtain⟨ah,hh,eh⟩:=hd.holders.cases
 obtain⟨at1,ht,et⟩:=hd.turns.cases
 obtain⟨af,hf,ef⟩:=hd.feasts.cases
 obtain⟨as1,hs,es⟩:=hd.swaps.cases
 obtain⟨al,hl,el⟩:=hd.loans.cases
 obtain⟨ap,hp,ep⟩:=hd.plots.cases
 have hval:d.val r=.agg #[r.h,r.t,num d.begin_,num d.week,num d.from_,num d.long,r.f,r.s,r.l,num d.flow.1,num d.flow.2,num d.loss.1,num d.loss.2,r.p]:=rfl
 have hcel:d.cellsA r=#[r.h,r.t,num d.begin_,num d.week,num d.from_,num d.long,r.f,r.s,r.l,num d.flow.1,num d.flow.2,num d.loss.1,num d.loss.2,r.p]:=rfl
 rw [hval,hcel]
 clear hval hcel hc hd
 rw [eh] at c0;rw [et] at c1;rw [ef] at c6;rw [es] at c7;rw [el] at c8;rw [ep] at c13
 rw [eh,et,ef,es,el,ep]
 generalize (d.holders.map fun s=>[str s]).length=nh at *
 generalize (d.turns.map two).length=nt at *
 generalize (d.feasts.map two).length=nf at *
 generalize (d.swaps.map three).length=ns at *
 generalize (d.loans.map three).length=nl at *
 generalize (d.plots.map Plot.cells).length=np at *
 clear eh et ef es el ep
 have cc:∀ i v,(#[x0,x1,x2,x3,x4,x5,x6,x7,x8,x9,x10,x11,x12,x13]:Array Value)[i]?=some v→Y.cell? ⟨Bo,i,none⟩=some v∧Y.frozen? ⟨Bo,i,none⟩=false:=fun i v hv=>⟨by unfold World.cell?;dsimp only;rw [hO];exact hv,frozen_of_row _ _ _ _ _ hO⟩
 obtain⟨e0,f0⟩:=cc 0 x0 rfl;obtain⟨e1,f1⟩:=cc 1 x1 rfl;obtain⟨e2,f2⟩:=cc 2 x2 rfl;obtain⟨e3,f3⟩:=cc 3 x3 rfl;obtain⟨e4,f4⟩:=cc 4 x4 rfl;obtain⟨e5,f5⟩:=cc 5 x5 rfl;obtain⟨e6,f6⟩:=cc 6 x6 rfl;obtain⟨e7,f7⟩:=cc 7 x7 rfl;obtain⟨e8,f8⟩:=cc 8 x8 rfl;obtain⟨e9,f9⟩:=cc 9 x9 rfl;obtain⟨e10,f10⟩:=cc 10 x10 rfl;obtain⟨e11,f11⟩:=cc 11 x11 rfl;obtain⟨e12,f12⟩:=cc 12 x12 rfl;obtain⟨e13,f13⟩:=cc 13 x13 rfl
 have s1:=set14 (v0:=.slice ah nh hh) (v1:=.slice at1 nt ht) (v2:=num d.begin_) (v3:=num d.week) (v4:=num d.from_) (v5:=num d.long) (v6:=.slice af nf hf) (v7:=.slice as1 ns hs) (v8:=.slice al nl hl) (v9:=num d.flow.1) (v10:=num d.flow.2) (v11:=num d.loss.1) (v12:=num d.loss.2) (v13:=.slice ap np hp) hO
 have s2:=fun k (h:k≠Bo)=>other14 (k:=k) (w:=Y) (b:=Bo) (v0:=.slice ah nh hh) (v1:=.slice at1 nt ht) (v2:=num d.begin_) (v3:=num d.week) (v4:=num d.from_) (v5:=num d.long) (v6:=.slice af nf hf) (v7:=.slice as1 ns hs) (v8:=.slice al nl hl) (v9:=num d.flow.1) (v10:=num d.flow.2) (v11:=num d.loss.1) (v12:=num d.loss.2) (v13:=.slice ap np hp) h
 have s3:=size14 (w:=Y) (b:=Bo) (v0:=.slice ah nh hh) (v1:=.slice at1 nt ht) (v2:=num d.begin_) (v3:=num d.week) (v4:=num d.from_) (v5:=num d.long) (v6:=.slice af nf hf) (v7:=.slice as1 ns hs) (v8:=.slice al nl hl) (v9:=num d.flow.1) (v10:=num d.flow.2) (v11:=num d.loss.1) (v12:=num d.loss.2) (v13:=.slice ap np hp)
 have S1:=Lib.hid s1
 have S2:=Lib.hid s2
 have S3:=Lib.hid s3
 clear s1 s2 s3 cc hO
 simp only [ge19,gep17,gep16,gep15,gep14,gep13,gep12,gep11,gep10,gep9,gep8,gep7,gep6,gep5,gep4,gep3,gep2,gep1,lawB15,seqL,seqR,Tryd.f15]
 gi_wp2
 first | exact⟨S2.out,S1.out⟩ | exact⟨rfl,S3.out,S2.out,S1.out⟩
theorem gets_copy {v0 v1 v2 v3 v4 v6 v7 v8 v9 v10 v11 v12 v13 v14 v15 v17 v18 v19 v20 v21 v22 v23 v24 v25 v26 v27 v28 v29 v30 v31 v32 v33 v34 v35 v36 v37 v38 v39 v40 v41 v42 v43 v44 v45 v46 v47 v48 v49 v50 v51 v52 v53 v54 v55 v56 v57 v58 v59 v60 v61 v62 v63 v64 v65 v66 v67 v68 v69 v70 v71 v72 v73 v74 v75 v76 v77 v78 v79 v80 v81 v82 v83 v84 v85 v86 v87 v88 v89 v90 v91 v92 v93 v94 v95 v96 v97 v98 v99 v100 v101 v102 v103 v104 v105 v106 v107 v108 v109 v110 v111 v112 v113 v114 v115 v116 v117 v118 v119 v120 v121 v122 v123 v124 v125 v126 v127 v128 v129 v130 v131 v132 v133 v134 v135 v136 v137 v138 v139 v140 v141 v142 v143 v144 v145:Value} (d:Dit) (r:Rows6) (Y:World) (B Bo:Nat) (hd:DitSl Y d r) (h0:0<d.plots.length) (h8:d.plots.length≤8) (hc:∀ i v,(d.cellsA r)[i]?=some v→Y.cell? ⟨B,i,none⟩=some v) (hBY:B<Y.heap.size) (hO:Y.heap[Bo]?=some (.cells (d.cellsA r) 31 (0,0))) :
  ge20.wpIn (FG 15) 0 Tryd.prog (fun e a w'=>e=.normal∧a.defers=[]∧∃ g cap,a.tmps=#[v0,v1,v2,v3,v4,.pointer (some ⟨B,0,none⟩),v6,v7,v8,v9,v10,v11,v12,v13,v14,v15,.pointer (some ⟨Bo,0,none⟩),v17,v18,v19,v20,v21,v22,v23,v24,v25,v26,v27,v28,v29,v30,v31,v32,v33,v34,v35,v36,v37,v38,v39,v40,v41,v42,v43,v44,v45,v46,v47,v48,v49,v50,v51,v52,v53,v54,v55,v56,v57,v58,v59,v60,v61,v62,v63,v64,v65,v66,v67,v68,v69,v70,v71,v72,v73,v74,v75,v76,v77,v78,v79,v80,v81,v82,v83,v84,v85,v86,v87,v88,v89,v90,v91,v92,v93,v94,v95,v96,v97,v98,v99,v100,v101,v102,v103,v104,v105,v106,v107,v108,v109,v110,v111,v112,v113,v114,v115,v116,v117,v118,v119,v120,v121,v122,v123,v124,v125,v126,v127,v128,v129,v130,v131,v132,v133,v134,v135,v136,v137,v138,v139,v140,v141,v142,v143,v144,v145,.slice (some ⟨Y.heap.size,0,none⟩) 0 0,.pointer (some ⟨B,13,none⟩),r.p,.slice (some ⟨g,0,none⟩) d.plots.length cap,.pointer (some ⟨Bo,13,none⟩),undef,undef,undef,undef,undef,undef,undef,undef,undef,undef,undef,undef,undef,undef,undef,undef,undef,undef,undef,undef,undef,undef,undef,undef,undef,undef,undef,undef,undef,undef,undef,undef,undef,undef,undef,undef,undef,undef,undef,undef,undef]∧Y.heap.size≤w'.heap.size∧(∀ k,k<Y.heap.size→k≠Bo→w'.heap[k]?=Y.heap[k]?)∧w'.heap[Bo]?=some (.cells ((d.cellsA r).setIfInBounds 13 (.slice (some ⟨g,0,none⟩) d.plots.length cap)) 31 (0,0))∧Y.heap.size≤g∧d.plots.length≤cap ∧
   w'.ownsRow Y.heap.size 91 6 (.slice (some ⟨g,0,none⟩) d.plots.length cap) d.plots.length (d.plots.map Plot.cells).flatten) ⟨#[v0,v1,v2,v3,v4,.pointer (some ⟨B,0,none⟩),v6,v7,v8,v9,v10,v11,v12,v13,v14,v15,.pointer (some ⟨Bo,0,none⟩),v17,v18,v19,v20,v21,v22,v23,v24,v25,v26,v27,v28,v29,v30,v31,v32,v33,v34,v35,v36,v37,v38,v39,v40,v41,v42,v43,v44,v45,v46,v47,v48,v49,v50,v51,v52,v53,v54,v55,v56,v57,v58,v59,v60,v61,v62,v63,v64,v65,v66,v67,v68,v69,v70,v71,v72,v73,v74,v75,v76,v77,v78,v79,v80,v81,v82,v83,v84,v85,v86,v87,v88,v89,v90,v91,v92,v93,v94,v95,v96,v97,v98,v99,v100,v101,v102,v103,v104,v105,v106,v107,v108,v109,v110,v111,v112,v113,v114,v115,v116,v117,v118,v119,v120,v121,v122,v123,v124,v125,v126,v127,v128,v129,v130,v131,v132,v133,v134,v135,v136,v137,v138,v139,v140,v141,v142,v143,v144,v145,undef,undef,undef,undef,undef,undef,undef,undef,undef,undef,undef,undef,undef,undef,undef,undef,undef,undef,undef,undef,undef,undef,undef,undef,undef,undef,undef,undef,undef,undef,undef,undef,undef,undef,undef,undef,undef,undef,undef,undef,undef,undef,undef,undef,undef,undef],[]⟩ Y:=by
 have hol:=lt_of_some hO
 have hr:∀ y∈d.plots.map Plot.cells,y.length=6:=fun y hy=>by
  obtain⟨z,_,rfl⟩:=List.mem_map.1 hy;rfl
 have h1:∀ y∈d.plots.map Plot.cells,∀ x∈y,x.oneCell'=true:=fun y hy x hx=>by
  obtain⟨z,_,rfl⟩:=List.mem_map.1 hy
  simp only [Plot.cells,List.mem_cons,List.not_mem_nil,or_false] at hx
  rcases hx with rfl | rfl | rfl | rfl | rfl | rfl<;>rfl
 have hal:Nx Y (Y.alloc (.cells #[] 91)):=alloc_nx (Below.refl _ _) _
 have c13:(Y.alloc (.cells #[] 91)).cell? ⟨B,13,none⟩=some r.p:=(cell_old hBY).trans (hc 13 _ rfl)
 obtain⟨v',W2,happ,hown,hgr,hob⟩:=run_copy T29 Y.heap.size (Y.alloc (.cells #[] 91)) Y.heap.size (heap_alloc_new _ _) (Nat.le_refl _) r.p (d.plots.map Plot.cells) hr h1 (hd.plots.nx hal) (by rw [List.length_map];omega) (by rw [List.length_map];omega)
 rw [List.length_map] at hown
 obtain⟨g,cap,rfl,hg,hgl,hcap,_⟩:=own_shape h0 hown
 have n2:Nx Y W2:=hal.grown hgr fun z hz=>by cases hz;exact Nat.le_refl _
 have hO2:W2.heap[Bo]?=some (.cells (d.cellsA r) 31 (0,0)):=(n2.block _ hol).trans hO
 have e13:W2.cell? ⟨Bo,13,none⟩=some r.p:=by unfold World.cell?;dsimp only;rw [hO2];rfl
 have f13:W2.frozen? ⟨Bo,13,none⟩=false:=frozen_of_row _ _ _ _ _ hO2
 have HN:=Lib.hid n2
 have HO:=Lib.hid hO2
 have HW:=Lib.hid hown
 have HG:=Lib.hid hg
 have HCP:=Lib.hid hcap
 have hgB:g≠Bo:=by omega
 clear hown hgr hob n2 hO2 hd hc hO hal hr h1
 simp [go_sem] at happ
 simp only [ge20,gep17,gep16,gep15,gep14,gep13,gep12,gep11,gep10,gep9,gep8,gep7,gep6,gep5,gep4,gep3,gep2,gep1,lawB15,seqL,seqR,Tryd.f15]
 gi_wp2
 refine⟨g,cap,by first | rfl | exact⟨rfl,rfl⟩,?_,fun k hk hkb=>(heap_setCell_other _ _ _ _ (by exact hkb)).trans (HN.out.block k hk),?_,HG.out,HCP.out,?_⟩
 ·have:=HN.out.size
  simpa using this
 ·unfold World.setCell
  simp [Array.getElem?_modify,HO.out]
 ·refine⟨HW.out.1,?_⟩
  rcases HW.out.2 with ⟨e,_⟩ | ⟨g',cap',cur,e,hb,hgg,rest⟩
  ·cases e
  ·cases e
   exact .inr ⟨g,cap,cur,rfl,hb,(heap_setCell_other _ _ _ _ (by exact hgB)).trans hgg,rest⟩
end Go.Proofs.YtolholkjeehamaaDoor

namespace Go.Proofs.YtolholkjeehamaaDoor
open Go.RowKit Go.Con Go.Conc
local instance:Lone:=mainL
section
variable {dst:Option Nat} {ty:TypeId} {pos:String} {af:Array Edge} {x y:Nat} {w:World} (e:Operand→Value)
theorem min20_run {n:Int} (h:e (.tmp x)=num n) (h2:e (.const (.int .i64 20))=num 20):(execOp e ⟨dst,.call { callee:=.builtin .min,args:=#[.const (.int .i64 20),.tmp x],argTypes:=#[3,3] },ty,pos,af,none⟩).run Tryd.prog w=.ok (.value (num (min 20 n))) w:=by
 rw [show min 20 n=if n<20 then n else 20 by omega]
 by_cases hn:n<20<;>simp [execOp,resolve,invoke,builtin,Builtin.min_,Builtin.min2,go_sem,h,h2,hn]
theorem st3_run {a:Addr} {u:Value} {n:Int} (h:e (.tmp x)=.pointer (some a)) (h2:e (.tmp y)=num n) (hc:w.cell? a=some u) (hf:w.frozen? a=false) :
  (execOp e ⟨dst,.store 3 (.tmp x) (.tmp y),ty,pos,af,none⟩).run Tryd.prog w=.ok .skip (w.setCell a (num n)):=by
 simp [execOp,go_sem,h,h2,hc,hf]
end
theorem sl_far {w:World} {g n cap k:Nat} {plots:List Plot} {p:Plot} {f:Int} (hs:Sl w (.slice (some ⟨g,0,none⟩) n cap) 6 (plots.map Plot.cells)) (hp:plots[k]?=some p) :
  Sl (w.setCell ⟨g,k * 6+2,none⟩ (num f)) (.slice (some ⟨g,0,none⟩) n cap) 6 ((plots.set k { p with far:=f }).map Plot.cells):=by
 obtain⟨c',⟨h0,e⟩ | ⟨b,o,e,h2,h3⟩⟩:=hs
 ·cases e
 ·simp only [Value.slice.injEq,Option.some.injEq,Addr.mk.injEq,and_true] at e
  obtain⟨⟨rfl,rfl⟩,e2,rfl⟩:=e
  have hkl:=(List.getElem?_eq_some_iff.1 hp).1
  have hpk:(plots.map Plot.cells)[k]?=some (Plot.cells p):=by rw [List.getElem?_map,hp];rfl
  have e3:n=((plots.set k { p with far:=f }).map Plot.cells).length:=by rw [e2];simp
  refine⟨cap,.inr ⟨_,_,by rw [← e3],by simpa using h2,fun j i l x hj hi=>?_⟩⟩
  rw [List.getElem?_map,List.getElem?_set] at hj
  by_cases hjk:k=j
  ·subst hjk
   rw [if_pos rfl,if_pos hkl] at hj
   simp only [Option.map_some,Option.some.injEq] at hj
   subst hj
   have old:=fun y (hy:(Plot.cells p)[i]?=some y)=>h3 k i _ y hpk hy
   by_cases hi2:i=2
   ·subst hi2
    have h4:=old (num p.far) rfl
    obtain rfl:num f=x:=Option.some.inj hi
    rw [Nat.zero_add] at h4 ⊢
    exact World.cell?_setCell_same _ _ _ h4
   ·have hx:(Plot.cells p)[i]?=some x:=by
     match i,hi2,hi with
     | 0,_,hi=>exact hi
     | 1,_,hi=>exact hi
     | 3,_,hi=>exact hi
     | 4,_,hi=>exact hi
     | 5,_,hi=>exact hi
     | (m+6),_,hi=>simp [Plot.cells] at hi
    exact (World.cell?_setCell_other _ _ _ _ (by first | (simp;done) | (simp;omega))).trans (old x hx)
  ·rw [if_neg hjk] at hj
   have hi6:i<6:=by
    cases hpj:plots[j]? with
    | none=>rw [hpj] at hj;cases hj
    | some q =>
     rw [hpj] at hj
     obtain rfl:=Option.some.inj hj
     exact (List.getElem?_eq_some_iff.1 hi).1
   exact (World.cell?_setCell_other _ _ _ _ (by first | (simp;done) | (simp;omega))).trans (h3 j i l x (by rw [List.getElem?_map];exact hj) hi)
noncomputable def opge21:Array Oper:=match ge21 with | .region _ ops _=>ops | _=>#[]
theorem ge21_eqA:ge21=.region 21 opge21 true:=by kernel_rfl
theorem gets_far {v0 v1 v2 v3 v6 v7 v8 v9 v10 v12 v13 v14 v15 v17 v18 v19 v20 v21 v22 v23 v24 v25 v26 v27 v28 v29 v30 v31 v32 v33 v34 v35 v36 v37 v38 v39 v40 v41 v42 v43 v44 v45 v46 v47 v48 v49 v50 v51 v52 v53 v54 v55 v56 v57 v58 v59 v60 v61 v62 v63 v64 v65 v66 v67 v68 v69 v70 v71 v72 v73 v74 v75 v76 v77 v78 v79 v80 v81 v82 v83 v84 v85 v86 v87 v88 v89 v90 v91 v92 v93 v94 v95 v96 v97 v98 v99 v100 v101 v102 v103 v104 v105 v106 v107 v108 v109 v110 v111 v112 v113 v114 v115 v116 v117 v118 v119 v120 v121 v122 v123 v124 v125 v126 v127 v128 v129 v130 v131 v132 v133 v134 v135 v136 v137 v138 v139 v140 v141 v142 v143 v144 v145 v146 v147 v148 v149 v150:Value} (Y:World) (B Bo g b off n cap pc k:Nat) (far le:Int) (u:Value) (h1:Y.cell? ⟨Bo,13,none⟩=some (.slice (some ⟨g,0,none⟩) n cap)) (h2:Y.cell? ⟨B,13,none⟩=some (.slice (some ⟨b,off,none⟩) n pc)) (h3:Y.cell? ⟨b,off+k * 6+2,none⟩=some (num far))
  (hu:Y.cell? ⟨g,k * 6+2,none⟩=some u) (hf:Y.frozen? ⟨g,k * 6+2,none⟩=false) (hkn:k<n) (hle:0≤le∧le≤65535) (hfar:0≤far∧far≤20) (hg1:Bo≠g) (hg2:B≠g) (hg3:b≠g) :
  ge21.wpIn (FG 15) 0 Tryd.prog (fun e a w'=>e=.normal∧a.defers=[]∧a.tmps=#[v0,v1,v2,v3,.int .u16 le,.pointer (some ⟨B,0,none⟩),v6,v7,v8,v9,v10,num k,v12,v13,v14,v15,.pointer (some ⟨Bo,0,none⟩),v17,v18,v19,v20,v21,v22,v23,v24,v25,v26,v27,v28,v29,v30,v31,v32,v33,v34,v35,v36,v37,v38,v39,v40,v41,v42,v43,v44,v45,v46,v47,v48,v49,v50,v51,v52,v53,v54,v55,v56,v57,v58,v59,v60,v61,v62,v63,v64,v65,v66,v67,v68,v69,v70,v71,v72,v73,v74,v75,v76,v77,v78,v79,v80,v81,v82,v83,v84,v85,v86,v87,v88,v89,v90,v91,v92,v93,v94,v95,v96,v97,v98,v99,v100,v101,v102,v103,v104,v105,v106,v107,v108,v109,v110,v111,v112,v113,v114,v115,v116,v117,v118,v119,v120,v121,v122,v123,v124,v125,v126,v127,v128,v129,v130,v131,v132,v133,v134,v135,v136,v137,v138,v139,v140,v141,v142,v143,v144,v145,v146,v147,v148,v149,v150,.pointer (some ⟨Bo,13,none⟩),.slice (some ⟨g,0,none⟩) n cap,num k,.pointer (some ⟨B,13,none⟩),.slice (some ⟨b,off,none⟩) n pc,num k,.pointer (some ⟨b,off+k * 6,none⟩),.pointer (some ⟨b,off+k * 6+2,none⟩),num far,.int .u16 le,num le,num (le % 5),num (far+le % 5),num (min 20 (far+le % 5)),.pointer (some ⟨g,k * 6,none⟩),.pointer (some ⟨g,k * 6+2,none⟩),undef,undef,undef,undef,undef,undef,undef,undef,undef,undef,undef,undef,undef,undef,undef,undef,undef,undef,undef,undef,undef,undef,undef,undef,undef]∧w'=Y.drew.setCell ⟨g,k * 6+2,none⟩ (num (min 20 (far+le % 5)))) ⟨#[v0,v1,v2,v3,.int .u16 le,.pointer (some ⟨B,0,none⟩),v6,v7,v8,v9,v10,num k,v12,v13,v14,v15,.pointer (some ⟨Bo,0,none⟩),v17,v18,v19,v20,v21,v22,v23,v24,v25,v26,v27,v28,v29,v30,v31,v32,v33,v34,v35,v36,v37,v38,v39,v40,v41,v42,v43,v44,v45,v46,v47,v48,v49,v50,v51,v52,v53,v54,v55,v56,v57,v58,v59,v60,v61,v62,v63,v64,v65,v66,v67,v68,v69,v70,v71,v72,v73,v74,v75,v76,v77,v78,v79,v80,v81,v82,v83,v84,v85,v86,v87,v88,v89,v90,v91,v92,v93,v94,v95,v96,v97,v98,v99,v100,v101,v102,v103,v104,v105,v106,v107,v108,v109,v110,v111,v112,v113,v114,v115,v116,v117,v118,v119,v120,v121,v122,v123,v124,v125,v126,v127,v128,v129,v130,v131,v132,v133,v134,v135,v136,v137,v138,v139,v140,v141,v142,v143,v144,v145,v146,v147,v148,v149,v150,undef,undef,undef,undef,undef,undef,undef,undef,undef,undef,undef,undef,undef,undef,undef,undef,undef,undef,undef,undef,undef,undef,undef,undef,undef,undef,undef,undef,undef,undef,undef,undef,undef,undef,undef,undef,undef,undef,undef,undef,undef],[]⟩ Y:=by
 rw [ge21_eqA]
 let C:World→Prop:=fun x=>x.cell? ⟨Bo,13,none⟩=some (.slice (some ⟨g,0,none⟩) n cap)∧x.cell? ⟨B,13,none⟩=some (.slice (some ⟨b,off,none⟩) n pc)∧x.cell? ⟨b,off+k * 6+2,none⟩=some (num far)
 have cY:C Y:=⟨h1,h2,h3⟩
 have hu' : Y.drew.cell? ⟨g,k * 6+2,none⟩=some u:=hu
 have hf' : Y.drew.frozen? ⟨g,k * 6+2,none⟩=false:=hf
 clear h1 h2 h3 hu hf
 refine wpIn_region_C C (by kernel_rfl) ?_
 change wpAnyC _ _ _ _ _ _ _ 17 #[false,false,false,false,false,false,false,false,false,false,false,false,false,false,false,false,false] _ _
 refine wpAnyC_takeR (i:=0) (oi:=⟨some 151,.fieldAddr 31 (.tmp 16) 11,_,_,_,none⟩) (v:=.pointer (some ⟨Bo,13,none⟩)) (plain_ops (by kernel_rfl)) rfl (by kernel_rfl) (by kernel_rfl) (by kernel_rfl) (fun _ _ _ h=>by cases h.1) (yC rfl (fun _=>rfl) fun x hx=>by simp [execOp,go_sem]) ?_
 simp only [Act.put,List.setIfInBounds_toArray,List.set_cons_succ,List.set_cons_zero]
 refine wpAnyC_takeR (i:=1) (oi:=⟨some 152,.load 29 (.tmp 151),_,_,_,none⟩) (v:=.slice (some ⟨g,0,none⟩) n cap) (plain_ops (by kernel_rfl)) rfl (by kernel_rfl) (by kernel_rfl) (by kernel_rfl) (fun _ _ _ h=>by cases h.1) (yC rfl (fun _=>rfl) fun x hx=>by have e:=hx.1;simp [execOp,go_sem,e]) ?_
 simp only [Act.put,List.setIfInBounds_toArray,List.set_cons_succ,List.set_cons_zero]
 refine wpAnyC_takeR (i:=2) (oi:=⟨some 153,.move (.tmp 11),_,_,_,none⟩) (v:=num k) (plain_ops (by kernel_rfl)) rfl (by kernel_rfl) (by kernel_rfl) (by kernel_rfl) (fun _ _ _ h=>by cases h.1) (yC rfl (fun _=>rfl) fun x hx=>by simp [execOp,go_sem]) ?_
 simp only [Act.put,List.setIfInBounds_toArray,List.set_cons_succ,List.set_cons_zero]
 refine wpAnyC_takeR (i:=3) (oi:=⟨some 154,.fieldAddr 31 (.tmp 5) 11,_,_,_,none⟩) (v:=.pointer (some ⟨B,13,none⟩)) (plain_ops (by kernel_rfl)) rfl (by kernel_rfl) (by kernel_rfl) (by kernel_rfl) (fun _ _ _ h=>by cases h.1) (yC rfl (fun _=>rfl) fun x hx=>by simp [execOp,go_sem]) ?_
 simp only [Act.put,List.setIfInBounds_toArray,List.set_cons_succ,List.set_cons_zero]
 refine wpAnyC_takeR (i:=4) (oi:=⟨some 155,.load 29 (.tmp 154),_,_,_,none⟩) (v:=.slice (some ⟨b,off,none⟩) n pc) (plain_ops (by kernel_rfl)) rfl (by kernel_rfl) (by kernel_rfl) (by kernel_rfl) (fun _ _ _ h=>by cases h.1) (yC rfl (fun _=>rfl) fun x hx=>by have e:=hx.2.1;simp [execOp,go_sem,e]) ?_
 simp only [Act.put,List.setIfInBounds_toArray,List.set_cons_succ,List.set_cons_zero]
 refine wpAnyC_takeR (i:=5) (oi:=⟨some 156,.move (.tmp 11),_,_,_,none⟩) (v:=num k) (plain_ops (by kernel_rfl)) rfl (by kernel_rfl) (by kernel_rfl) (by kernel_rfl) (fun _ _ _ h=>by cases h.1) (yC rfl (fun _=>rfl) fun x hx=>by simp [execOp,go_sem]) ?_
 simp only [Act.put,List.setIfInBounds_toArray,List.set_cons_succ,List.set_cons_zero]
 refine wpAnyC_takeR (i:=6) (oi:=⟨some 157,.indexAddr 29 (.tmp 155) (.tmp 156),_,_,_,none⟩) (v:=.pointer (some ⟨b,off+k * 6,none⟩)) (plain_ops (by kernel_rfl)) rfl (by kernel_rfl) (by kernel_rfl) (by kernel_rfl) (fun _ _ _ h=>by cases h.1) (yC rfl (fun _=>rfl) fun x hx=>by simp [execOp,go_sem,hkn]) ?_
 simp only [Act.put,List.setIfInBounds_toArray,List.set_cons_succ,List.set_cons_zero]
 refine wpAnyC_takeR (i:=7) (oi:=⟨some 158,.fieldAddr 91 (.tmp 157) 2,_,_,_,none⟩) (v:=.pointer (some ⟨b,off+k * 6+2,none⟩)) (plain_ops (by kernel_rfl)) rfl (by kernel_rfl) (by kernel_rfl) (by kernel_rfl) (fun _ _ _ h=>by cases h.1) (yC rfl (fun _=>rfl) fun x hx=>by simp [execOp,go_sem]) ?_
 simp only [Act.put,List.setIfInBounds_toArray,List.set_cons_succ,List.set_cons_zero]
 refine wpAnyC_takeR (i:=8) (oi:=⟨some 159,.load 3 (.tmp 158),_,_,_,none⟩) (v:=num far) (plain_ops (by kernel_rfl)) rfl (by kernel_rfl) (by kernel_rfl) (by kernel_rfl) (fun _ _ _ h=>by cases h.1) (yC rfl (fun _=>rfl) fun x hx=>by have e:=hx.2.2;simp [execOp,go_sem,e]) ?_
 simp only [Act.put,List.setIfInBounds_toArray,List.set_cons_succ,List.set_cons_zero]
 refine wpAnyC_takeR (i:=9) (oi:=⟨some 160,.move (.tmp 4),_,_,_,none⟩) (v:=.int .u16 le) (plain_ops (by kernel_rfl)) rfl (by kernel_rfl) (by kernel_rfl) (by kernel_rfl) (fun _ _ _ h=>by cases h.1) (yC rfl (fun _=>rfl) fun x hx=>by simp [execOp,go_sem]) ?_
 simp only [Act.put,List.setIfInBounds_toArray,List.set_cons_succ,List.set_cons_zero]
 refine wpAnyC_takeR (i:=10) (oi:=⟨some 161,.convert 77 3 (.tmp 160),_,_,_,none⟩) (v:=num le) (plain_ops (by kernel_rfl)) rfl (by kernel_rfl) (by kernel_rfl) (by kernel_rfl) (fun _ _ _ h=>by cases h.1) (yC rfl (fun _=>rfl) fun x hx=>by simp [execOp,go_sem];exact IntWalk.i64_in _ (by omega)) ?_
 simp only [Act.put,List.setIfInBounds_toArray,List.set_cons_succ,List.set_cons_zero]
 refine wpAnyC_takeR (i:=11) (oi:=⟨some 162,.binOp .rem 3 (.tmp 161) (.const (.int .i64 5)) 3,_,_,_,none⟩) (v:=num (le % 5)) (plain_ops (by kernel_rfl)) rfl (by kernel_rfl) (by kernel_rfl) (by kernel_rfl) (fun _ _ _ h=>by cases h.1) (yC rfl (fun _=>rfl) fun x hx=>by have h3:le.tmod 5=le % 5:=Int.tmod_eq_emod_of_nonneg hle.1;simp [execOp,go_sem,h3]) ?_
 simp only [Act.put,List.setIfInBounds_toArray,List.set_cons_succ,List.set_cons_zero]
 refine wpAnyC_takeR (i:=12) (oi:=⟨some 163,.binOp .add 3 (.tmp 159) (.tmp 162) 3,_,_,_,none⟩) (v:=num (far+le % 5)) (plain_ops (by kernel_rfl)) rfl (by kernel_rfl) (by kernel_rfl) (by kernel_rfl) (fun _ _ _ h=>by cases h.1) (yC rfl (fun _=>rfl) fun x hx=>by simp [execOp,go_sem];exact IntWalk.i64_in _ (by omega)) ?_
 simp only [Act.put,List.setIfInBounds_toArray,List.set_cons_succ,List.set_cons_zero]
 refine wpAnyC_takeR (i:=13) (oi:=⟨some 164,.call { callee:=.builtin .min,args:=#[.const (.int .i64 20),.tmp 163],argTypes:=#[3,3] },_,_,_,none⟩) (v:=num (min 20 (far+le % 5))) (plain_ops (by kernel_rfl)) rfl (by kernel_rfl) (by kernel_rfl) (by kernel_rfl) (fun _ _ _ h=>by cases h.1) (yC rfl (fun _=>rfl) fun x hx=>by exact min20_run _ rfl rfl) ?_
 simp only [Act.put,List.setIfInBounds_toArray,List.set_cons_succ,List.set_cons_zero]
 refine wpAnyC_takeR (i:=14) (oi:=⟨some 165,.indexAddr 29 (.tmp 152) (.tmp 153),_,_,_,none⟩) (v:=.pointer (some ⟨g,k * 6,none⟩)) (plain_ops (by kernel_rfl)) rfl (by kernel_rfl) (by kernel_rfl) (by kernel_rfl) (fun _ _ _ h=>by cases h.1) (yC rfl (fun _=>rfl) fun x hx=>by simp [execOp,go_sem,hkn]) ?_
 simp only [Act.put,List.setIfInBounds_toArray,List.set_cons_succ,List.set_cons_zero]
 refine wpAnyC_takeR (i:=15) (oi:=⟨some 166,.fieldAddr 91 (.tmp 165) 2,_,_,_,none⟩) (v:=.pointer (some ⟨g,k * 6+2,none⟩)) (plain_ops (by kernel_rfl)) rfl (by kernel_rfl) (by kernel_rfl) (by kernel_rfl) (fun _ _ _ h=>by cases h.1) (yC rfl (fun _=>rfl) fun x hx=>by simp [execOp,go_sem]) ?_
 simp only [Act.put,List.setIfInBounds_toArray,List.set_cons_succ,List.set_cons_zero]
 change wpAnyC _ _ _ _ _ _ _ _ _ _ Y.drew
 refine wpAnyC_only (i:=16) (o:=⟨none,.store 3 (.tmp 166) (.tmp 164),_,_,_,none⟩) (by kernel_rfl) rfl rfl (show C Y.drew from cY) ?_
 intro K hK
 refine wpIn_of_skip rfl rfl (st3_run _ rfl rfl hu' hf') ?_
 simp only [Act.put]
 refine hK _ _ ?_
 refine wpAnyC_done (by kernel_rfl) ⟨(World.cell?_setCell_other _ _ _ _ (by simp [hg1])).trans cY.1,(World.cell?_setCell_other _ _ _ _ (by simp [hg2])).trans cY.2.1,(World.cell?_setCell_other _ _ _ _ (by simp [hg3])).trans cY.2.2⟩ ⟨rfl,rfl,rfl,rfl⟩
end Go.Proofs.YtolholkjeehamaaDoor

namespace Go.Proofs.YtolholkjeehamaaDoor
open Go.RowKit Go.Con Go.Conc
local instance:Lone:=mainL
def GetsR (W:World) (t:Array Value) (W2:World):Prop:=Old W W2∧∃ (bx cy:Nat) (x y s q:Int),s≤x∧q≤y∧t.size=192∧t[13]?=some (num 0)∧t[19]?=some (.pointer (some ⟨cy,0,none⟩))∧t[12]?=some (.pointer (some ⟨bx,0,none⟩)) ∧
 W2.cell? ⟨cy,0,none⟩=some (num s)∧W2.cell? ⟨cy,1,none⟩=some (num q)∧W2.cell? ⟨bx,0,none⟩=some (num x)∧W2.cell? ⟨bx,1,none⟩=some (num y)
theorem set2_row {w:World} {b:Nat} {x y u v:Value} (h:w.heap[b]?=some (.cells #[x,y] 28 (0,0))):((w.setCell ⟨b,0,none⟩ u).setCell ⟨b,1,none⟩ v).heap[b]?=some (.cells #[u,v] 28 (0,0)):=by
 unfold World.setCell
 simp [Array.getElem?_modify,h]
theorem gets_d {v0 v1 v2 v3 v6 v7 v8 v9 v10 v13 v14 v15 v17 v18 v20 v21 v22 v23 v24 v25 v26 v27 v28 v29 v30 v31 v32 v33 v34 v35 v36 v37 v38 v39 v40 v41 v42 v43 v44 v45 v46 v47 v48 v49 v50 v51 v52 v53 v54 v55 v56 v57 v58 v59 v60 v61 v62 v63 v64 v65 v66 v67 v68 v69 v70 v71 v72 v73 v74 v75 v76 v77 v78 v79 v80 v81 v82 v83 v84 v85 v86 v87 v88 v89 v90 v91 v92 v93 v94 v95 v96 v97 v98 v99 v100 v101 v102 v103 v104 v105 v106 v107 v108 v109 v110 v111 v112 v113 v114 v115 v116 v117 v118 v119 v120 v121 v122 v123 v124 v125 v126 v127 v128 v129 v130 v131 v132 v133 v134 v135 v136 v137 v138 v139 v140 v141 v142 v143 v144:Value} (d:Dit) (r:Rows6) (k:Nat) (p:Plot) (le gx gy s q:Int) (W w:World) (B Bx Bo By:Nat) (x0 x1 x2 x3 x4 x5 x6 x7 x8 x9 x10 x11 x12 x13 y0 y1:Value) (hd:DitSl W d r) (hs:d.Small) (hg:Glob W) (hck:checkS d=0) (hp:d.plots[k]?=some p) (hle:0≤le∧le≤65535) (hOw:Old W w)
  (hc:∀ i v,(d.cellsA r)[i]?=some v→w.cell? ⟨B,i,none⟩=some v) (hB:B<w.heap.size) (hO:w.heap[Bo]?=some (.cells #[x0,x1,x2,x3,x4,x5,x6,x7,x8,x9,x10,x11,x12,x13] 31 (0,0))) (hX:w.heap[Bx]?=some (.cells #[num gx,num gy] 28 (0,0))) (hYr:w.heap[By]?=some (.cells #[y0,y1] 28 (0,0)))
  (hWB:W.heap.size≤B∧B<Bx∧Bx<Bo∧Bo<By) (hq:getsF (d.wet d.flow d.loss (d.plots.set k { p with far:=min 20 (p.far+le % 5) })) k=((s,q),0)) (hsx:s≤gx) (hqy:q≤gy) :
  Lones Tryd.prog (FG 15) [ge19,ge20,ge21,ge22] (GetsR W) #[v0,v1,v2,v3,.int .u16 le,.pointer (some ⟨B,0,none⟩),v6,v7,v8,v9,v10,num k,.pointer (some ⟨Bx,0,none⟩),v13,v14,v15,.pointer (some ⟨Bo,0,none⟩),v17,v18,.pointer (some ⟨By,0,none⟩),v20,v21,v22,v23,v24,v25,v26,v27,v28,v29,v30,v31,v32,v33,v34,v35,v36,v37,v38,v39,v40,v41,v42,v43,v44,v45,v46,v47,v48,v49,v50,v51,v52,v53,v54,v55,v56,v57,v58,v59,v60,v61,v62,v63,v64,v65,v66,v67,v68,v69,v70,v71,v72,v73,v74,v75,v76,v77,v78,v79,v80,v81,v82,v83,v84,v85,v86,v87,v88,v89,v90,v91,v92,v93,v94,v95,v96,v97,v98,v99,v100,v101,v102,v103,v104,v105,v106,v107,v108,v109,v110,v111,v112,v113,v114,v115,v116,v117,v118,v119,v120,v121,v122,v123,v124,v125,v126,v127,v128,v129,v130,v131,v132,v133,v134,v135,v136,v137,v138,v139,v140,v141,v142,v143,v144,undef,undef,undef,undef,undef,undef,undef,undef,undef,undef,undef,undef,undef,undef,undef,undef,undef,undef,undef,undef,undef,undef,undef,undef,undef,undef,undef,undef,undef,undef,undef,undef,undef,undef,undef,undef,undef,undef,undef,undef,undef,undef,undef,undef,undef,undef,undef] w:=by
 have hOk:=ok_of_check hck
 have hkl:=(List.getElem?_eq_some_iff.1 hp).1
 have hlX:=lt_of_some hX
 have hlO:=lt_of_some hO
 have hlY:=lt_of_some hYr
 intro τ19
 generalize hq19:({ w with tape:=τ19 }:World)=u19
 have e19:u19.heap=w.heap:=by rw [← hq19]
 clear hq19
 have oA19:Old W u19:=hOw.trans (.same e19)
 refine wpIn_mono (gets_again d r u19 B Bo x0 x1 x2 x3 x4 x5 x6 x7 x8 x9 x10 x11 x12 x13 (hd.old oA19) (fun i v h=>(show u19.cell? ⟨B,i,none⟩=w.cell? ⟨B,i,none⟩ by unfold World.cell?;rw [e19]).trans (hc i v h)) (by rw [e19];exact hO)) ?_
 rintro e a w1 ⟨rfl,h2,ht,hs1,hot1,hr1⟩
 refine⟨rfl,h2,?_⟩
 rw [ht]
 clear h2 ht
 have oB19:Old W w1:=old_then oA19 (Nat.le_of_eq hs1.symm) fun b hb=>hot1 b (by omega)
 have cB1:∀ i v,(d.cellsA r)[i]?=some v→w1.cell? ⟨B,i,none⟩=some v:=fun i v h=>by
  rw [← hc i v h]
  unfold World.cell?
  dsimp only
  rw [hot1 B (by omega),e19]
 have hX1:w1.heap[Bx]?=some (.cells #[num gx,num gy] 28 (0,0)):=(hot1 Bx (by omega)).trans (by rw [e19];exact hX)
 have hY1:w1.heap[By]?=some (.cells #[y0,y1] 28 (0,0)):=(hot1 By (by omega)).trans (by rw [e19];exact hYr)
 have hsw:w1.heap.size=w.heap.size:=by rw [hs1,e19]
 clear hot1 hs1 e19 oA19 hO hX hYr hc
 intro τ20
 generalize hq20:({ w1 with tape:=τ20 }:World)=u20
 have e20:u20.heap=w1.heap:=by rw [← hq20]
 clear hq20
 have oA20:Old W u20:=oB19.trans (.same e20)
 have cB20:∀ i v,(d.cellsA r)[i]?=some v→u20.cell? ⟨B,i,none⟩=some v:=fun i v h=>(show u20.cell? ⟨B,i,none⟩=w1.cell? ⟨B,i,none⟩ by unfold World.cell?;rw [e20]).trans (cB1 i v h)
 refine wpIn_mono (gets_copy d r u20 B Bo (hd.old oA20) (by omega) hOk.p8 cB20 (by rw [e20];omega) (by rw [e20];exact hr1)) ?_
 rintro e a w2 ⟨rfl,h2,g,cap,ht,hs2,hot2,hr2,hg2,hcap2,hown2⟩
 refine⟨rfl,h2,?_⟩
 rw [ht]
 clear h2 ht
 have e20s:u20.heap.size=w.heap.size:=by rw [e20,hsw]
 have oB20:Old W w2:=old_then oA20 hs2 fun b hb=>hot2 b (by omega) (by omega)
 have hX2:w2.heap[Bx]?=some (.cells #[num gx,num gy] 28 (0,0)):=(hot2 Bx (by omega) (by omega)).trans (by rw [e20];exact hX1)
 have hY2:w2.heap[By]?=some (.cells #[y0,y1] 28 (0,0)):=(hot2 By (by omega) (by omega)).trans (by rw [e20];exact hY1)
 have cB2:∀ i v,(d.cellsA r)[i]?=some v→w2.cell? ⟨B,i,none⟩=some v:=fun i v h=>by
  rw [← cB20 i v h]
  unfold World.cell?
  dsimp only
  rw [hot2 B (by omega) (by omega)]
 clear hot2 hr1 hX1 hY1 cB1 cB20 e20 oA20 oB19
 obtain⟨hfl,⟨hno,_⟩ | ⟨g',cap',cur,hgc,hbg,hgr,hgn,hgm,hgs,hgt⟩⟩:=id hown2
 ·cases hno
 cases hgc
 have hsl2:Sl w2 (.slice (some ⟨g,0,none⟩) d.plots.length cap) 6 (d.plots.map Plot.cells):=own_sl (fun y hy=>by obtain⟨z,_,rfl⟩:=List.mem_map.1 hy;rfl) (by simp) hown2
 obtain⟨ap,pc,ep⟩:=hd.plots.cases
 have hv:=hd.plots
 rw [ep] at hv
 rw [List.length_map] at ep
 obtain⟨b,off,rfl,hbl,hcl⟩:=hv.get (by simp;omega)
 have hfarc:∀ u,Old W u→u.cell? ⟨b,off+k * 6+2,none⟩=some (num p.far):=fun u o=>(o.cell ⟨b,off+k * 6+2,none⟩ hbl).trans (hcl k 2 (Plot.cells p) (num p.far) (by simp [hp]) rfl)
 have hgfar:w2.cell? ⟨g,k * 6+2,none⟩=some (num p.far):=by
  obtain⟨b',off',e',hb',hc'⟩:=hsl2.get (by simp;omega)
  simp only [Option.some.injEq,Addr.mk.injEq,and_true] at e'
  obtain⟨rfl,rfl⟩:=e'
  have:=hc' k 2 (Plot.cells p) (num p.far) (by simp [hp]) rfl
  simpa using this
 have hpl:=hOk.pl k p hp
 intro τ21
 generalize hq21:({ w2 with tape:=τ21 }:World)=u21
 have e21:u21.heap=w2.heap:=by rw [← hq21]
 clear hq21
 have ec21:∀ a:Addr,u21.cell? a=w2.cell? a:=fun a=>by unfold World.cell?;rw [e21]
 refine wpIn_mono (gets_far u21 B Bo g b off d.plots.length cap pc k p.far le (num p.far) (by unfold World.cell?;dsimp only;rw [e21,hr2];rfl) (by rw [ec21,← ep];exact cB2 13 _ rfl) (by rw [ec21];exact hfarc w2 oB20) (by rw [ec21];exact hgfar) (by rw [frozen_of_row _ _ _ _ _ (by rw [e21];exact hgr)]) hkl hle hpl.2.2.2.1 (by omega) (by omega) (by have:=hOw.size;omega)) ?_
 rintro e a w3 ⟨rfl,h2,ht,hw3⟩
 refine⟨rfl,h2,?_⟩
 rw [ht]
 clear h2 ht
 have hot3:∀ k',k'≠g→w3.heap[k']?=w2.heap[k']?:=fun k' hk'=>by
  rw [hw3,heap_setCell_other _ _ _ _ (by exact hk')]
  show u21.heap[k']?=_
  rw [e21]
 have hs3:w3.heap.size=w2.heap.size:=by rw [hw3];simp [World.drew,e21]
 have hsl3:Sl w3 (.slice (some ⟨g,0,none⟩) d.plots.length cap) 6 ((d.plots.set k { p with far:=min 20 (p.far+le % 5) }).map Plot.cells):=by
  rw [hw3]
  refine sl_far (sl_at hsl2 (Nat.le_of_eq (by show _=u21.heap.size;rw [e21])) ?_) hp
  show u21.heap[g]?=_
  rw [e21]
 have hgr3:∃ cs,w3.heap[g]?=some (.cells cs 91 (0,0)):=by
  have hg21:u21.drew.heap[g]?=some (.cells cur 91 (0,0)):=by show u21.heap[g]?=_;rw [e21];exact hgr
  rw [hw3]
  unfold World.setCell
  exact⟨_,by simp [Array.getElem?_modify,hg21];rfl⟩
 clear hw3 e21 ec21 hsl2 hown2 hgr hgt hgs hgfar hfarc hcl
 have oB21:Old W w3:=old_then oB20 (Nat.le_of_eq hs3.symm) fun b' hb'=>hot3 b' (by omega)
 have hX3:=(hot3 Bx (by omega)).trans hX2
 have hY3:=(hot3 By (by omega)).trans hY2
 have hr3:=(hot3 Bo (by omega)).trans hr2
 clear hot3 hX2 hY2 hr2 cB2
 intro τ22
 generalize hq22:({ w3 with tape:=τ22 }:World)=u22
 have e22:u22.heap=w3.heap:=by rw [← hq22]
 clear hq22
 have oA22:Old W u22:=oB21.trans (.same e22)
 obtain⟨cs3,hcs3⟩:=hgr3
 have hd22:=hd.old oA22
 have hkk:=hd22.kinds
 simp only [List.mem_cons,List.not_mem_nil,or_false,forall_eq_or_imp,forall_eq] at hkk
 obtain⟨k1,k2,k3,k4,k5,k6⟩:=hkk
 have hdq:DitSl u22 (d.wet d.flow d.loss (d.plots.set k { p with far:=min 20 (p.far+le % 5) })) { r with p:=.slice (some ⟨g,0,none⟩) d.plots.length cap }:=⟨hd22.holders,hd22.turns,hd22.feasts,hd22.swaps,hd22.loans,sl_at hsl3 (Nat.le_of_eq (by rw [e22])) (by rw [e22]),hd22.cap0,fun a n c e=>by cases e;exact hcap2,fun v hv=>by
  simp only [List.mem_cons,List.not_mem_nil,or_false] at hv
  rcases hv with rfl | rfl | rfl | rfl | rfl | rfl
  ·exact k1
  ·exact k2
  ·exact k3
  ·exact k4
  ·exact k5
  ·exact fun a n c e=>by cases e;exact⟨_,_,_,by rw [e22];exact hcs3⟩⟩
 have hsq:(d.wet d.flow d.loss (d.plots.set k { p with far:=min 20 (p.far+le % 5) })).Small:=⟨hs.h,hs.t,hs.f,hs.s,hs.l,by show (d.plots.set _ _).length≤_;rw [List.length_set];exact hs.p,hs.hn,fun x hx=>by
  have hx' : x∈d.plots.set k { p with far:=min 20 (p.far+le % 5) }:=hx
  rcases List.mem_or_eq_of_mem_set hx' with h | h
  ·exact hs.pn x h
  ·rw [h];exact hs.pn p (List.mem_of_getElem? hp)⟩
 have cq:∀ i v,((d.wet d.flow d.loss (d.plots.set k { p with far:=min 20 (p.far+le % 5) })).cellsA { r with p:=.slice (some ⟨g,0,none⟩) d.plots.length cap })[i]?=some v→u22.cell? ⟨Bo,i,none⟩=some v:=fun i v h=>by
  unfold World.cell?
  dsimp only
  rw [e22,hr3]
  exact h
 have k47:=toFG 15 (m:=0) (getsP_any _ _ (k:Int) u22 hdq hsq (hg.old oA22))
 rw [hq] at k47
 obtain⟨c0,c1,c2,c3,c4,c5,c6,c7,c8,c9,c10,c11,c12,c13⟩:=cells14 cq
 have HX:=Lib.hid (show u22.heap[Bx]?=some (.cells #[num gx,num gy] 28 (0,0)) by rw [e22];exact hX3)
 have HY:=Lib.hid (show u22.heap[By]?=some (.cells #[y0,y1] 28 (0,0)) by rw [e22];exact hY3)
 generalize d.wet d.flow d.loss (d.plots.set k { p with far:=min 20 (p.far+le % 5) })=o at *
 generalize ({ r with p:=.slice (some ⟨g,0,none⟩) d.plots.length cap }:Rows6)=ro at *
 clear hdq hsq cq hX3 hY3 hr3 hsl3 hcs3 hd22 k1 k2 k3 k4 k5 k6 e22 hs3 hs2 hsw ep hv hpl hq
 simp only [ge22,gep17,gep16,gep15,gep14,gep13,gep12,gep11,gep10,gep9,gep8,gep7,gep6,gep5,gep4,gep3,gep2,gep1,lawB15,seqL,seqR,Tryd.f15]
 gi_wp2_with (first
  | (gi_at_call 47;refine CallsIn.mono k47 ?_;rintro e w5 ⟨rfl,x5⟩;clear k47 c0 c1 c2 c3 c4 c5 c6 c7 c8 c9 c10 c11 c12 c13;have hY5:=(x5.block By (lt_of_some HY.out)).trans HY.out;have f0:w5.frozen? ⟨By,0,none⟩=false:=frozen_of_row _ _ _ _ _ hY5;have f1:w5.frozen? ⟨By,1,none⟩=false:=frozen_of_row _ _ _ _ _ hY5;have e0:w5.cell? ⟨By,0,none⟩=some y0:=(by unfold World.cell?;dsimp only;rw [hY5];rfl);have e1:w5.cell? ⟨By,1,none⟩=some y1:=(by unfold World.cell?;dsimp only;rw [hY5];rfl);have HY5:=Lib.hid hY5;clear hY5)
  | gi_in)
 have hrow:=set2_row (u:=num s) (v:=num q) HY5.out
 have hX5:=(x5.block Bx (lt_of_some HX.out)).trans HX.out
 have hX6:((w5.setCell ⟨By,0,none⟩ (num s)).setCell ⟨By,1,none⟩ (num q)).heap[Bx]?=some (.cells #[num gx,num gy] 28 (0,0)):=by
  rw [heap_setCell_other _ _ _ _ (by show Bx≠By;omega),heap_setCell_other _ _ _ _ (by show Bx≠By;omega)]
  exact hX5
 refine (show GetsR W _ _ from ⟨(old_then (oA22.trans (.nx x5)) (by simp) fun b' hb'=>?_),Bx,By,gx,gy,s,q,hsx,hqy,rfl,rfl,rfl,rfl,?_,?_,?_,?_⟩)
 ·rw [heap_setCell_other _ _ _ _ (by show b'≠By;omega),heap_setCell_other _ _ _ _ (by show b'≠By;omega)]
 ·unfold World.cell?;dsimp only;rw [hrow];rfl
 ·unfold World.cell?;dsimp only;rw [hrow];rfl
 ·unfold World.cell?;dsimp only;rw [hX6];rfl
 ·unfold World.cell?;dsimp only;rw [hX6];rfl
end Go.Proofs.YtolholkjeehamaaDoor

namespace Go.Proofs.YtolholkjeehamaaDoor
open Go.RowKit Go.Con Go.Conc
local instance:Lone:=mainL
theorem gets_box {v0 v1 v2 v3 v4 v6 v7 v8 v9 v10 v11 v12 v13 v14 v15 v16 v17 v18 v19 v20 v21 v22 v23 v24 v25 v26 v27 v28 v29 v30 v31 v32 v33 v34 v35 v36 v37 v38 v39 v40 v41 v42 v43 v44 v45 v46 v47 v48 v49 v50 v51 v52 v53 v54 v55 v56 v57 v58 v59 v60 v61 v62 v63 v64 v65 v66 v67 v68 v69 v70 v71 v72 v73 v74 v75 v76 v77 v78 v79 v80 v81 v82 v83 v84 v85 v86 v87:Value} (d:Dit) (r:Rows6) (Y:World) (B:Nat) (hd:DitSl Y d r) (hc:∀ i v,(d.cellsA r)[i]?=some v→Y.cell? ⟨B,i,none⟩=some v) :
  ge12.wpIn (FG 15) 0 Tryd.prog (fun e a w'=>e=.normal∧a.defers=[]∧a.tmps=#[v0,v1,v2,v3,v4,.pointer (some ⟨B,0,none⟩),v6,v7,v8,v9,v10,v11,v12,v13,v14,v15,.pointer (some ⟨Y.heap.size,0,none⟩),v17,v18,v19,v20,v21,v22,v23,v24,v25,v26,v27,v28,v29,v30,v31,v32,v33,v34,v35,v36,v37,v38,v39,v40,v41,v42,v43,v44,v45,v46,v47,v48,v49,v50,v51,v52,v53,v54,v55,v56,v57,v58,v59,v60,v61,v62,v63,v64,v65,v66,v67,v68,v69,v70,v71,v72,v73,v74,v75,v76,v77,v78,v79,v80,v81,v82,v83,v84,v85,v86,v87,d.val r,undef,undef,undef,undef,undef,undef,undef,undef,undef,undef,undef,undef,undef,undef,undef,undef,undef,undef,undef,undef,undef,undef,undef,undef,undef,undef,undef,undef,undef,undef,undef,undef,undef,undef,undef,undef,undef,undef,undef,undef,undef,undef,undef,undef,undef,undef,undef,undef,undef,undef,undef,undef,undef,undef,undef,undef,undef,undef,undef,undef,undef,undef,undef,undef,undef,undef,undef,undef,undef,undef,undef,undef,undef,undef,undef,undef,undef,undef,undef,undef,undef,undef,undef,undef,undef,undef,undef,undef,undef,undef,undef,undef,undef,undef,undef,undef,undef,undef,undef,undef,undef,undef,undef]∧w'=Y.alloc (.cells (d.cellsA r) 31)) ⟨#[v0,v1,v2,v3,v4,.pointer (some ⟨B,0,none⟩),v6,v7,v8,v9,v10,v11,v12,v13,v14,v15,v16,v17,v18,v19,v20,v21,v22,v23,v24,v25,v26,v27,v28,v29,v30,v31,v32,v33,v34,v35,v36,v37,v38,v39,v40,v41,v42,v43,v44,v45,v46,v47,v48,v49,v50,v51,v52,v53,v54,v55,v56,v57,v58,v59,v60,v61,v62,v63,v64,v65,v66,v67,v68,v69,v70,v71,v72,v73,v74,v75,v76,v77,v78,v79,v80,v81,v82,v83,v84,v85,v86,v87,undef,undef,undef,undef,undef,undef,undef,undef,undef,undef,undef,undef,undef,undef,undef,undef,undef,undef,undef,undef,undef,undef,undef,undef,undef,undef,undef,undef,undef,undef,undef,undef,undef,undef,undef,undef,undef,undef,undef,undef,undef,undef,undef,undef,undef,undef,undef,undef,undef,undef,undef,undef,undef,undef,undef,undef,undef,undef,undef,undef,undef,undef,undef,undef,undef,undef,undef,undef,undef,undef,undef,undef,undef,undef,undef,undef,undef,undef,undef,undef,undef,undef,undef,undef,undef,undef,undef,undef,undef,undef,undef,undef,undef,undef,undef,undef,undef,undef,undef,undef,undef,undef,undef,undef],[]⟩ Y:=by
 obtain⟨c0,c1,c2,c3,c4,c5,c6,c7,c8,c9,c10,c11,c12,c13⟩:=cells14 hc
 obtain⟨ah,hh,eh⟩:=hd.holders.cases
 obtain⟨at1,ht,et⟩:=hd.turns.cases
 obtain⟨af,hf,ef⟩:=hd.feasts.cases
 obtain⟨as1,hs,es⟩:=hd.swaps.cases
 obtain⟨al,hl,el⟩:=hd.loans.cases
 obtain⟨ap,hp,ep⟩:=hd.plots.cases
 have hval:d.val r=.agg #[r.h,r.t,num d.begin_,num d.week,num d.from_,num d.long,r.f,r.s,r.l,num d.flow.1,num d.flow.2,num d.loss.1,num d.loss.2,r.p]:=rfl
 have hcel:d.cellsA r=#[r.h,r.t,num d.begin_,num d.week,num d.from_,num d.long,r.f,r.s,r.l,num d.flow.1,num d.flow.2,num d.loss.1,num d.loss.2,r.p]:=rfl
 rw [hval,hcel]
 clear hval hcel hc hd
 rw [eh] at c0;rw [et] at c1;rw [ef] at c6;rw [es] at c7;rw [el] at c8;rw [ep] at c13
 rw [eh,et,ef,es,el,ep]
 generalize (d.holders.map fun s=>[str s]).length=nh at *
 generalize (d.turns.map two).length=nt at *
 generalize (d.feasts.map two).length=nf at *
 generalize (d.swaps.map three).length=ns at *
 generalize (d.loans.map three).length=nl at *
 generalize (d.plots.map Plot.cells).length=np at *
 clear eh et ef es el ep
 simp only [ge12,gep17,gep16,gep15,gep14,gep13,gep12,gep11,gep10,gep9,gep8,gep7,gep6,gep5,gep4,gep3,gep2,gep1,lawB15,seqL,seqR,Tryd.f15]
 gi_wp2
theorem minK_run (n:Int) (w:World):(Builtin.min_ #[3,3] 3 #[.int .i64 100000,.int .i64 n]).run Tryd.prog w=.ok (.int .i64 (min 100000 n)) w:=by
 rw [show min 100000 n=if n<100000 then n else 100000 by omega]
 by_cases h:n<100000<;>simp [Builtin.min_,Builtin.min2,go_sem,h]
theorem maxK_run (n:Int) (w:World):(Builtin.max_ #[3,3] 3 #[.int .i64 0,.int .i64 n]).run Tryd.prog w=.ok (.int .i64 (max 0 n)) w:=by
 rw [show max 0 n=if 0<n then n else 0 by omega]
 by_cases h:0<n<;>simp [Builtin.max_,Builtin.max2,go_sem,h]
theorem gets_flow {v0 v1 v2 v3 v4 v6 v7 v8 v9 v10 v11 v12 v13 v14 v15 v19 v20 v21 v22 v23 v24 v25 v26 v27 v28 v29 v30 v31 v32 v33 v34 v35 v36 v37 v38 v39 v40 v41 v42 v43 v44 v45 v46 v47 v48 v49 v50 v51 v52 v53 v54 v55 v56 v57 v58 v59 v60 v61 v62 v63 v64 v65 v66 v67 v68 v69 v70 v71 v72 v73 v74 v75 v76 v77 v78 v79 v80 v81 v82 v83 v84 v85 v86 v87 v88 v89 v90 v91 v92 v93 v94:Value} (B Bo:Nat) (a b fl1 fl2:Int) (Y:World) (oc:Array Value) (z1 z2:Value) (q1:Y.cell? ⟨B,9,none⟩=some (num fl1)) (q2:Y.cell? ⟨B,10,none⟩=some (num fl2)) (hO:Y.heap[Bo]?=some (.cells oc 31 (0,0))) (hz1:oc[9]?=some z1) (hz2:oc[10]?=some z2) (hb:0≤a∧a≤1000∧0≤b∧b≤1000∧0≤fl1∧fl1≤100000∧0≤fl2∧fl2≤100000) :
  ge14.wpIn (FG 15) 0 Tryd.prog (fun e ac w'=>e=.normal∧ac.defers=[]∧ac.tmps=#[v0,v1,v2,v3,v4,.pointer (some ⟨B,0,none⟩),v6,v7,v8,v9,v10,v11,v12,v13,v14,v15,.pointer (some ⟨Bo,0,none⟩),num a,num b,v19,v20,v21,v22,v23,v24,v25,v26,v27,v28,v29,v30,v31,v32,v33,v34,v35,v36,v37,v38,v39,v40,v41,v42,v43,v44,v45,v46,v47,v48,v49,v50,v51,v52,v53,v54,v55,v56,v57,v58,v59,v60,v61,v62,v63,v64,v65,v66,v67,v68,v69,v70,v71,v72,v73,v74,v75,v76,v77,v78,v79,v80,v81,v82,v83,v84,v85,v86,v87,v88,v89,v90,v91,v92,v93,v94,.pointer (some ⟨B,9,none⟩),.pointer (some ⟨B,9,none⟩),num fl1,num a,num (fl1+a),num (min 100000 (fl1+a)),.pointer (some ⟨B,9,none⟩),.pointer (some ⟨B,10,none⟩),num fl2,num a,num (fl2+a),num (min 100000 (fl2+a)),.agg #[num (min 100000 (fl1+a)),num (min 100000 (fl2+a))],.pointer (some ⟨Bo,9,none⟩),undef,undef,undef,undef,undef,undef,undef,undef,undef,undef,undef,undef,undef,undef,undef,undef,undef,undef,undef,undef,undef,undef,undef,undef,undef,undef,undef,undef,undef,undef,undef,undef,undef,undef,undef,undef,undef,undef,undef,undef,undef,undef,undef,undef,undef,undef,undef,undef,undef,undef,undef,undef,undef,undef,undef,undef,undef,undef,undef,undef,undef,undef,undef,undef,undef,undef,undef,undef,undef,undef,undef,undef,undef,undef,undef,undef,undef,undef,undef,undef,undef,undef,undef]∧Y.heap.size≤w'.heap.size∧(∀ k,k<Y.heap.size→k≠Bo→w'.heap[k]?=Y.heap[k]?)∧w'.heap[Bo]?=some (.cells ((oc.setIfInBounds 9 (num (min 100000 (fl1+a)))).setIfInBounds 10 (num (min 100000 (fl2+a)))) 31 (0,0))) ⟨#[v0,v1,v2,v3,v4,.pointer (some ⟨B,0,none⟩),v6,v7,v8,v9,v10,v11,v12,v13,v14,v15,.pointer (some ⟨Bo,0,none⟩),num a,num b,v19,v20,v21,v22,v23,v24,v25,v26,v27,v28,v29,v30,v31,v32,v33,v34,v35,v36,v37,v38,v39,v40,v41,v42,v43,v44,v45,v46,v47,v48,v49,v50,v51,v52,v53,v54,v55,v56,v57,v58,v59,v60,v61,v62,v63,v64,v65,v66,v67,v68,v69,v70,v71,v72,v73,v74,v75,v76,v77,v78,v79,v80,v81,v82,v83,v84,v85,v86,v87,v88,v89,v90,v91,v92,v93,v94,undef,undef,undef,undef,undef,undef,undef,undef,undef,undef,undef,undef,undef,undef,undef,undef,undef,undef,undef,undef,undef,undef,undef,undef,undef,undef,undef,undef,undef,undef,undef,undef,undef,undef,undef,undef,undef,undef,undef,undef,undef,undef,undef,undef,undef,undef,undef,undef,undef,undef,undef,undef,undef,undef,undef,undef,undef,undef,undef,undef,undef,undef,undef,undef,undef,undef,undef,undef,undef,undef,undef,undef,undef,undef,undef,undef,undef,undef,undef,undef,undef,undef,undef,undef,undef,undef,undef,undef,undef,undef,undef,undef,undef,undef,undef,undef,undef],[]⟩ Y:=by
 have m1:=minK_run (fl1+a) Y
 have m2:=minK_run (fl2+a) Y
 have k35:=fun x y=>toFG 15 (m:=0) (span_any x y Y)
 have hol:=lt_of_some hO
 have HO:=Lib.hid hO
 have Z1:=Lib.hid hz1
 have Z2:=Lib.hid hz2
 clear hO hz1 hz2
 simp only [ge14,gep17,gep16,gep15,gep14,gep13,gep12,gep11,gep10,gep9,gep8,gep7,gep6,gep5,gep4,gep3,gep2,gep1,lawB15,seqL,seqR,Tryd.f15]
 gi_wp2_with (first
  | (gi_at_call 35;refine CallsIn.mono (k35 _ _) ?_;rintro e w5 ⟨rfl,x5⟩;have hO5:=(x5.block Bo hol).trans HO.out;have f0:w5.frozen? ⟨Bo,9,none⟩=false:=frozen_of_row _ _ _ _ _ hO5;have f1:w5.frozen? ⟨Bo,10,none⟩=false:=frozen_of_row _ _ _ _ _ hO5;have e0:w5.cell? ⟨Bo,9,none⟩=some z1:=(by unfold World.cell?;dsimp only;rw [hO5];exact Z1.out);have e1:w5.cell? ⟨Bo,10,none⟩=some z2:=(by unfold World.cell?;dsimp only;rw [hO5];exact Z2.out);have HO5:=Lib.hid hO5;clear hO5 k35)
  | gi_in)
 refine⟨by have:=x5.size;simpa using this,fun k hk hkb=>?_,?_⟩
 ·rw [heap_setCell_other _ _ _ _ (by exact hkb),heap_setCell_other _ _ _ _ (by exact hkb)]
  exact x5.block k hk
 ·unfold World.setCell
  simp [Array.getElem?_modify,HO5.out]
theorem gets_loss {v0 v1 v2 v3 v4 v6 v7 v8 v9 v10 v11 v12 v13 v14 v15 v19 v20 v21 v22 v23 v24 v25 v26 v27 v28 v29 v30 v31 v32 v33 v34 v35 v36 v37 v38 v39 v40 v41 v42 v43 v44 v45 v46 v47 v48 v49 v50 v51 v52 v53 v54 v55 v56 v57 v58 v59 v60 v61 v62 v63 v64 v65 v66 v67 v68 v69 v70 v71 v72 v73 v74 v75 v76 v77 v78 v79 v80 v81 v82 v83 v84 v85 v86 v87 v88 v89 v90 v91 v92 v93 v94 v95 v96 v97 v98 v99 v100 v101 v102 v103 v104 v105 v106 v107 v108:Value} (B Bo:Nat) (a b ls1 ls2:Int) (Y:World) (oc:Array Value) (z1 z2:Value) (q1:Y.cell? ⟨B,11,none⟩=some (num ls1)) (q2:Y.cell? ⟨B,12,none⟩=some (num ls2)) (hO:Y.heap[Bo]?=some (.cells oc 31 (0,0))) (hz1:oc[11]?=some z1) (hz2:oc[12]?=some z2) (hb:0≤a∧a≤1000∧0≤b∧b≤1000∧0≤ls1∧ls1≤100000∧0≤ls2∧ls2≤100000) :
  ge15.wpIn (FG 15) 0 Tryd.prog (fun e ac w'=>e=.normal∧ac.defers=[]∧ac.tmps=#[v0,v1,v2,v3,v4,.pointer (some ⟨B,0,none⟩),v6,v7,v8,v9,v10,v11,v12,v13,v14,v15,.pointer (some ⟨Bo,0,none⟩),num a,num b,v19,v20,v21,v22,v23,v24,v25,v26,v27,v28,v29,v30,v31,v32,v33,v34,v35,v36,v37,v38,v39,v40,v41,v42,v43,v44,v45,v46,v47,v48,v49,v50,v51,v52,v53,v54,v55,v56,v57,v58,v59,v60,v61,v62,v63,v64,v65,v66,v67,v68,v69,v70,v71,v72,v73,v74,v75,v76,v77,v78,v79,v80,v81,v82,v83,v84,v85,v86,v87,v88,v89,v90,v91,v92,v93,v94,v95,v96,v97,v98,v99,v100,v101,v102,v103,v104,v105,v106,v107,v108,.pointer (some ⟨B,11,none⟩),.pointer (some ⟨B,11,none⟩),num ls1,num b,num (ls1-b),num (max 0 (ls1-b)),.pointer (some ⟨B,11,none⟩),.pointer (some ⟨B,12,none⟩),num ls2,num b,num (ls2-b),num (max 0 (ls2-b)),.agg #[num (max 0 (ls1-b)),num (max 0 (ls2-b))],.pointer (some ⟨Bo,11,none⟩),undef,undef,undef,undef,undef,undef,undef,undef,undef,undef,undef,undef,undef,undef,undef,undef,undef,undef,undef,undef,undef,undef,undef,undef,undef,undef,undef,undef,undef,undef,undef,undef,undef,undef,undef,undef,undef,undef,undef,undef,undef,undef,undef,undef,undef,undef,undef,undef,undef,undef,undef,undef,undef,undef,undef,undef,undef,undef,undef,undef,undef,undef,undef,undef,undef,undef,undef,undef,undef]∧Y.heap.size≤w'.heap.size∧(∀ k,k<Y.heap.size→k≠Bo→w'.heap[k]?=Y.heap[k]?)∧w'.heap[Bo]?=some (.cells ((oc.setIfInBounds 11 (num (max 0 (ls1-b)))).setIfInBounds 12 (num (max 0 (ls2-b)))) 31 (0,0))) ⟨#[v0,v1,v2,v3,v4,.pointer (some ⟨B,0,none⟩),v6,v7,v8,v9,v10,v11,v12,v13,v14,v15,.pointer (some ⟨Bo,0,none⟩),num a,num b,v19,v20,v21,v22,v23,v24,v25,v26,v27,v28,v29,v30,v31,v32,v33,v34,v35,v36,v37,v38,v39,v40,v41,v42,v43,v44,v45,v46,v47,v48,v49,v50,v51,v52,v53,v54,v55,v56,v57,v58,v59,v60,v61,v62,v63,v64,v65,v66,v67,v68,v69,v70,v71,v72,v73,v74,v75,v76,v77,v78,v79,v80,v81,v82,v83,v84,v85,v86,v87,v88,v89,v90,v91,v92,v93,v94,v95,v96,v97,v98,v99,v100,v101,v102,v103,v104,v105,v106,v107,v108,undef,undef,undef,undef,undef,undef,undef,undef,undef,undef,undef,undef,undef,undef,undef,undef,undef,undef,undef,undef,undef,undef,undef,undef,undef,undef,undef,undef,undef,undef,undef,undef,undef,undef,undef,undef,undef,undef,undef,undef,undef,undef,undef,undef,undef,undef,undef,undef,undef,undef,undef,undef,undef,undef,undef,undef,undef,undef,undef,undef,undef,undef,undef,undef,undef,undef,undef,undef,undef,undef,undef,undef,undef,undef,undef,undef,undef,undef,undef,undef,undef,undef,undef],[]⟩ Y:=by
 have m1:=maxK_run (ls1-b) Y
 have m2:=maxK_run (ls2-b) Y
 have k35:=fun x y=>toFG 15 (m:=0) (span_any x y Y)
 have hol:=lt_of_some hO
 have HO:=Lib.hid hO
 have Z1:=Lib.hid hz1
 have Z2:=Lib.hid hz2
 clear hO hz1 hz2
 simp only [ge15,gep17,gep16,gep15,gep14,gep13,gep12,gep11,gep10,gep9,gep8,gep7,gep6,gep5,gep4,gep3,gep2,gep1,lawB15,seqL,seqR,Tryd.f15]
 gi_wp2_with (first
  | (gi_at_call 35;refine CallsIn.mono (k35 _ _) ?_;rintro e w5 ⟨rfl,x5⟩;have hO5:=(x5.block Bo hol).trans HO.out;have f0:w5.frozen? ⟨Bo,11,none⟩=false:=frozen_of_row _ _ _ _ _ hO5;have f1:w5.frozen? ⟨Bo,12,none⟩=false:=frozen_of_row _ _ _ _ _ hO5;have e0:w5.cell? ⟨Bo,11,none⟩=some z1:=(by unfold World.cell?;dsimp only;rw [hO5];exact Z1.out);have e1:w5.cell? ⟨Bo,12,none⟩=some z2:=(by unfold World.cell?;dsimp only;rw [hO5];exact Z2.out);have HO5:=Lib.hid hO5;clear hO5 k35)
  | gi_in)
 refine⟨by have:=x5.size;simpa using this,fun k hk hkb=>?_,?_⟩
 ·rw [heap_setCell_other _ _ _ _ (by exact hkb),heap_setCell_other _ _ _ _ (by exact hkb)]
  exact x5.block k hk
 ·unfold World.setCell
  simp [Array.getElem?_modify,HO5.out]
end Go.Proofs.YtolholkjeehamaaDoor

namespace Go.Proofs.YtolholkjeehamaaDoor
open Go.RowKit Go.Con Go.Conc
local instance:Lone:=mainL
theorem cell_hp2 {w w' : World} {a:Addr} (h:w'.heap[a.block]?=w.heap[a.block]?):w'.cell? a=w.cell? a:=by unfold World.cell?;rw [h]
theorem gets_c {v0 v1 v2 v6 v7 v8 v9 v10 v14 v15 v16 v17 v18 v19 v20 v21 v22 v23 v24 v25 v26 v27 v28 v29 v30 v31 v32 v33 v34 v35 v36 v37 v38 v39 v40 v41 v42 v43 v44 v45 v46 v47 v48 v49 v50 v51 v52 v53 v54 v55 v56 v57 v58 v59 v60 v61 v62 v63 v64 v65 v66 v67 v68 v69 v70 v71 v72 v73 v74 v75 v76 v77 v78 v79 v80 v81 v82 v83 v84 v85 v86 v87:Value} (d:Dit) (r:Rows6) (k:Nat) (p:Plot) (mo le gx gy u v s q:Int) (W w:World) (B Bx:Nat) (hd:DitSl W d r) (hs:d.Small) (hg:Glob W) (hck:checkS d=0) (hp:d.plots[k]?=some p) (hmo:0≤mo∧mo≤65535) (hle:0≤le∧le≤65535) (hOw:Old W w)
  (hc:∀ i v,(d.cellsA r)[i]?=some v→w.cell? ⟨B,i,none⟩=some v) (hX:w.heap[Bx]?=some (.cells #[num gx,num gy] 28 (0,0))) (hWB:W.heap.size≤B∧B<Bx)
  (ho:getsF (d.wet (min 100000 (d.flow.1+mo % 1000),min 100000 (d.flow.2+mo % 1000)) (max 0 (d.loss.1-le % 1000),max 0 (d.loss.2-le % 1000)) d.plots) k=((u,v),0)) (hxu:gx≤u) (hyv:gy≤v)
  (hq:getsF (d.wet d.flow d.loss (d.plots.set k { p with far:=min 20 (p.far+le % 5) })) k=((s,q),0)) (hsx:s≤gx) (hqy:q≤gy) :
  Lones Tryd.prog (FG 15) [ge12,ge13,ge14,ge15,ge16,ge17,ge19,ge20,ge21,ge22] (GetsR W) #[v0,v1,v2,.int .u16 mo,.int .u16 le,.pointer (some ⟨B,0,none⟩),v6,v7,v8,v9,v10,num k,.pointer (some ⟨Bx,0,none⟩),num 0,v14,v15,v16,v17,v18,v19,v20,v21,v22,v23,v24,v25,v26,v27,v28,v29,v30,v31,v32,v33,v34,v35,v36,v37,v38,v39,v40,v41,v42,v43,v44,v45,v46,v47,v48,v49,v50,v51,v52,v53,v54,v55,v56,v57,v58,v59,v60,v61,v62,v63,v64,v65,v66,v67,v68,v69,v70,v71,v72,v73,v74,v75,v76,v77,v78,v79,v80,v81,v82,v83,v84,v85,v86,v87,undef,undef,undef,undef,undef,undef,undef,undef,undef,undef,undef,undef,undef,undef,undef,undef,undef,undef,undef,undef,undef,undef,undef,undef,undef,undef,undef,undef,undef,undef,undef,undef,undef,undef,undef,undef,undef,undef,undef,undef,undef,undef,undef,undef,undef,undef,undef,undef,undef,undef,undef,undef,undef,undef,undef,undef,undef,undef,undef,undef,undef,undef,undef,undef,undef,undef,undef,undef,undef,undef,undef,undef,undef,undef,undef,undef,undef,undef,undef,undef,undef,undef,undef,undef,undef,undef,undef,undef,undef,undef,undef,undef,undef,undef,undef,undef,undef,undef,undef,undef,undef,undef,undef,undef] w:=by
 have hOk:=ok_of_check hck
 have hlX:=lt_of_some hX
 have hfl:=hOk.flow
 have hls:=hOk.loss
 intro τ12
 generalize hq12:({ w with tape:=τ12 }:World)=u12
 have e12:u12.heap=(w).heap:=by rw [← hq12]
 clear hq12
 have oA12:Old W u12:=hOw.trans (.same e12)
 refine wpIn_mono (gets_box d r u12 B (hd.old oA12) (fun i v h=>(cell_hp2 (by rw [e12])).trans (hc i v h))) ?_
 rintro e a w' ⟨rfl,h2,ht,rfl⟩
 refine⟨rfl,h2,?_⟩
 rw [ht]
 clear h2 ht
 intro τ13
 generalize hq13:({ u12.alloc (.cells (d.cellsA r) 31) with tape:=τ13 }:World)=u13
 have e13:u13.heap=(u12.alloc (.cells (d.cellsA r) 31)).heap:=by rw [← hq13]
 clear hq13
 have hot13:∀ b,b<w.heap.size→u13.heap[b]?=w.heap[b]?:=fun b hb=>by rw [e13,heap_alloc_old _ _ (by rw [e12];exact hb),e12]
 have hs13:u13.heap.size=w.heap.size+1:=by rw [e13];simp [e12]
 have hr13:u13.heap[u12.heap.size]?=some (.cells (d.cellsA r) 31 (0,0)):=by rw [e13];exact heap_alloc_new _ _
 rw [e12] at hr13 ⊢
 clear e13 e12 oA12
 generalize hBo:w.heap.size=Bo at *
 simp only [ge13,gep17,gep16,gep15,gep14,gep13,gep12,gep11,gep10,gep9,gep8,gep7,gep6,gep5,gep4,gep3,gep2,gep1,lawB15,seqL,seqR,Tryd.f15]
 gi_wp2
 intro τ14
 generalize hq14:({ u13 with tape:=τ14 }:World)=u14
 have e14:u14.heap=(u13).heap:=by rw [← hq14]
 clear hq14
 have hbnd:0≤mo % 1000∧mo % 1000≤1000∧0≤le % 1000∧le % 1000≤1000:=by omega
 refine wpIn_mono (gets_flow B Bo (mo % 1000) (le % 1000) d.flow.1 d.flow.2 u14 (d.cellsA r) _ _ ((cell_hp2 (by rw [e14];exact hot13 B (by omega))).trans (hc 9 _ rfl)) ((cell_hp2 (by rw [e14];exact hot13 B (by omega))).trans (hc 10 _ rfl)) (by rw [e14];exact hr13) rfl rfl (by omega)) ?_
 rintro e a w2 ⟨rfl,h2,ht,hs14,hot14,hr14⟩
 refine⟨rfl,h2,?_⟩
 rw [ht]
 clear h2 ht hr13
 rw [e14] at hs14 hot14
 clear e14
 intro τ15
 generalize hq15:({ w2 with tape:=τ15 }:World)=u15
 have e15:u15.heap=(w2).heap:=by rw [← hq15]
 clear hq15
 refine wpIn_mono (gets_loss B Bo (mo % 1000) (le % 1000) d.loss.1 d.loss.2 u15 _ _ _ ((cell_hp2 (by rw [e15,hot14 B (by omega) (by omega)];exact hot13 B (by omega))).trans (hc 11 _ rfl)) ((cell_hp2 (by rw [e15,hot14 B (by omega) (by omega)];exact hot13 B (by omega))).trans (hc 12 _ rfl)) (by rw [e15];exact hr14) rfl rfl (by omega)) ?_
 rintro e a w3 ⟨rfl,h2,ht,hs15,hot15,hr15⟩
 refine⟨rfl,h2,?_⟩
 rw [ht]
 clear h2 ht hr14
 rw [e15] at hs15 hot15
 clear e15
 have hot3:∀ b,b<Bo→w3.heap[b]?=w.heap[b]?:=fun b hb=>by rw [hot15 b (by omega) (by omega),hot14 b (by omega) (by omega),hot13 b hb]
 have hs3:Bo+1≤w3.heap.size:=by omega
 clear hot13 hot14 hot15 hs13 hs14 hs15
 intro τ16
 generalize hq16:({ w3 with tape:=τ16 }:World)=u16
 have e16:u16.heap=(w3).heap:=by rw [← hq16]
 clear hq16
 have hot16:∀ b,b<Bo→u16.heap[b]?=w.heap[b]?:=fun b hb=>by rw [e16];exact hot3 b hb
 have oA16:Old W u16:=old_then hOw (by rw [hBo,e16];omega) fun b hb=>hot16 b (by omega)
 have hr16:u16.heap[Bo]?=some (.cells ((d.wet (min 100000 (d.flow.1+mo % 1000),min 100000 (d.flow.2+mo % 1000)) (max 0 (d.loss.1-le % 1000),max 0 (d.loss.2-le % 1000)) d.plots).cellsA r) 31 (0,0)):=by rw [e16];exact hr15
 have hs16:Bo+1≤u16.heap.size:=by rw [e16];exact hs3
 clear hot3 hr15 hs3 e16
 have hd16:=hd.old oA16
 have hdo:DitSl u16 (d.wet (min 100000 (d.flow.1+mo % 1000),min 100000 (d.flow.2+mo % 1000)) (max 0 (d.loss.1-le % 1000),max 0 (d.loss.2-le % 1000)) d.plots) r:=⟨hd16.holders,hd16.turns,hd16.feasts,hd16.swaps,hd16.loans,hd16.plots,hd16.cap0,hd16.cap13,hd16.kinds⟩
 have hso:(d.wet (min 100000 (d.flow.1+mo % 1000),min 100000 (d.flow.2+mo % 1000)) (max 0 (d.loss.1-le % 1000),max 0 (d.loss.2-le % 1000)) d.plots).Small:=⟨hs.h,hs.t,hs.f,hs.s,hs.l,hs.p,hs.hn,hs.pn⟩
 have k47:=toFG 15 (m:=0) (getsP_any _ _ (k:Int) u16 hdo hso (hg.old oA16))
 rw [ho] at k47
 have hcell:∀ i v,((d.wet (min 100000 (d.flow.1+mo % 1000),min 100000 (d.flow.2+mo % 1000)) (max 0 (d.loss.1-le % 1000),max 0 (d.loss.2-le % 1000)) d.plots).cellsA r)[i]?=some v→u16.cell? ⟨Bo,i,none⟩=some v:=fun i v h=>by
  unfold World.cell?
  dsimp only
  rw [hr16]
  exact h
 obtain⟨c0,c1,c2,c3,c4,c5,c6,c7,c8,c9,c10,c11,c12,c13⟩:=cells14 hcell
 have HR:=Lib.hid (show ∃ x0 x1 x2 x3 x4 x5 x6 x7 x8 x9 x10 x11 x12 x13:Value,u16.heap[Bo]?=some (.cells #[x0,x1,x2,x3,x4,x5,x6,x7,x8,x9,x10,x11,x12,x13] 31 (0,0)) from ⟨_,_,_,_,_,_,_,_,_,_,_,_,_,_,hr16⟩)
 generalize (d.wet (min 100000 (d.flow.1+mo % 1000),min 100000 (d.flow.2+mo % 1000)) (max 0 (d.loss.1-le % 1000),max 0 (d.loss.2-le % 1000)) d.plots)=o at *
 clear hdo hso hcell hr16 hd16 ho
 simp only [ge16,gep17,gep16,gep15,gep14,gep13,gep12,gep11,gep10,gep9,gep8,gep7,gep6,gep5,gep4,gep3,gep2,gep1,lawB15,seqL,seqR,Tryd.f15]
 gi_wp2_with (first
  | (gi_at_call 47;refine CallsIn.mono k47 ?_;rintro e w5 ⟨rfl,x5⟩;clear k47 c0 c1 c2 c3 c4 c5 c6 c7 c8 c9 c10 c11 c12 c13)
  | gi_in)
 intro τ17
 generalize hq17:({ w5.alloc (.cells #[.int .i64 u,.int .i64 v] 28) with tape:=τ17 }:World)=u17
 have e17:u17.heap=(w5.alloc (.cells #[.int .i64 u,.int .i64 v] 28)).heap:=by rw [← hq17]
 clear hq17
 have hs5:=x5.size
 have hY17:u17.heap[w5.heap.size]?=some (.cells #[num u,num v] 28 (0,0)):=by rw [e17];exact heap_alloc_new _ _
 have hot17:∀ b,b<w5.heap.size→u17.heap[b]?=w5.heap[b]?:=fun b hb=>by rw [e17];exact heap_alloc_old _ _ hb
 have hs17:u17.heap.size=w5.heap.size+1:=by rw [e17];simp
 clear e17
 have hotw:∀ b,b<Bo→u17.heap[b]?=w.heap[b]?:=fun b hb=>by rw [hot17 b (by omega),x5.block b (by omega),hot16 b hb]
 have hX17:u17.heap[Bx]?=some (.cells #[num gx,num gy] 28 (0,0)):=(hotw Bx hlX).trans hX
 obtain⟨x0,x1,x2,x3,x4,x5',x6,x7,x8,x9,x10,x11,x12,x13,hO⟩:=HR.out
 have hO17:u17.heap[Bo]?=some (.cells #[x0,x1,x2,x3,x4,x5',x6,x7,x8,x9,x10,x11,x12,x13] 31 (0,0)):=by rw [hot17 Bo (by omega),x5.block Bo (by omega)];exact hO
 have oA17:Old W u17:=old_then hOw (by omega) fun b hb=>hotw b (by omega)
 have q0:u17.cell? ⟨w5.heap.size,0,none⟩=some (num u):=by unfold World.cell?;dsimp only;rw [hY17];rfl
 have q1:u17.cell? ⟨w5.heap.size,1,none⟩=some (num v):=by unfold World.cell?;dsimp only;rw [hY17];rfl
 have q2:u17.cell? ⟨Bx,0,none⟩=some (num gx):=by unfold World.cell?;dsimp only;rw [hX17];rfl
 have q3:u17.cell? ⟨Bx,1,none⟩=some (num gy):=by unfold World.cell?;dsimp only;rw [hX17];rfl
 have b1:decide (u<gx)=false:=decide_eq_false (by omega)
 have b2:decide (v<gy)=false:=decide_eq_false (by omega)
 have HO17:=Lib.hid hO17
 have HX17:=Lib.hid hX17
 have HY17:=Lib.hid hY17
 have hBy:Bo<w5.heap.size:=by omega
 clear hO hO17 hX17 hY17 hot17 hX hot16
 have HS17:=Lib.hid hs17
 clear hs17
 generalize w5.heap.size=By at *
 simp only [ge17,gep17,gep16,gep15,gep14,gep13,gep12,gep11,gep10,gep9,gep8,gep7,gep6,gep5,gep4,gep3,gep2,gep1,lawB15,seqL,seqR,Tryd.f15]
 gi_wp2
 exact gets_d d r k p le gx gy s q W u17 B Bx Bo By x0 x1 x2 x3 x4 x5' x6 x7 x8 x9 x10 x11 x12 x13 _ _ hd hs hg hck hp hle oA17 (fun i v h=>(cell_hp2 (hotw B (by omega))).trans (hc i v h)) (by have:=HS17.out;omega) HO17.out HX17.out HY17.out (by omega) hq hsx hqy
end Go.Proofs.YtolholkjeehamaaDoor

namespace Go.Proofs.YtolholkjeehamaaDoor
open Go.RowKit Go.Con Go.Conc
local instance:Lone:=mainL
def Hp (w w' : World):Prop:=w.heap.size≤w'.heap.size∧∀ b,b<w.heap.size→w'.heap[b]?=w.heap[b]?
theorem Hp.refl (w:World):Hp w w:=⟨Nat.le_refl _,fun _ _=>rfl⟩
theorem Hp.trans {a b c:World} (h:Hp a b) (k:Hp b c):Hp a c:=⟨Nat.le_trans h.1 k.1,fun x hx=>(k.2 x (Nat.lt_of_lt_of_le hx h.1)).trans (h.2 x hx)⟩
theorem Hp.nx {w w' : World} (n:Nx w w'):Hp w w':=⟨n.size,fun b hb=>n.block b hb⟩
theorem Hp.same {w w' : World} (e:w'.heap=w.heap):Hp w w':=⟨by rw [e];exact Nat.le_refl _,fun b _=>by rw [e]⟩
theorem Hp.old {w w' : World} (h:Hp w w'):Old w w':=.heap h.1 h.2
noncomputable def opge5:Array Oper:=match ge5 with | .region _ ops _=>ops | _=>#[]
theorem ge5_eqA:ge5=.region 5 opge5 true:=by kernel_rfl
noncomputable def ge9:Code:=match seqR ge6 with
 | .block _ (.loop b)=>(match seqL (seqR b) with | .block _ c=>c | c=>c)
 | c=>c
noncomputable def opge9:Array Oper:=match ge9 with | .region _ ops _=>ops | _=>#[]
theorem ge9_eqA:ge9=.region 9 opge9 true:=by kernel_rfl
theorem gets_five {v0 v1 v3 v4 v6 v7 v8 v9 v10 v11 v12 v13 v14 v15 v16 v17 v18 v19 v20 v21 v22 v23 v24 v25 v26 v27 v28 v29 v30 v31 v32 v33 v34 v35 v36 v37 v38 v39 v40 v41 v42 v43 v44 v45 v46:Value} (pv:Value) (lo hi:Int) (B:Nat) (W5 wr:World) (oR:Hp W5 wr) (C0:Hid (∀ w2,Hp W5 w2→w2.cell? ⟨B,9,none⟩=some (num lo))) (C1:Hid (∀ w2,Hp W5 w2→w2.cell? ⟨B,10,none⟩=some (num hi))) (KP:Hid (∀ u,Hp W5 u→∀ k:Int,0≤k→k≤1000→CallsIn (FG 15) 0 Tryd.prog 48 #[pv,num k] u fun e w'=>∃ z:Int,e=Ending.returned (num z)∧(0≤z∧z≤65535)∧Nx u w')) (KO:Hid (∀ u z,Hp W5 u→(0≤z∧z≤65535)→CallsIn (FG 15) 0 Tryd.prog 28 #[.agg #[num lo,num hi],num z] u fun e w'=>∃ y:Int,e=Ending.returned (num y)∧(lo≤y∧y≤hi)∧Nx u w')) :
  ge5.wpIn (FG 15) 0 Tryd.prog (fun e a w'=>e=.normal∧a.defers=[]∧∃ z y:Int,(lo≤y∧y≤hi)∧a.tmps=#[v0,v1,pv,v3,v4,.pointer (some ⟨B,0,none⟩),v6,v7,v8,v9,v10,v11,v12,v13,num y,v15,v16,v17,v18,v19,v20,v21,v22,v23,v24,v25,v26,v27,v28,v29,v30,v31,v32,v33,v34,v35,v36,v37,v38,v39,v40,v41,v42,v43,v44,v45,v46,.pointer (some ⟨B,9,none⟩),.agg #[num lo,num hi],pv,num z,num y,undef,undef,undef,undef,undef,undef,undef,undef,undef,undef,undef,undef,undef,undef,undef,undef,undef,undef,undef,undef,undef,undef,undef,undef,undef,undef,undef,undef,undef,undef,undef,undef,undef,undef,undef,undef,undef,undef,undef,undef,undef,undef,undef,undef,undef,undef,undef,undef,undef,undef,undef,undef,undef,undef,undef,undef,undef,undef,undef,undef,undef,undef,undef,undef,undef,undef,undef,undef,undef,undef,undef,undef,undef,undef,undef,undef,undef,undef,undef,undef,undef,undef,undef,undef,undef,undef,undef,undef,undef,undef,undef,undef,undef,undef,undef,undef,undef,undef,undef,undef,undef,undef,undef,undef,undef,undef,undef,undef,undef,undef,undef,undef,undef,undef,undef,undef,undef,undef,undef,undef,undef,undef,undef,undef,undef,undef,undef,undef,undef,undef,undef,undef,undef,undef,undef,undef,undef,undef,undef,undef]∧Hp W5 w') ⟨#[v0,v1,pv,v3,v4,.pointer (some ⟨B,0,none⟩),v6,v7,v8,v9,v10,v11,v12,v13,v14,v15,v16,v17,v18,v19,v20,v21,v22,v23,v24,v25,v26,v27,v28,v29,v30,v31,v32,v33,v34,v35,v36,v37,v38,v39,v40,v41,v42,v43,v44,v45,v46,undef,undef,undef,undef,undef,undef,undef,undef,undef,undef,undef,undef,undef,undef,undef,undef,undef,undef,undef,undef,undef,undef,undef,undef,undef,undef,undef,undef,undef,undef,undef,undef,undef,undef,undef,undef,undef,undef,undef,undef,undef,undef,undef,undef,undef,undef,undef,undef,undef,undef,undef,undef,undef,undef,undef,undef,undef,undef,undef,undef,undef,undef,undef,undef,undef,undef,undef,undef,undef,undef,undef,undef,undef,undef,undef,undef,undef,undef,undef,undef,undef,undef,undef,undef,undef,undef,undef,undef,undef,undef,undef,undef,undef,undef,undef,undef,undef,undef,undef,undef,undef,undef,undef,undef,undef,undef,undef,undef,undef,undef,undef,undef,undef,undef,undef,undef,undef,undef,undef,undef,undef,undef,undef,undef,undef,undef,undef,undef,undef,undef,undef,undef,undef,undef,undef,undef,undef,undef,undef,undef,undef,undef,undef,undef,undef],[]⟩ wr:=by
 rw [ge5_eqA]
 have oD:Hp W5 wr.drew:=oR.trans (.nx (Below.drew (Below.refl _ _)))
 refine wpIn_region_C (fun x=>Hp W5 x) (by kernel_rfl) ?_
 change wpAnyC _ _ _ _ _ _ _ 6 #[false,false,false,false,false,false] _ _
 refine wpAnyC_takeR (i:=0) (oi:=⟨some 47,.fieldAddr 31 (.tmp 5) 9,_,_,_,none⟩) (v:=.pointer (some ⟨B,9,none⟩)) (plain_ops (by kernel_rfl)) rfl (by kernel_rfl) (by kernel_rfl) (by kernel_rfl) (fun _ _ _ h=>by cases h.1) (yC rfl (fun _=>rfl) fun x hx=>by clear KP KO oD oR C0 C1;simp [execOp,go_sem]) ?_
 simp only [Act.put,List.setIfInBounds_toArray,List.set_cons_succ,List.set_cons_zero]
 refine wpAnyC_takeR (i:=1) (oi:=⟨some 48,.load 28 (.tmp 47),_,_,_,none⟩) (v:=.agg #[num lo,num hi]) (plain_ops (by kernel_rfl)) rfl (by kernel_rfl) (by kernel_rfl) (by kernel_rfl) (fun _ _ _ h=>by cases h.1) (yC rfl (fun _=>rfl) fun x hx=>by have e0:=C0.out x hx;have e1:=C1.out x hx;clear KP KO oD oR C0 C1;simp [execOp,go_sem,e0,e1]) ?_
 simp only [Act.put,List.setIfInBounds_toArray,List.set_cons_succ,List.set_cons_zero]
 refine wpAnyC_takeR (i:=2) (oi:=⟨some 49,.move (.tmp 2),_,_,_,none⟩) (v:=pv) (plain_ops (by kernel_rfl)) rfl (by kernel_rfl) (by kernel_rfl) (by kernel_rfl) (fun _ _ _ h=>by cases h.1) (yC_move rfl) ?_
 simp only [Act.put,List.setIfInBounds_toArray,List.set_cons_succ,List.set_cons_zero]
 refine wpAnyC_only (i:=3) (o:=⟨some 50,.call { callee:=.value (.func 48),args:=#[.tmp 49,.const (.int .i64 0)],argTypes:=#[86,3] },_,_,_,none⟩) (by kernel_rfl) rfl rfl (oD) ?_
 intro K hK
 go_simp
 refine CallsIn.mono (((KP.out _ (oD) (0) (by omega) (by omega)).mono fun e w' ⟨z,p,hz,q⟩=>(⟨z,p,hz,Hp.trans (oD) (.nx q)⟩:∃ z:Int,e=Ending.returned (num z)∧(0≤z∧z≤65535)∧Hp W5 w'))) ?_
 rintro e v3_ ⟨z,rfl,hz,y3⟩
 refine hK _ _ ?_
 refine wpAnyC_only (i:=4) (o:=⟨some 51,.call { callee:=.value (.func 28),args:=#[.tmp 48,.tmp 50],argTypes:=#[28,3] },_,_,_,none⟩) (by kernel_rfl) rfl rfl (y3) ?_
 intro K hK
 go_simp
 refine CallsIn.mono (((KO.out _ z (y3) hz).mono fun e w' ⟨z,p,hz,q⟩=>(⟨z,p,hz,Hp.trans (y3) (.nx q)⟩:∃ y:Int,e=Ending.returned (num y)∧(lo≤y∧y≤hi)∧Hp W5 w'))) ?_
 rintro e v4_ ⟨y,rfl,hy,y4⟩
 refine hK _ _ ?_
 refine wpAnyC_takeR (i:=5) (oi:=⟨some 14,.assign (.tmp 51),_,_,_,none⟩) (v:=num y) (plain_ops (by kernel_rfl)) rfl (by kernel_rfl) (by kernel_rfl) (by kernel_rfl) (fun _ _ _ h=>by cases h.1) (yC_assign rfl) ?_
 simp only [Act.put,List.setIfInBounds_toArray,List.set_cons_succ,List.set_cons_zero]
 refine wpAnyC_done (by kernel_rfl) (y4) ?_
 exact⟨rfl,rfl,z,y,hy,rfl,y4⟩
theorem gets_nine {v0 v1 v3 v4 v6 v7 v8 v9 v10 v11 v12 v13 v16 v17 v18 v19 v20 v21 v22 v23 v24 v25 v26 v27 v28 v29 v30 v31 v32 v33 v34 v35 v36 v37 v38 v39 v40 v41 v42 v43 v44 v45 v46 v47 v48 v49 v50 v51 v52 v53 v54 v55 v56 v57 v58 v59 v60 v61 v62 v63 v64 v65 v66 v67 v68 v69 v70 v71 v72 v73:Value} (pv:Value) (lo hi n g:Int) (B:Nat) (W5 wr:World) (oR:Hp W5 wr) (hn:0≤n∧n≤100000) (hl:0≤lo∧hi≤1000) (hgg:0≤g∧g≤20) (C0:Hid (∀ w2,Hp W5 w2→w2.cell? ⟨B,11,none⟩=some (num lo))) (C1:Hid (∀ w2,Hp W5 w2→w2.cell? ⟨B,12,none⟩=some (num hi))) (KP:Hid (∀ u,Hp W5 u→∀ k:Int,0≤k→k≤1000→CallsIn (FG 15) 0 Tryd.prog 48 #[pv,num k] u fun e w'=>∃ z:Int,e=Ending.returned (num z)∧(0≤z∧z≤65535)∧Nx u w')) (KO:Hid (∀ u z,Hp W5 u→(0≤z∧z≤65535)→CallsIn (FG 15) 0 Tryd.prog 28 #[.agg #[num lo,num hi],num z] u fun e w'=>∃ y:Int,e=Ending.returned (num y)∧(lo≤y∧y≤hi)∧Nx u w')) :
  ge9.wpIn (FG 15) 0 Tryd.prog (fun e a w'=>e=.normal∧a.defers=[]∧∃ z y:Int,(lo≤y∧y≤hi)∧a.tmps=#[v0,v1,pv,v3,v4,.pointer (some ⟨B,0,none⟩),v6,v7,v8,v9,v10,v11,v12,v13,num (n-(n * y).tdiv 1000),num g,v16,v17,v18,v19,v20,v21,v22,v23,v24,v25,v26,v27,v28,v29,v30,v31,v32,v33,v34,v35,v36,v37,v38,v39,v40,v41,v42,v43,v44,v45,v46,v47,v48,v49,v50,v51,v52,v53,v54,v55,v56,v57,v58,v59,v60,v61,num n,num n,.pointer (some ⟨B,11,none⟩),.agg #[num lo,num hi],pv,num g,num (1+g),num z,num y,num (n * y),num ((n * y).tdiv 1000),num (n-(n * y).tdiv 1000),undef,undef,undef,undef,undef,undef,undef,undef,undef,undef,undef,undef,undef,undef,undef,undef,undef,undef,undef,undef,undef,undef,undef,undef,undef,undef,undef,undef,undef,undef,undef,undef,undef,undef,undef,undef,undef,undef,undef,undef,undef,undef,undef,undef,undef,undef,undef,undef,undef,undef,undef,undef,undef,undef,undef,undef,undef,undef,undef,undef,undef,undef,undef,undef,undef,undef,undef,undef,undef,undef,undef,undef,undef,undef,undef,undef,undef,undef,undef,undef,undef,undef,undef,undef,undef,undef,undef,undef,undef,undef,undef,undef,undef,undef,undef,undef,undef,undef,undef,undef,undef,undef,undef,undef,undef,undef,undef,undef,undef,undef,undef,undef,undef,undef,undef,undef,undef,undef]∧Hp W5 w') ⟨#[v0,v1,pv,v3,v4,.pointer (some ⟨B,0,none⟩),v6,v7,v8,v9,v10,v11,v12,v13,num n,num g,v16,v17,v18,v19,v20,v21,v22,v23,v24,v25,v26,v27,v28,v29,v30,v31,v32,v33,v34,v35,v36,v37,v38,v39,v40,v41,v42,v43,v44,v45,v46,v47,v48,v49,v50,v51,v52,v53,v54,v55,v56,v57,v58,v59,v60,v61,v62,v63,v64,v65,v66,v67,v68,v69,v70,v71,v72,v73,undef,undef,undef,undef,undef,undef,undef,undef,undef,undef,undef,undef,undef,undef,undef,undef,undef,undef,undef,undef,undef,undef,undef,undef,undef,undef,undef,undef,undef,undef,undef,undef,undef,undef,undef,undef,undef,undef,undef,undef,undef,undef,undef,undef,undef,undef,undef,undef,undef,undef,undef,undef,undef,undef,undef,undef,undef,undef,undef,undef,undef,undef,undef,undef,undef,undef,undef,undef,undef,undef,undef,undef,undef,undef,undef,undef,undef,undef,undef,undef,undef,undef,undef,undef,undef,undef,undef,undef,undef,undef,undef,undef,undef,undef,undef,undef,undef,undef,undef,undef,undef,undef,undef,undef,undef,undef,undef,undef,undef,undef,undef,undef,undef,undef,undef,undef,undef,undef],[]⟩ wr:=by
 rw [ge9_eqA]
 have oD:Hp W5 wr.drew:=oR.trans (.nx (Below.drew (Below.refl _ _)))
 refine wpIn_region_C (fun x=>Hp W5 x) (by kernel_rfl) ?_
 change wpAnyC _ _ _ _ _ _ _ 13 #[false,false,false,false,false,false,false,false,false,false,false,false,false] _ _
 refine wpAnyC_takeR (i:=0) (oi:=⟨some 62,.move (.tmp 14),_,_,_,none⟩) (v:=num n) (plain_ops (by kernel_rfl)) rfl (by kernel_rfl) (by kernel_rfl) (by kernel_rfl) (fun _ _ _ h=>by cases h.1) (yC_move rfl) ?_
 simp only [Act.put,List.setIfInBounds_toArray,List.set_cons_succ,List.set_cons_zero]
 refine wpAnyC_takeR (i:=1) (oi:=⟨some 63,.move (.tmp 14),_,_,_,none⟩) (v:=num n) (plain_ops (by kernel_rfl)) rfl (by kernel_rfl) (by kernel_rfl) (by kernel_rfl) (fun _ _ _ h=>by cases h.1) (yC_move rfl) ?_
 simp only [Act.put,List.setIfInBounds_toArray,List.set_cons_succ,List.set_cons_zero]
 refine wpAnyC_takeR (i:=2) (oi:=⟨some 64,.fieldAddr 31 (.tmp 5) 10,_,_,_,none⟩) (v:=.pointer (some ⟨B,11,none⟩)) (plain_ops (by kernel_rfl)) rfl (by kernel_rfl) (by kernel_rfl) (by kernel_rfl) (fun _ _ _ h=>by cases h.1) (yC rfl (fun _=>rfl) fun x hx=>by clear KP KO oD oR C0 C1;simp [execOp,go_sem]) ?_
 simp only [Act.put,List.setIfInBounds_toArray,List.set_cons_succ,List.set_cons_zero]
 refine wpAnyC_takeR (i:=3) (oi:=⟨some 65,.load 28 (.tmp 64),_,_,_,none⟩) (v:=.agg #[num lo,num hi]) (plain_ops (by kernel_rfl)) rfl (by kernel_rfl) (by kernel_rfl) (by kernel_rfl) (fun _ _ _ h=>by cases h.1) (yC rfl (fun _=>rfl) fun x hx=>by have e0:=C0.out x hx;have e1:=C1.out x hx;clear KP KO oD oR C0 C1;simp [execOp,go_sem,e0,e1]) ?_
 simp only [Act.put,List.setIfInBounds_toArray,List.set_cons_succ,List.set_cons_zero]
 refine wpAnyC_takeR (i:=4) (oi:=⟨some 66,.move (.tmp 2),_,_,_,none⟩) (v:=pv) (plain_ops (by kernel_rfl)) rfl (by kernel_rfl) (by kernel_rfl) (by kernel_rfl) (fun _ _ _ h=>by cases h.1) (yC_move rfl) ?_
 simp only [Act.put,List.setIfInBounds_toArray,List.set_cons_succ,List.set_cons_zero]
 refine wpAnyC_takeR (i:=5) (oi:=⟨some 67,.move (.tmp 15),_,_,_,none⟩) (v:=num g) (plain_ops (by kernel_rfl)) rfl (by kernel_rfl) (by kernel_rfl) (by kernel_rfl) (fun _ _ _ h=>by cases h.1) (yC_move rfl) ?_
 simp only [Act.put,List.setIfInBounds_toArray,List.set_cons_succ,List.set_cons_zero]
 refine wpAnyC_takeR (i:=6) (oi:=⟨some 68,.binOp .add 3 (.const (.int .i64 1)) (.tmp 67) 3,_,_,_,none⟩) (v:=num (1+g)) (plain_ops (by kernel_rfl)) rfl (by kernel_rfl) (by kernel_rfl) (by kernel_rfl) (fun _ _ _ h=>by cases h.1) (yC rfl (fun _=>rfl) fun x hx=>by clear KP KO oD oR C0 C1;simp [execOp,go_sem];exact IntWalk.i64_in _ (by omega)) ?_
 simp only [Act.put,List.setIfInBounds_toArray,List.set_cons_succ,List.set_cons_zero]
 refine wpAnyC_only (i:=7) (o:=⟨some 69,.call { callee:=.value (.func 48),args:=#[.tmp 66,.tmp 68],argTypes:=#[86,3] },_,_,_,none⟩) (by kernel_rfl) rfl rfl (oD) ?_
 intro K hK
 go_simp
 refine CallsIn.mono (((KP.out _ (oD) ((1+g)) (by omega) (by omega)).mono fun e w' ⟨z,p,hz,q⟩=>(⟨z,p,hz,Hp.trans (oD) (.nx q)⟩:∃ z:Int,e=Ending.returned (num z)∧(0≤z∧z≤65535)∧Hp W5 w'))) ?_
 rintro e v7_ ⟨z,rfl,hz,y7⟩
 refine hK _ _ ?_
 refine wpAnyC_only (i:=8) (o:=⟨some 70,.call { callee:=.value (.func 28),args:=#[.tmp 65,.tmp 69],argTypes:=#[28,3] },_,_,_,none⟩) (by kernel_rfl) rfl rfl (y7) ?_
 intro K hK
 go_simp
 refine CallsIn.mono (((KO.out _ z (y7) hz).mono fun e w' ⟨z,p,hz,q⟩=>(⟨z,p,hz,Hp.trans (y7) (.nx q)⟩:∃ y:Int,e=Ending.returned (num y)∧(lo≤y∧y≤hi)∧Hp W5 w'))) ?_
 rintro e v8_ ⟨y,rfl,hy,y8⟩
 refine hK _ _ ?_
 refine wpAnyC_takeR (i:=9) (oi:=⟨some 71,.binOp .mul 3 (.tmp 63) (.tmp 70) 3,_,_,_,none⟩) (v:=num (n * y)) (plain_ops (by kernel_rfl)) rfl (by kernel_rfl) (by kernel_rfl) (by kernel_rfl) (fun _ _ _ h=>by cases h.1) (yC_mul rfl rfl (by have m1:=Int.mul_nonneg hn.1 (show 0≤y by omega);have m2:=Int.mul_le_mul hn.2 (show y≤1000 by omega) (show 0≤y by omega) (by omega);omega)) ?_
 simp only [Act.put,List.setIfInBounds_toArray,List.set_cons_succ,List.set_cons_zero]
 refine wpAnyC_takeR (i:=10) (oi:=⟨some 72,.binOp .quo 3 (.tmp 71) (.const (.int .i64 1000)) 3,_,_,_,none⟩) (v:=num ((n * y).tdiv 1000)) (plain_ops (by kernel_rfl)) rfl (by kernel_rfl) (by kernel_rfl) (by kernel_rfl) (fun _ _ _ h=>by cases h.1) (yC rfl (fun _=>rfl) fun x hx=>by clear KP KO oD oR C0 C1;have m1:=Int.mul_nonneg hn.1 (show 0≤y by omega);have m2:=Int.mul_le_mul hn.2 (show y≤1000 by omega) (show 0≤y by omega) (by omega);have m3:=Int.tdiv_eq_ediv_of_nonneg (b:=1000) m1;simp [execOp,go_sem];exact IntWalk.i64_in _ (by omega)) ?_
 simp only [Act.put,List.setIfInBounds_toArray,List.set_cons_succ,List.set_cons_zero]
 refine wpAnyC_takeR (i:=11) (oi:=⟨some 73,.binOp .sub 3 (.tmp 62) (.tmp 72) 3,_,_,_,none⟩) (v:=num (n-(n * y).tdiv 1000)) (plain_ops (by kernel_rfl)) rfl (by kernel_rfl) (by kernel_rfl) (by kernel_rfl) (fun _ _ _ h=>by cases h.1) (yC_sub rfl rfl (by have m1:=Int.mul_nonneg hn.1 (show 0≤y by omega);have m2:=Int.mul_le_mul hn.2 (show y≤1000 by omega) (show 0≤y by omega) (by omega);have m3:=Int.tdiv_eq_ediv_of_nonneg (b:=1000) m1;omega)) ?_
 simp only [Act.put,List.setIfInBounds_toArray,List.set_cons_succ,List.set_cons_zero]
 refine wpAnyC_takeR (i:=12) (oi:=⟨some 14,.assign (.tmp 73),_,_,_,none⟩) (v:=num (n-(n * y).tdiv 1000)) (plain_ops (by kernel_rfl)) rfl (by kernel_rfl) (by kernel_rfl) (by kernel_rfl) (fun _ _ _ h=>by cases h.1) (yC_assign rfl) ?_
 simp only [Act.put,List.setIfInBounds_toArray,List.set_cons_succ,List.set_cons_zero]
 refine wpAnyC_done (by kernel_rfl) (y8) ?_
 exact⟨rfl,rfl,z,y,hy,rfl,y8⟩
end Go.Proofs.YtolholkjeehamaaDoor

namespace Go.Proofs.YtolholkjeehamaaDoor
open Go.RowKit Go.Con Go.Conc
local instance:Lone:=mainL
theorem tgets_lone (d:Dit) (r:Rows6) (pl mo le:Int) (pv:Value) (ps:List Int) (W:World) (hd:DitSl W d r) (hb:d.Big) (hg:Glob W) (hpl:0≤pl∧pl≤255) (hmo:0≤mo∧mo≤65535) (hle:0≤le∧le≤65535) (hps:Sl W pv 1 (ps.map fun x=>[Value.int .u16 x])) (hpb:∀ x∈ps,0≤x∧x≤65535) (hpl2:ps.length≤281474976710656) :
  Lones Tryd.prog (FG 15) [ge0,ge1] (fun t W1=>Old W W1∧t.size=192∧(t[33]?=some (.bool true)∨(t[33]?=some (.bool false)∧Lones Tryd.prog (FG 15) [ge3,ge4,ge5,ge6,ge10,ge12,ge13,ge14,ge15,ge16,ge17,ge19,ge20,ge21,ge22] (GetsR W) t W1)))
   #[d.val r,.int .u8 pl,pv,.int .u16 mo,.int .u16 le,undef,undef,undef,undef,undef,undef,undef,undef,undef,undef,undef,undef,undef,undef,undef,undef,undef,undef,undef,undef,undef,undef,undef,undef,undef,undef,undef,undef,undef,undef,undef,undef,undef,undef,undef,undef,undef,undef,undef,undef,undef,undef,undef,undef,undef,undef,undef,undef,undef,undef,undef,undef,undef,undef,undef,undef,undef,undef,undef,undef,undef,undef,undef,undef,undef,undef,undef,undef,undef,undef,undef,undef,undef,undef,undef,undef,undef,undef,undef,undef,undef,undef,undef,undef,undef,undef,undef,undef,undef,undef,undef,undef,undef,undef,undef,undef,undef,undef,undef,undef,undef,undef,undef,undef,undef,undef,undef,undef,undef,undef,undef,undef,undef,undef,undef,undef,undef,undef,undef,undef,undef,undef,undef,undef,undef,undef,undef,undef,undef,undef,undef,undef,undef,undef,undef,undef,undef,undef,undef,undef,undef,undef,undef,undef,undef,undef,undef,undef,undef,undef,undef,undef,undef,undef,undef,undef,undef,undef,undef,undef,undef,undef,undef,undef,undef,undef,undef,undef,undef,undef,undef,undef,undef,undef,undef,undef,undef,undef,undef,undef,undef,undef,undef,undef,undef,undef,undef] W:=by
 intro τ
 generalize hw0:({ W with tape:=τ }:World)=w0
 have hO0:Old W w0:=by rw [← hw0];exact .same rfl
 clear hw0
 have hd0:=hd.old hO0
 obtain⟨V,hV,nV,hVs,cV⟩:=boxed w0 d r
 have nVV:Nx V V:=Below.refl _ _
 simp only [ge0,lawB15,seqL,seqR,Tryd.f15]
 gi_wp2
 intro τ1
 generalize hw1:({ V with tape:=τ1 }:World)=w1
 have hO1:Old V w1:=by rw [← hw1];exact .same rfl
 have hOw:Old W w1:=hO0.trans ((Old.nx nV).trans hO1)
 have cO:∀ w2,Old w1 w2→∀ i v,(d.cellsA r)[i]?=some v→w2.cell? ⟨w0.heap.size,i,none⟩=some v:=fun w2 o i v h=>((hO1.trans o).cell ⟨w0.heap.size,i,none⟩ (by show w0.heap.size<_;omega)).trans (cV _ nVV i v h)
 have hBl:w0.heap.size<w1.heap.size:=Nat.lt_of_lt_of_le (by omega) hO1.size
 clear hw1
 simp only [ge1,gep17,gep16,gep15,gep14,gep13,gep12,gep11,gep10,gep9,gep8,gep7,gep6,gep5,gep4,gep3,gep2,gep1,lawB15,seqL,seqR,Tryd.f15]
 have k19:=toFG 15 (m:=0) (great_big d r 0 0 (.slice none 0 0) [] w1 (hd.old hOw) hb ⟨0,.inl ⟨rfl,rfl⟩⟩ (Nat.zero_le _))
 obtain⟨ah,caph,eh⟩:=hd.holders.cases
 obtain⟨at1,capt,et⟩:=hd.turns.cases
 obtain⟨ap,capp,ep⟩:=hd.plots.cases
 rw [List.length_map] at eh et ep
 obtain⟨c0,c1,c2,c3,c4,c5,c6,c7,c8,c9,c10,c11,c12,c13⟩:=cells14 (cO w1 (Old.refl _))
 have CH:=Lib.hid (show ∀ w2,Old w1 w2→w2.cell? ⟨w0.heap.size,0,none⟩=some (.slice ah d.holders.length caph) from fun w2 o=>(cO w2 o 0 r.h rfl).trans (by rw [eh]))
 have CT:=Lib.hid (show ∀ w2,Old w1 w2→w2.cell? ⟨w0.heap.size,1,none⟩=some (.slice at1 d.turns.length capt) from fun w2 o=>(cO w2 o 1 r.t rfl).trans (by rw [et]))
 have CP:=Lib.hid (show ∀ w2,Old w1 w2→w2.cell? ⟨w0.heap.size,13,none⟩=some (.slice ap d.plots.length capp) from fun w2 o=>(cO w2 o 13 r.p rfl).trans (by rw [ep]))
 have HSP:=Lib.hid (show Sl W (.slice ap d.plots.length capp) 6 (d.plots.map Plot.cells) by rw [← ep];exact hd.plots)
 have CO:=Lib.hid cO
 have HD:=Lib.hid hd
 have HG:=Lib.hid hg
 have HB:=Lib.hid hb
 have HPS:=Lib.hid hps
 have HPB:=Lib.hid hpb
 clear cO cV hd hg hb hd0 hV nV eh et ep hps hpb
 cases hgr:greatS d 0 with
 | true =>
  rw [show ([]:List (List Value)).length=0 from rfl,hgr] at k19
  gi_wp2_with (first
   | (gi_at_call 19;refine CallsIn.mono k19 ?_;rintro e w2 ⟨rfl,x2⟩)
   | gi_in)
  exact⟨hOw.trans (.nx x2),rfl,.inl rfl⟩
 | false =>
 rw [show ([]:List (List Value)).length=0 from rfl,hgr] at k19
 have hs:=small_of_great hgr
 have k25:=fun w2 (o:Old w1 w2)=>toFG 15 (m:=0) (check25_any d r w2 (HD.out.old (hOw.trans o)) hs)
 clear hgr
 rcases (Decidable.em (checkS d=0)).symm with hc | hc
 ·have b1:(checkS d != 0)=true:=by simpa using hc
  gi_wp2_with (first
   | (gi_at_call 19;refine CallsIn.mono k19 ?_;rintro e w2 ⟨rfl,x2⟩;clear c0 c1 c2 c3 c4 c5 c6 c7 c8 c9 c10 c11 c12 c13;obtain⟨c0,c1,c2,c3,c4,c5,c6,c7,c8,c9,c10,c11,c12,c13⟩:=cells14 (CO.out w2 (.nx x2));have kk:=k25 w2 (.nx x2))
   | (gi_at_call 25;refine CallsIn.mono kk ?_;rintro e w3 ⟨rfl,x3⟩)
   | gi_in)
  exact⟨hOw.trans (.trans (.nx x2) (.nx x3)),rfl,.inl rfl⟩
 have HC:=Lib.hid hc
 rw [hc] at k25
 clear hc
 rcases Nat.eq_zero_or_pos d.plots.length with hz | hz
 ·have CP0:=Lib.hid (show ∀ w2,Old w1 w2→w2.cell? ⟨w0.heap.size,13,none⟩=some (.slice ap 0 capp) from fun w2 o=>by rw [← hz];exact CP.out w2 o)
  gi_wp2_with (first
   | (gi_at_call 19;refine CallsIn.mono k19 ?_;rintro e w2 ⟨rfl,x2⟩;clear c0 c1 c2 c3 c4 c5 c6 c7 c8 c9 c10 c11 c12 c13;obtain⟨c0,c1,c2,c3,c4,c5,c6,c7,c8,c9,c10,c11,c12,c13⟩:=cells14 (CO.out w2 (.nx x2));have kk:=k25 w2 (.nx x2))
   | (gi_at_call 25;refine CallsIn.mono kk ?_;rintro e w3 ⟨rfl,x3⟩;clear c0 c1 c2 c3 c4 c5 c6 c7 c8 c9 c10 c11 c12 c13;have c13:=CP0.out w3 (.trans (.nx x2) (.nx x3)))
   | gi_in)
  exact⟨hOw.trans (.trans (.nx x2) (.nx x3)),rfl,.inl rfl⟩
 have hne:((d.plots.length:Int) == 0)=false:=beq_false_of_ne (by omega)
 have hne2:¬ d.plots.length=0:=by omega
 gi_wp2_with (first
  | (gi_at_call 19;refine CallsIn.mono k19 ?_;rintro e w2 ⟨rfl,x2⟩;clear c0 c1 c2 c3 c4 c5 c6 c7 c8 c9 c10 c11 c12 c13;obtain⟨c0,c1,c2,c3,c4,c5,c6,c7,c8,c9,c10,c11,c12,c13⟩:=cells14 (CO.out w2 (.nx x2));have kk:=k25 w2 (.nx x2))
  | (gi_at_call 25;refine CallsIn.mono kk ?_;rintro e w3 ⟨rfl,x3⟩;clear c0 c1 c2 c3 c4 c5 c6 c7 c8 c9 c10 c11 c12 c13;have c13:=CP.out w3 (.trans (.nx x2) (.nx x3)))
  | gi_in)
 have oB2:Old w1 w3:=.trans (.nx x2) (.nx x3)
 refine⟨hOw.trans oB2,rfl,.inr ⟨rfl,?_⟩⟩
 clear k19 k25 kk c13
 have hOk:=ok_of_check HC.out
 have hk:∃ k:Nat,pl.tmod (d.plots.length:Int)=k∧k<d.plots.length:=by
  have h1:pl.tmod (d.plots.length:Int)=pl % d.plots.length:=Int.tmod_eq_emod_of_nonneg (by omega)
  have h2:=Int.emod_nonneg pl (show (d.plots.length:Int)≠0 by omega)
  have h3:=Int.emod_lt_of_pos pl (show 0<(d.plots.length:Int) by omega)
  exact⟨(pl % d.plots.length).toNat,by omega,by omega⟩
 obtain⟨k,hk,hkl⟩:=hk
 have hp:d.plots[k]?=some d.plots[k]:=List.getElem?_eq_getElem hkl
 generalize d.plots[k]=p at hp
 have hplt:=hOk.pl k p hp
 have hflo:=hOk.flow
 have hlos:=hOk.loss
 have hp8:=hOk.p8
 obtain⟨gx,gy,u,v,s,q,e0,e1,e2,i1,i2,i3,i4,i5,i6⟩:=gets_law HC.out hp (a:=mo % 1000) (b:=le % 1000) (c:=le % 5) (by omega) (by omega) (by omega) rfl rfl
 have HI5:=Lib.hid i5
 have HI6:=Lib.hid i6
 have HE1:=Lib.hid e1
 have HE2:=Lib.hid e2
 clear i5 i6 e1 e2
 intro τ3
 generalize hq3:({ w3 with tape:=τ3 }:World)=u3
 have oA3:Old w1 u3:=oB2.trans (by rw [← hq3];exact .same rfl)
 clear hq3
 have c13:=CP.out u3 oA3
 simp only [ge3,gep17,gep16,gep15,gep14,gep13,gep12,gep11,gep10,gep9,gep8,gep7,gep6,gep5,gep4,gep3,gep2,gep1,lawB15,seqL,seqR,Tryd.f15]
 gi_wp2
 clear c13
 intro τ4
 generalize hq4:({ u3 with tape:=τ4 }:World)=u4
 have oA4:Old w1 u4:=oA3.trans (by rw [← hq4];exact .same rfl)
 clear hq4
 have k47:=toFG 15 (m:=0) (getsP_any d r (k:Int) u4 (HD.out.old (hOw.trans oA4)) hs (HG.out.old (hOw.trans oA4)))
 rw [e0] at k47
 obtain⟨c0,c1,c2,c3,c4,c5,c6,c7,c8,c9,c10,c11,c12,c13⟩:=cells14 (CO.out u4 oA4)
 simp only [ge4,gep17,gep16,gep15,gep14,gep13,gep12,gep11,gep10,gep9,gep8,gep7,gep6,gep5,gep4,gep3,gep2,gep1,lawB15,seqL,seqR,Tryd.f15]
 gi_wp2_with (first
  | (gi_at_call 47;refine CallsIn.mono k47 ?_;rintro e w5 ⟨rfl,x5⟩)
  | gi_in)
 clear k47 c0 c1 c2 c3 c4 c5 c6 c7 c8 c9 c10 c11 c12 c13
 have oB4:Old w1 w5:=oA4.trans (.nx x5)
 have hB5:w0.heap.size<w5.heap.size:=Nat.lt_of_lt_of_le hBl oB4.size
 intro τ5
 generalize hq5:({ w5.alloc (.cells #[.int .i64 gx,.int .i64 gy] 28) with tape:=τ5 }:World)=W5
 have e5:W5.heap=(w5.alloc (.cells #[.int .i64 gx,.int .i64 gy] 28)).heap:=by rw [← hq5]
 clear hq5
 have hX5:W5.heap[w5.heap.size]?=some (.cells #[num gx,num gy] 28 (0,0)):=by rw [e5];exact heap_alloc_new _ _
 have oA5:Old w1 W5:=old_then oB4 (by rw [e5];simp) fun b hb=>by rw [e5];exact heap_alloc_old _ _ (Nat.lt_of_lt_of_le hb oB4.size)
 have hS5:W5.heap.size=w5.heap.size+1:=by rw [e5];simp
 clear e5 x5
 generalize w5.heap.size=Bx at *
 have HX:=Lib.hid (fun w2 (o:Hp W5 w2)=>show w2.heap[Bx]?=some (.cells #[num gx,num gy] 28 (0,0)) from (o.2 Bx (by omega)).trans hX5)
 have C9:=Lib.hid (fun w2 (o:Hp W5 w2)=>CO.out w2 (oA5.trans o.old) 9 _ rfl)
 have C10:=Lib.hid (fun w2 (o:Hp W5 w2)=>CO.out w2 (oA5.trans o.old) 10 _ rfl)
 have C11:=Lib.hid (fun w2 (o:Hp W5 w2)=>CO.out w2 (oA5.trans o.old) 11 _ rfl)
 have C12:=Lib.hid (fun w2 (o:Hp W5 w2)=>CO.out w2 (oA5.trans o.old) 12 _ rfl)
 have KP:=Lib.hid (show ∀ u,Hp W5 u→∀ k:Int,0≤k→k≤1000→CallsIn (FG 15) 0 Tryd.prog 48 #[pv,num k] u fun e w'=>∃ z:Int,e=Ending.returned (num z)∧(0≤z∧z≤65535)∧Nx u w' from fun u o k h0 h1=>by
  obtain⟨m,rfl⟩:=Int.eq_ofNat_of_zero_le h0
  refine CallsIn.mono (toFG 15 (m:=0) (pick48_any ps pv m u (HPS.out.old ((hOw.trans oA5).trans o.old)) HPB.out hpl2 (by omega))) ?_
  rintro e w' ⟨z,h,hz,rfl⟩
  exact⟨z,h,hz,Below.refl _ _⟩)
 have ONE:=Lib.hid (show ∀ a b:Int,(0≤a∧a≤b∧b≤100000)→∀ u z,Hp W5 u→(0≤z∧z≤65535)→CallsIn (FG 15) 0 Tryd.prog 28 #[.agg #[num a,num b],num z] u fun e w'=>∃ y:Int,e=Ending.returned (num y)∧(a≤y∧y≤b)∧Nx u w' from fun a b hab u z o hz=>by
  refine CallsIn.mono (toFG 15 (m:=0) (one28_any a b z u (by omega) (by omega))) ?_
  rintro e w' ⟨h,n⟩
  have m1:=Int.emod_nonneg z (show b-a+1≠0 by omega)
  have m2:=Int.emod_lt_of_pos z (show 0<b-a+1 by omega)
  exact⟨_,h,by omega,n⟩)
 have KF:=Lib.hid (ONE.out d.flow.1 d.flow.2 (by omega))
 have KL:=Lib.hid (ONE.out d.loss.1 d.loss.2 (by omega))
 refine wpIn_mono (gets_five pv d.flow.1 d.flow.2 w0.heap.size W5 W5 (Hp.refl _) C9 C10 KP KF) ?_
 rintro e a w6 ⟨rfl,h2,z,y,hy,ht,o5⟩
 refine⟨rfl,h2,?_⟩
 rw [ht]
 clear h2 ht ONE KF
 intro τ6
 generalize hq6:({ w6 with tape:=τ6 }:World)=u6
 have o6:Hp W5 u6:=o5.trans (by rw [← hq6];exact .same rfl)
 clear hq6 o5
 have CP5:=Lib.hid (fun w2 (o:Hp W5 w2)=>CP.out w2 (oA5.trans o.old))
 obtain⟨b,off,rfl,hbl,hcl⟩:=(show Sl W (.slice ap d.plots.length capp) 6 (d.plots.map Plot.cells) from HSP.out).get (by simp;omega)
 have HF:=Lib.hid (fun w2 (o:Hp W5 w2)=>show w2.cell? ⟨b,off+k * 6+2,none⟩=some (num p.far) from (((hOw.trans oA5).trans o.old).cell ⟨b,off+k * 6+2,none⟩ hbl).trans (hcl k 2 (Plot.cells p) (num p.far) (by simp [hp]) rfl))
 clear hbl hcl
 simp only [ge6,gep17,gep16,gep15,gep14,gep13,gep12,gep11,gep10,gep9,gep8,gep7,gep6,gep5,gep4,gep3,gep2,gep1,lawB15,seqL,seqR,Tryd.f15]
 gi_wp2
 gi_loopw [14,15] (fun a i wr=>∃ (g:Nat) (n:Int),g≤p.far.toNat∧i=num g∧a=num n∧(behindS d.loss.2 g d.flow.1≤n∧n≤behindS d.loss.1 g d.flow.2)∧(0≤n∧n≤100000)∧Hp W5 wr) (fun _ i _=>p.far.toNat-(intOf i).toNat)
 case atStart=>exact⟨0,y,Nat.zero_le _,rfl,rfl,⟨hy.1,hy.2⟩,by omega,o6⟩
 case round =>
  obtain⟨g,n,hgf,rfl,rfl,hn,hn2,oR⟩:=hrel
  by_cases hlt:g<p.far.toNat
  ·have b1:decide ((g:Int)<p.far)=true:=decide_eq_true (by omega)
   have c13:=CP5.out wr oR
   have cf:=HF.out wr oR
   gi_upto_region 9 with fail
   clear c13 cf
   refine wpIn_code_eq (c':=ge9) (by kernel_rfl) ?_
   refine wpIn_mono (gets_nine pv d.loss.1 d.loss.2 n g w0.heap.size W5 wr oR hn2 (by omega) (by omega) C11 C12 KP KL) ?_
   rintro e a w' ⟨rfl,hdf,z2,y2,hy2,hta,o'⟩
   obtain⟨ta,df⟩:=a
   dsimp only at hdf hta
   subst hta hdf
   gi_wp2
   have s1:=step_mono (l:=y2) (m:=d.loss.2) (x:=behindS d.loss.2 g d.flow.1) (y:=n) (by omega) (by have:=(behind_bd (loss:=d.loss.2) (by omega) g d.flow.1 (by omega));omega)
   have s2:=step_mono (l:=d.loss.1) (m:=y2) (x:=n) (y:=behindS d.loss.1 g d.flow.2) (by omega) (by have:=(behind_bd (loss:=d.loss.1) (by omega) g d.flow.2 (by omega));omega)
   have s3:=step_bd (loss:=y2) (x:=n) (by omega) hn2
   refine⟨⟨g+1,n-(n * y2).tdiv 1000,hlt,by simp,rfl,⟨?_,?_⟩,?_,o'⟩,by simp [intOf];omega⟩
   ·rw [behind_last];exact s1
   ·rw [behind_last];exact s2
   ·unfold stepS at s3;omega
  ·obtain rfl:g=p.far.toNat:=by omega
   have b1:decide (((p.far.toNat:Nat):Int)<p.far)=false:=decide_eq_false (by omega)
   have c13:=CP5.out wr oR
   have cf:=HF.out wr oR
   gi_wp2
   clear c13 cf b1
   intro τ10
   generalize hq10:({ wr with tape:=τ10 }:World)=u10
   have o10:Hp W5 u10:=oR.trans (by rw [← hq10];exact .same rfl)
   clear hq10
   have hX10:=HX.out u10 o10
   have q0:u10.cell? ⟨Bx,0,none⟩=some (num gx):=by unfold World.cell?;dsimp only;rw [hX10];rfl
   have q1:u10.cell? ⟨Bx,1,none⟩=some (num gy):=by unfold World.cell?;dsimp only;rw [hX10];rfl
   have b1:decide (n<gx)=false:=decide_eq_false (by rw [HI5.out];omega)
   have b2:decide (n > gy)=false:=decide_eq_false (by rw [HI6.out];omega)
   have HX10:=Lib.hid hX10
   clear hX10
   simp only [ge10,gep17,gep16,gep15,gep14,gep13,gep12,gep11,gep10,gep9,gep8,gep7,gep6,gep5,gep4,gep3,gep2,gep1,lawB15,seqL,seqR,Tryd.f15]
   gi_wp2
   exact gets_c d r k p mo le gx gy u v s q W u10 w0.heap.size Bx HD.out hs HG.out HC.out hp hmo hle ((hOw.trans oA5).trans o10.old) (CO.out u10 (oA5.trans o10.old)) HX10.out ⟨by have:=hO0.size;omega,hB5⟩ HE1.out i1 i2 HE2.out i3 i4
end Go.Proofs.YtolholkjeehamaaDoor

namespace Go.Proofs.YtolholkjeehamaaDoor
open Go.RowKit Go.Con Go.Conc
local instance:Lone:=mainL
theorem results15 (v:Value) (t:Array Value) (h:t[10]?=some v) (σ:Rn):ResultsC Tryd.prog Tryd.f15 (t.map (ren σ)) (ren σ v):=by
 have:=resultsC_tmp (P:=Tryd.prog) (fn:=Tryd.f15) (t:=10) rfl (t.map (ren σ))
 simp only [Array.getD_eq_getD_getElem?,Array.getElem?_map,h,Option.map_some,Option.getD_some] at this
 exact this
theorem tgets_go (E Fz Arg:Nat→Prop) (W0:World) (hArg:∀ x,Arg x↔x<W0.heap.size) (Post:Value→World→Prop) (φ:Ph) (d:Dit) (r:Rows6) (pl mo le:Int) (pv:Value) (ps:List Int) (W:World) (hd:DitSl W d r) (hb:d.Big) (hg:Glob W) (hpl:0≤pl∧pl≤255) (hmo:0≤mo∧mo≤65535) (hle:0≤le∧le≤65535) (hps:Sl W pv 1 (ps.map fun x=>[Value.int .u16 x])) (hpb:∀ x∈ps,0≤x∧x≤65535) (hpl2:ps.length≤281474976710656)
  (hPost:∀ Fz1 ρ D own A fr W1 W',Here Tryd.prog true E Fz1 Arg W0 ρ D own A fr [] W1 W'→Post (ren ρ (.bool true)) W') :
  GoM Tryd.prog true E Fz Arg W0 (AtEnd Tryd.prog Post) φ [] (Fr 15 #[d.val r,.int .u8 pl,pv,.int .u16 mo,.int .u16 le,undef,undef,undef,undef,undef,undef,undef,undef,undef,undef,undef,undef,undef,undef,undef,undef,undef,undef,undef,undef,undef,undef,undef,undef,undef,undef,undef,undef,undef,undef,undef,undef,undef,undef,undef,undef,undef,undef,undef,undef,undef,undef,undef,undef,undef,undef,undef,undef,undef,undef,undef,undef,undef,undef,undef,undef,undef,undef,undef,undef,undef,undef,undef,undef,undef,undef,undef,undef,undef,undef,undef,undef,undef,undef,undef,undef,undef,undef,undef,undef,undef,undef,undef,undef,undef,undef,undef,undef,undef,undef,undef,undef,undef,undef,undef,undef,undef,undef,undef,undef,undef,undef,undef,undef,undef,undef,undef,undef,undef,undef,undef,undef,undef,undef,undef,undef,undef,undef,undef,undef,undef,undef,undef,undef,undef,undef,undef,undef,undef,undef,undef,undef,undef,undef,undef,undef,undef,undef,undef,undef,undef,undef,undef,undef,undef,undef,undef,undef,undef,undef,undef,undef,undef,undef,undef,undef,undef,undef,undef,undef,undef,undef,undef,undef,undef,undef,undef,undef,undef,undef,undef,undef,undef,undef,undef,undef,undef,undef,undef,undef,undef,undef,undef,undef,undef,undef,undef] [.code lawB15]) [] W:=by
 have hgood:goodFn Tryd.prog (.func 15)=false:=by kernel_rfl
 have hL:=tgets_lone d r pl mo le pv ps W hd hb hg hpl hmo hle hps hpb hpl2
 rw [lawB15_eq]
 refine Gm.seq ?_
 refine Gm.lone (F:=FG 15) _ rfl rfl rfl (List.mem_cons_self ..) (FG_ok 15 hgood) (by kernel_rfl) (by kernel_rfl) hL ?_
 clear hL
 intro t0 V0 hL
 refine Gm.seq (Gm.seq ?_)
 refine Gm.lone (F:=FG 15) _ rfl rfl rfl (List.mem_cons_self ..) (FG_ok 15 hgood) (by kernel_rfl) (by kernel_rfl) hL ?_
 clear hL
 rintro t W1 ⟨hO1,hs,h33 | ⟨h33,hL⟩⟩
 ·refine Gm.cond (b:=true) (eval_tmp h33) rfl ?_
  refine Gm.seq ?_
  rw [ge2_eq]
  refine Gm.region ?_
  rw [show List.range opge2.size=[0,1] by kernel_rfl]
  refine Gm.enter (o:=⟨some 34,.call { callee:=.value (.func 20),args:=#[],argTypes:=#[] },_,_,_,none⟩) (c:={ callee:=.value (.func 20),args:=#[],argTypes:=#[] }) rfl rfl rfl rfl (by kernel_rfl) Tryd.func20 body20_of (by kernel_rfl) ?_
  rw [fr20]
  refine flows_go E _ Arg W0 hArg _ _ _ _ _ (hg.old hO1) ?_
  intro WL FzL φL hOL
  rw [Fr_finish (o:=⟨some 34,.call { callee:=.value (.func 20),args:=#[],argTypes:=#[] },_,_,_,none⟩) rfl]
  refine Gm.op (o:=⟨some 10,.assign (.tmp 34),_,_,_,none⟩) (.bool true) WL rfl rfl (by kernel_rfl) rfl (asg_run _ (eval_tmp (by simp only [putD_get,putD_same,putD_size,hs,ne_eq,Nat.reduceEqDiff,not_false_eq_true,Nat.reduceLT]))) id ?_
  refine Gm.regionEnd ?_
  refine Gm.done Tryd.func15 (by kernel_rfl) (results15 (.bool true) _ (by simp only [putD_get,putD_same,putD_size,hs,ne_eq,Nat.reduceEqDiff,not_false_eq_true,Nat.reduceLT])) ?_
  exact fun ρ D own A fr W' h=>hPost _ ρ D own A fr _ W' h
 ·refine Gm.cond (b:=false) (eval_tmp h33) rfl ?_
  refine Gm.skip ?_
  refine Gm.seq ?_
  refine Gm.lone (F:=FG 15) _ rfl rfl rfl (List.mem_cons_self ..) (FG_ok 15 hgood) (by kernel_rfl) (by kernel_rfl) hL ?_
  clear hL
  intro t3 V3 hL
  refine Gm.seq ?_
  refine Gm.lone (F:=FG 15) _ rfl rfl rfl (List.mem_cons_self ..) (FG_ok 15 hgood) (by kernel_rfl) (by kernel_rfl) hL ?_
  clear hL
  intro t4 V4 hL
  refine Gm.seq ?_
  refine Gm.lone (F:=FG 15) _ rfl rfl rfl (List.mem_cons_self ..) (FG_ok 15 hgood) (by kernel_rfl) (by kernel_rfl) hL ?_
  clear hL
  intro t5 V5 hL
  refine Gm.seq ?_
  refine Gm.lone (F:=FG 15) _ rfl rfl rfl (List.mem_cons_self ..) (FG_ok 15 hgood) (by kernel_rfl) (by kernel_rfl) hL ?_
  clear hL
  intro t6 V6 hL
  refine Gm.seq ?_
  refine Gm.lone (F:=FG 15) _ rfl rfl rfl (List.mem_cons_self ..) (FG_ok 15 hgood) (by kernel_rfl) (by kernel_rfl) hL ?_
  clear hL
  intro t10 V10 hL
  refine Gm.seq ?_
  refine Gm.lone (F:=FG 15) _ rfl rfl rfl (List.mem_cons_self ..) (FG_ok 15 hgood) (by kernel_rfl) (by kernel_rfl) hL ?_
  clear hL
  intro t12 V12 hL
  refine Gm.seq ?_
  refine Gm.lone (F:=FG 15) _ rfl rfl rfl (List.mem_cons_self ..) (FG_ok 15 hgood) (by kernel_rfl) (by kernel_rfl) hL ?_
  clear hL
  intro t13 V13 hL
  refine Gm.seq ?_
  refine Gm.lone (F:=FG 15) _ rfl rfl rfl (List.mem_cons_self ..) (FG_ok 15 hgood) (by kernel_rfl) (by kernel_rfl) hL ?_
  clear hL
  intro t14 V14 hL
  refine Gm.seq ?_
  refine Gm.lone (F:=FG 15) _ rfl rfl rfl (List.mem_cons_self ..) (FG_ok 15 hgood) (by kernel_rfl) (by kernel_rfl) hL ?_
  clear hL
  intro t15 V15 hL
  refine Gm.seq ?_
  refine Gm.lone (F:=FG 15) _ rfl rfl rfl (List.mem_cons_self ..) (FG_ok 15 hgood) (by kernel_rfl) (by kernel_rfl) hL ?_
  clear hL
  intro t16 V16 hL
  refine Gm.seq ?_
  refine Gm.lone (F:=FG 15) _ rfl rfl rfl (List.mem_cons_self ..) (FG_ok 15 hgood) (by kernel_rfl) (by kernel_rfl) hL ?_
  clear hL
  intro t17 V17 hL
  refine Gm.seq ?_
  refine Gm.lone (F:=FG 15) _ rfl rfl rfl (List.mem_cons_self ..) (FG_ok 15 hgood) (by kernel_rfl) (by kernel_rfl) hL ?_
  clear hL
  intro t19 V19 hL
  refine Gm.seq ?_
  refine Gm.lone (F:=FG 15) _ rfl rfl rfl (List.mem_cons_self ..) (FG_ok 15 hgood) (by kernel_rfl) (by kernel_rfl) hL ?_
  clear hL
  intro t20 V20 hL
  refine Gm.seq ?_
  refine Gm.lone (F:=FG 15) _ rfl rfl rfl (List.mem_cons_self ..) (FG_ok 15 hgood) (by kernel_rfl) (by kernel_rfl) hL ?_
  clear hL
  intro t21 V21 hL
  refine Gm.seq ?_
  refine Gm.lone (F:=FG 15) _ rfl rfl rfl (List.mem_cons_self ..) (FG_ok 15 hgood) (by kernel_rfl) (by kernel_rfl) hL ?_
  clear hL
  clear hO1 hs h33
  rintro t W2 ⟨hO2,bx,cy,x,y,s,q,l1,l2,hs,k13,k19,k12,g1,g2,g3,g4⟩
  refine Gm.seq ?_
  rw [ge23_eq]
  refine Gm.region ?_
  rw [show List.range opge23.size=[0,1,2,3,4,5,6,7,8,9,10,11,12,13,14,15,16,17,18,19] by kernel_rfl]
  refine Gm.op (o:=⟨some 173,.move (.tmp 13),_,_,_,none⟩) (num 0) W2 rfl rfl (by kernel_rfl) rfl (mvg_run _ (eval_tmp (by simp only [putD_get,putD_same,putD_size,hs,k13,k19,k12,ne_eq,Nat.reduceEqDiff,not_false_eq_true,Nat.reduceLT]))) id ?_
  refine Gm.op (o:=⟨some 174,.binOp .eql 37 (.tmp 173) (.const (.int .i64 0)) 37,_,_,_,none⟩) (.bool true) W2 rfl rfl (by kernel_rfl) rfl (eqcR37_run (n:=0) _ (eval_tmp (by simp only [putD_get,putD_same,putD_size,hs,k13,k19,k12,ne_eq,Nat.reduceEqDiff,not_false_eq_true,Nat.reduceLT])) rfl) id ?_
  refine Gm.op (o:=⟨some 175,.move (.tmp 174),_,_,_,none⟩) (.bool true) W2 rfl rfl (by kernel_rfl) rfl (mvg_run _ (eval_tmp (by simp only [putD_get,putD_same,putD_size,hs,k13,k19,k12,ne_eq,Nat.reduceEqDiff,not_false_eq_true,Nat.reduceLT]))) id ?_
  refine Gm.op (o:=⟨some 176,.fieldAddr 28 (.tmp 19) 0,_,_,_,some (2,true)⟩) (.pointer (some ⟨cy,0,none⟩)) W2 rfl (wanted_guard (i:=2) (b:=true) (d:=175) rfl rfl (by simp only [putD_get,putD_same,putD_size,hs,k13,k19,k12,ne_eq,Nat.reduceEqDiff,not_false_eq_true,Nat.reduceLT])) (by kernel_rfl) rfl (fa28_0g_run _ (eval_tmp (by simp only [putD_get,putD_same,putD_size,hs,k13,k19,k12,ne_eq,Nat.reduceEqDiff,not_false_eq_true,Nat.reduceLT]))) id ?_
  refine Gm.op (o:=⟨some 177,.load 3 (.tmp 176),_,_,_,some (2,true)⟩) (num s) W2 rfl (wanted_guard (i:=2) (b:=true) (d:=175) rfl rfl (by simp only [putD_get,putD_same,putD_size,hs,k13,k19,k12,ne_eq,Nat.reduceEqDiff,not_false_eq_true,Nat.reduceLT])) (by kernel_rfl) rfl (ld3g_run _ (eval_tmp (by simp only [putD_get,putD_same,putD_size,hs,k13,k19,k12,ne_eq,Nat.reduceEqDiff,not_false_eq_true,Nat.reduceLT])) g1) id ?_
  refine Gm.op (o:=⟨some 178,.fieldAddr 28 (.tmp 12) 0,_,_,_,some (2,true)⟩) (.pointer (some ⟨bx,0,none⟩)) W2 rfl (wanted_guard (i:=2) (b:=true) (d:=175) rfl rfl (by simp only [putD_get,putD_same,putD_size,hs,k13,k19,k12,ne_eq,Nat.reduceEqDiff,not_false_eq_true,Nat.reduceLT])) (by kernel_rfl) rfl (fa28_0g_run _ (eval_tmp (by simp only [putD_get,putD_same,putD_size,hs,k13,k19,k12,ne_eq,Nat.reduceEqDiff,not_false_eq_true,Nat.reduceLT]))) id ?_
  refine Gm.op (o:=⟨some 179,.load 3 (.tmp 178),_,_,_,some (2,true)⟩) (num x) W2 rfl (wanted_guard (i:=2) (b:=true) (d:=175) rfl rfl (by simp only [putD_get,putD_same,putD_size,hs,k13,k19,k12,ne_eq,Nat.reduceEqDiff,not_false_eq_true,Nat.reduceLT])) (by kernel_rfl) rfl (ld3g_run _ (eval_tmp (by simp only [putD_get,putD_same,putD_size,hs,k13,k19,k12,ne_eq,Nat.reduceEqDiff,not_false_eq_true,Nat.reduceLT])) g3) id ?_
  refine Gm.op (o:=⟨some 180,.binOp .leq 3 (.tmp 177) (.tmp 179) 3,_,_,_,some (2,true)⟩) (.bool true) W2 rfl (wanted_guard (i:=2) (b:=true) (d:=175) rfl rfl (by simp only [putD_get,putD_same,putD_size,hs,k13,k19,k12,ne_eq,Nat.reduceEqDiff,not_false_eq_true,Nat.reduceLT])) (by kernel_rfl) rfl (leqR_run (n:=s) (m:=x) _ (eval_tmp (by simp only [putD_get,putD_same,putD_size,hs,k13,k19,k12,ne_eq,Nat.reduceEqDiff,not_false_eq_true,Nat.reduceLT])) (eval_tmp (by simp only [putD_get,putD_same,putD_size,hs,k13,k19,k12,ne_eq,Nat.reduceEqDiff,not_false_eq_true,Nat.reduceLT])) l1) id ?_
  refine Gm.op (o:=⟨some 181,.pick (.tmp 175) (.tmp 180) (.const (.bool false)),_,_,_,none⟩) (.bool true) W2 rfl rfl (by kernel_rfl) rfl (pick_run _ (eval_tmp (by simp only [putD_get,putD_same,putD_size,hs,k13,k19,k12,ne_eq,Nat.reduceEqDiff,not_false_eq_true,Nat.reduceLT])) (eval_tmp (by simp only [putD_get,putD_same,putD_size,hs,k13,k19,k12,ne_eq,Nat.reduceEqDiff,not_false_eq_true,Nat.reduceLT]))) id ?_
  refine Gm.op (o:=⟨some 182,.move (.tmp 181),_,_,_,none⟩) (.bool true) W2 rfl rfl (by kernel_rfl) rfl (mvg_run _ (eval_tmp (by simp only [putD_get,putD_same,putD_size,hs,k13,k19,k12,ne_eq,Nat.reduceEqDiff,not_false_eq_true,Nat.reduceLT]))) id ?_
  refine Gm.op (o:=⟨some 183,.fieldAddr 28 (.tmp 19) 1,_,_,_,some (9,true)⟩) (.pointer (some ⟨cy,1,none⟩)) W2 rfl (wanted_guard (i:=9) (b:=true) (d:=182) rfl rfl (by simp only [putD_get,putD_same,putD_size,hs,k13,k19,k12,ne_eq,Nat.reduceEqDiff,not_false_eq_true,Nat.reduceLT])) (by kernel_rfl) rfl (fa28_1g_run _ (eval_tmp (by simp only [putD_get,putD_same,putD_size,hs,k13,k19,k12,ne_eq,Nat.reduceEqDiff,not_false_eq_true,Nat.reduceLT]))) id ?_
  refine Gm.op (o:=⟨some 184,.load 3 (.tmp 183),_,_,_,some (9,true)⟩) (num q) W2 rfl (wanted_guard (i:=9) (b:=true) (d:=182) rfl rfl (by simp only [putD_get,putD_same,putD_size,hs,k13,k19,k12,ne_eq,Nat.reduceEqDiff,not_false_eq_true,Nat.reduceLT])) (by kernel_rfl) rfl (ld3g_run _ (eval_tmp (by simp only [putD_get,putD_same,putD_size,hs,k13,k19,k12,ne_eq,Nat.reduceEqDiff,not_false_eq_true,Nat.reduceLT])) g2) id ?_
  refine Gm.op (o:=⟨some 185,.fieldAddr 28 (.tmp 12) 1,_,_,_,some (9,true)⟩) (.pointer (some ⟨bx,1,none⟩)) W2 rfl (wanted_guard (i:=9) (b:=true) (d:=182) rfl rfl (by simp only [putD_get,putD_same,putD_size,hs,k13,k19,k12,ne_eq,Nat.reduceEqDiff,not_false_eq_true,Nat.reduceLT])) (by kernel_rfl) rfl (fa28_1g_run _ (eval_tmp (by simp only [putD_get,putD_same,putD_size,hs,k13,k19,k12,ne_eq,Nat.reduceEqDiff,not_false_eq_true,Nat.reduceLT]))) id ?_
  refine Gm.op (o:=⟨some 186,.load 3 (.tmp 185),_,_,_,some (9,true)⟩) (num y) W2 rfl (wanted_guard (i:=9) (b:=true) (d:=182) rfl rfl (by simp only [putD_get,putD_same,putD_size,hs,k13,k19,k12,ne_eq,Nat.reduceEqDiff,not_false_eq_true,Nat.reduceLT])) (by kernel_rfl) rfl (ld3g_run _ (eval_tmp (by simp only [putD_get,putD_same,putD_size,hs,k13,k19,k12,ne_eq,Nat.reduceEqDiff,not_false_eq_true,Nat.reduceLT])) g4) id ?_
  refine Gm.op (o:=⟨some 187,.binOp .leq 3 (.tmp 184) (.tmp 186) 3,_,_,_,some (9,true)⟩) (.bool true) W2 rfl (wanted_guard (i:=9) (b:=true) (d:=182) rfl rfl (by simp only [putD_get,putD_same,putD_size,hs,k13,k19,k12,ne_eq,Nat.reduceEqDiff,not_false_eq_true,Nat.reduceLT])) (by kernel_rfl) rfl (leqR_run (n:=q) (m:=y) _ (eval_tmp (by simp only [putD_get,putD_same,putD_size,hs,k13,k19,k12,ne_eq,Nat.reduceEqDiff,not_false_eq_true,Nat.reduceLT])) (eval_tmp (by simp only [putD_get,putD_same,putD_size,hs,k13,k19,k12,ne_eq,Nat.reduceEqDiff,not_false_eq_true,Nat.reduceLT])) l2) id ?_
  refine Gm.op (o:=⟨some 188,.pick (.tmp 182) (.tmp 187) (.const (.bool false)),_,_,_,none⟩) (.bool true) W2 rfl rfl (by kernel_rfl) rfl (pick_run _ (eval_tmp (by simp only [putD_get,putD_same,putD_size,hs,k13,k19,k12,ne_eq,Nat.reduceEqDiff,not_false_eq_true,Nat.reduceLT])) (eval_tmp (by simp only [putD_get,putD_same,putD_size,hs,k13,k19,k12,ne_eq,Nat.reduceEqDiff,not_false_eq_true,Nat.reduceLT]))) id ?_
  refine Gm.op (o:=⟨some 189,.move (.tmp 188),_,_,_,none⟩) (.bool true) W2 rfl rfl (by kernel_rfl) rfl (mvg_run _ (eval_tmp (by simp only [putD_get,putD_same,putD_size,hs,k13,k19,k12,ne_eq,Nat.reduceEqDiff,not_false_eq_true,Nat.reduceLT]))) id ?_
  refine Gm.enter (o:=⟨some 190,.call { callee:=.value (.func 20),args:=#[],argTypes:=#[] },_,_,_,some (16,true)⟩) (c:={ callee:=.value (.func 20),args:=#[],argTypes:=#[] }) rfl (wanted_guard (i:=16) (b:=true) (d:=189) rfl rfl (by simp only [putD_get,putD_same,putD_size,hs,k13,k19,k12,ne_eq,Nat.reduceEqDiff,not_false_eq_true,Nat.reduceLT])) rfl rfl (by kernel_rfl) Tryd.func20 body20_of (by kernel_rfl) ?_
  rw [fr20]
  refine flows_go E _ Arg W0 hArg _ _ _ _ _ (hg.old hO2) ?_
  intro WL FzL φL hOL
  rw [Fr_finish (o:=⟨some 190,.call { callee:=.value (.func 20),args:=#[],argTypes:=#[] },_,_,_,some (16,true)⟩) rfl]
  refine Gm.op (o:=⟨some 191,.pick (.tmp 189) (.tmp 190) (.const (.bool false)),_,_,_,none⟩) (.bool true) WL rfl rfl (by kernel_rfl) rfl (pick_run _ (eval_tmp (by simp only [putD_get,putD_same,putD_size,hs,k13,k19,k12,ne_eq,Nat.reduceEqDiff,not_false_eq_true,Nat.reduceLT])) (eval_tmp (by simp only [putD_get,putD_same,putD_size,hs,k13,k19,k12,ne_eq,Nat.reduceEqDiff,not_false_eq_true,Nat.reduceLT]))) id ?_
  refine Gm.op (o:=⟨some 10,.assign (.tmp 191),_,_,_,none⟩) (.bool true) WL rfl rfl (by kernel_rfl) rfl (asg_run _ (eval_tmp (by simp only [putD_get,putD_same,putD_size,hs,k13,k19,k12,ne_eq,Nat.reduceEqDiff,not_false_eq_true,Nat.reduceLT]))) id ?_
  refine Gm.regionEnd ?_
  refine Gm.done Tryd.func15 (by kernel_rfl) (results15 (.bool true) _ (by simp only [putD_get,putD_same,putD_size,hs,k13,k19,k12,ne_eq,Nat.reduceEqDiff,not_false_eq_true,Nat.reduceLT])) ?_
  exact fun ρ D own A fr W' h=>hPost _ ρ D own A fr _ W' h
end Go.Proofs.YtolholkjeehamaaDoor

namespace Go.Proofs.YtolholkjeehamaaDoor
open Go.RowKit Go.Con Go.Conc Go.ChangeShapes Go.WideShapes Go.ChangeAt
local instance:Lone:=mainL
theorem fr15 (a0 a1 a2 a3 a4:Value):#[a0,a1,a2,a3,a4]++Array.replicate (Tryd.f15.ntmps-(#[a0,a1,a2,a3,a4]:Array Value).size) undef=#[a0,a1,a2,a3,a4,undef,undef,undef,undef,undef,undef,undef,undef,undef,undef,undef,undef,undef,undef,undef,undef,undef,undef,undef,undef,undef,undef,undef,undef,undef,undef,undef,undef,undef,undef,undef,undef,undef,undef,undef,undef,undef,undef,undef,undef,undef,undef,undef,undef,undef,undef,undef,undef,undef,undef,undef,undef,undef,undef,undef,undef,undef,undef,undef,undef,undef,undef,undef,undef,undef,undef,undef,undef,undef,undef,undef,undef,undef,undef,undef,undef,undef,undef,undef,undef,undef,undef,undef,undef,undef,undef,undef,undef,undef,undef,undef,undef,undef,undef,undef,undef,undef,undef,undef,undef,undef,undef,undef,undef,undef,undef,undef,undef,undef,undef,undef,undef,undef,undef,undef,undef,undef,undef,undef,undef,undef,undef,undef,undef,undef,undef,undef,undef,undef,undef,undef,undef,undef,undef,undef,undef,undef,undef,undef,undef,undef,undef,undef,undef,undef,undef,undef,undef,undef,undef,undef,undef,undef,undef,undef,undef,undef,undef,undef,undef,undef,undef,undef,undef,undef,undef,undef,undef,undef,undef,undef,undef,undef,undef,undef,undef,undef,undef,undef,undef,undef,undef,undef,undef,undef,undef,undef]:=by
 simp only [Tryd.ntmps15,List.size_toArray,List.length_cons,List.length_nil,Nat.reduceAdd,Nat.reduceSub,Array.replicate_succ,Array.replicate_zero,List.push_toArray,List.append_toArray,List.nil_append,List.cons_append]
theorem tgets_fin (d:Dit) (r:Rows6) (x1:Int) (pv:Value) (ps:List Int) (x3:Int) (x4:Int) (W:World) (hd:DitSl W d r) (hb:d.Big) (hg:Glob W) (hx1:(0≤x1∧x1≤255)) (hsp:(∃ a n k,pv=.slice a n k)) (hps:(Sl W pv 1 (ps.map fun x=>[Value.int .u16 x]))) (hkd:(Kind W pv)) (hpl2:(ps.length≤281474976710656)) (hpb:(∀ x∈ps,0≤x∧x≤65535)) (hx3:(0≤x3∧x3≤65535)) (hx4:(0≤x4∧x4≤65535)) :
  Con.Fin Tryd.prog (fun u W'=>u=.bool true∧Con.Left W W') (solo (G (Frame.enter Tryd.prog 15 #[d.val r,.int .u8 x1,pv,.int .u16 x3,.int .u16 x4] .normal) []) W) #[]:=by
 refine law_fin Tryd.func15 lawB15_of hg (fun v hv=>?_) fun c Post hPost=>?_
 ·simp only [List.mem_cons,List.not_mem_nil,or_false] at hv
  rcases hv with rfl | rfl | rfl | rfl | rfl
  ·exact hd.same
  ·exact⟨fun c=>by simp [ren],by simp [ren]⟩
  ·exact Same.slice hsp hkd
  ·exact⟨fun c=>by simp [ren],by simp [ren]⟩
  ·exact⟨fun c=>by simp [ren],by simp [ren]⟩
 ·rw [fr15]
  exact tgets_go _ _ _ _ (fun _=>Iff.rfl) Post _ d r x1 x3 x4 pv ps _ hd.entry hb hg.entry hx1 hx3 hx4 (hps.entry (by intro l hl x hx;obtain⟨z,_,rfl⟩:=List.mem_map.1 hl;rw [List.mem_singleton] at hx;subst hx;simp [inv])) hpb hpl2 hPost
theorem tgets_lifted (os:Os) (started:os.Started) (H:Type) (enc:TypeId×Value→H) :
  ReturnsInLeavingWide {} Tryd.checked os 15 .any (fun w args=>(Rows.turnGetsSpec.pre enc Tryd.prog Tryd.f15 [] false w args∧laidMetH Tryd.prog laid2 w)∧sizedMet enc Tryd.prog Tryd.f15 (OpenSpec.ofChange Rows.turnGetsSpec) false w args)
   (Rows.turnGetsSpec.post enc Tryd.prog Tryd.f15 false true false false):=by
 refine returnsInLeavingWide_and (C:=Tryd.checked) (X:=fun w _=>laidMetH Tryd.prog laid2 w) (fun _ _ _ hh h=>h.of_heap hh) own_knob started Tryd.func15
  (ChangeSpec.witness_shaped (enc:=enc) (C:=Tryd.checked) (os:=os) (X:=fun w _=>laidMetH Tryd.prog laid2 w) false (World.doorLaid Tryd.prog 600 os)
   #[.agg #[.slice none 0 0,.slice none 0 0,.int .i64 0,.int .i64 0,.int .i64 0,.int .i64 0,.slice none 0 0,.slice none 0 0,.slice none 0 0,.int .i64 0,.int .i64 0,.int .i64 0,.int .i64 0,.slice none 0 0],.int .u8 0,.slice none 0 0,.int .u16 0,.int .u16 0] 8 rfl (World.shaped_of_RefB (by kernel_rfl) (by kernel_rfl)) (by kernel_rfl) (by kernel_rfl) (by kernel_rfl) (door_met os _)) ?_
 intro W base args ds gs before hval0 hW _ hsz hL
 have hval:∀ (j:Nat) t v,Tryd.f15.params[j]?=some t→args[j]?=some v→Value.okWide Tryd.prog W .any base t v:=hval0
 have hW':=hW
 obtain⟨p,q,hA0,hV,rfl,hfz,hnd⟩:=hW
 have hA:DataW.TrodAll enc Tryd.prog W 0 (fun _=>true) true Tryd.f15.params.toList args.toList ds p:=hA0
 rw [Tryd.params15] at hA hval
 obtain⟨v0,v1,v2,v3,v4,d0,d1,d2,d3,d4,p0,p1,p2,p3,p4,rfl,rfl,rfl,h0,h1,h2,h3,h4⟩:=trodAll_five hA
 obtain⟨rfl,rfl⟩:=trodVars_none hV
 obtain⟨x1,rfl,rfl,rfl,w1⟩:=open_int Tryd.underlying5 (hval 1 5 v1 rfl rfl) h1
 have hx1:0≤x1∧x1≤255:=by
  have h:=w1
  simp only [Lit.wf,Bool.and_eq_true,decide_eq_true_eq] at h
  exact h
 have hfit2:Fits 86 d2:=fun n hn=>by
  have:=List.all_eq_true.1 hsz n (DataW.weights_mem_each (P:=Tryd.prog) (j:=2) (t:=86) (d:=d2) (by rw [show Tryd.checked.prog=Tryd.prog from rfl,Tryd.params15];rfl) rfl n hn)
  simpa using this
 obtain⟨ps,hsp,hps,hkd,hpl2,hpb⟩:=picks_open (hval 2 86 v2 rfl rfl) h2 hfit2
 obtain⟨x3,rfl,rfl,rfl,w3⟩:=open_int Tryd.underlying77 (hval 3 77 v3 rfl rfl) h3
 have hx3:0≤x3∧x3≤65535:=by
  have h:=w3
  simp only [Lit.wf,Bool.and_eq_true,decide_eq_true_eq] at h
  exact h
 obtain⟨x4,rfl,rfl,rfl,w4⟩:=open_int Tryd.underlying77 (hval 4 77 v4 rfl rfl) h4
 have hx4:0≤x4∧x4≤65535:=by
  have h:=w4
  simp only [Lit.wf,Bool.and_eq_true,decide_eq_true_eq] at h
  exact h
 have hfit:Fits 31 d0:=fun n hn=>by
  have:=List.all_eq_true.1 hsz n (DataW.weights_mem_each (P:=Tryd.prog) (j:=0) (t:=31) (d:=d0) (by rw [show Tryd.checked.prog=Tryd.prog from rfl,Tryd.params15];rfl) rfl n hn)
  simpa using this
 obtain⟨d,r,rfl,hd,hb⟩:=dit_open (hval 0 31 v0 rfl rfl) h0 hfit
 clear hA0 hval0
 try simp only [List.append_nil] at hW'
 have hlt:=fun x hx=>hW'.lt x hx
 try simp only [Array.size_empty,Nat.add_zero] at hlt
 refine fin_post (tgets_fin d r x1 v2 ps x3 x4 W hd hb (of_laid hL) hx1 hsp hps hkd hpl2 hpb hx3 hx4) fun W' hl=>?_
 have ha:=trodAll_mk5 (left_trod (by kernel_rfl) (of_decide_eq_true (by kernel_rfl)) h0 hl fun x hx=>hlt x (by simp [hx])) (shut_int Tryd.underlying5 w1) (left_trod (by kernel_rfl) (of_decide_eq_true (by kernel_rfl)) h2 hl fun x hx=>hlt x (by simp [hx])) (shut_int Tryd.underlying77 w3) (shut_int Tryd.underlying77 w4)
 try simp only [List.append_nil] at ha
 exact⟨[d0,.lit (.int .u8 x1),d2,.lit (.int .u16 x3),.lit (.int .u16 x4)],[],_,[],_,[],hW',trodAll_mk1 (shut_bool Tryd.underlying4 _),ha,rfl,left_kept hl _,fun h=>by cases h⟩
theorem tgets_holds:Rows.TurnGetsSaid :=
 OpenClaim.holds_of_wide_leaving 15 Tryd.f15 rfl rfl rfl rfl rfl rfl rfl ⟨rfl,rfl,rfl,rfl,rfl⟩ rfl rfl rfl rfl rfl (by kernel_rfl) Tryd.func15 (by kernel_rfl)
  (of_decide_eq_true (by kernel_rfl)) (by unfold Func.isWrapper;first | (rw [if_pos (by decide +kernel)];kernel_rfl) | (rw [if_neg (by decide +kernel)];exact⟨rfl,rfl⟩))
  (fun os started H enc _=>tgets_lifted os started H enc)
theorem tgets_card:Rows.TurnGetsCardSaid :=
 tied_plain_goes .later [] [.funcs,.data] true (true,"13bbfa5877394a3cde13138796d6bb679173f8167c87f9ccc98cd9f3e99a425f") false true
  tgets_holds (fun _ h=>by cases h) (by kernel_rfl) (fun _ h=>by cases h) turnGets_row_tie rfl ⟨rfl,rfl⟩ (by kernel_rfl) rfl
  (fun f fn hf hfn=>by
   obtain rfl:f=15:=Option.some.inj ((show Tryd.prog.funcNamed "crocus/crocuslaw02.TurnGets" = some 15 by kernel_rfl).symm.trans hf) |>.symm
   obtain rfl:fn=Tryd.f15:=(Option.some.inj (Tryd.func15.symm.trans hfn)).symm
   exact⟨by kernel_rfl,fun j t ht=>by
    rw [Tryd.params15] at ht
    have hm:t∈[31,5,86,77,77]:=by simpa using Array.mem_of_getElem? ht
    have hall:([31,5,86,77,77].all fun u=>!Tryd.prog.wantsStandIn u)=true:=by kernel_rfl
    exact (show Tryd.prog.wantsStandIn t=false by simpa using List.all_eq_true.1 hall t hm)⟩)
  (by kernel_rfl)
#print axioms tgets_card
end Go.Proofs.YtolholkjeehamaaDoor

