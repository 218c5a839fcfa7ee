/- For every ditch, any two spans, any byte, any word of sixteen bits and any row of picks the law TurnRises returns true, does not panic, and leaves its arguments as they were. Conditions: the package's variables hold what the program lays in them at its start (laid), and the arguments are values as the card tells. -/
import Derived.Test.YtbbanmifdbeneaaDoorF61
import Derived.Test.YtbbanmifdbeneaaDoorF40
import Derived.Test.YtbbanmifdbeneaaDoorF39
import Derived.Test.YtbbanmifdbeneaaDoorF34
import Derived.Test.YtbbanmifdbeneaaDoorF09
import Derived.WalkKit
import Derived.Test.YtbbanmifdbeneaaDoorProg
import Derived.OwnWalkIn
import Derived.TacticsInMore
import Derived.RegionIn
import Derived.LoopNIn
import Derived.LoopIn
import Derived.RecoverIn
import Derived.Sort.BigQuietIn
import Derived.Sort.CutIn
import Derived.Handy
import Derived.Maps.OwnIn
import Derived.Maps.OwnSet
import Derived.Maps.RangeWalk
import Derived.Sort.MapsRangeIn
import Derived.Laws.IdiomStrings
import Derived.Lib.Hide
import Derived.Maps.AppendAt
import Derived.Lib.SliceRun
import Derived.RangeFuncNested
import Derived.RangeFuncBound
import Derived.RangeFuncCalls
import Derived.RangeFuncLeaves
import Derived.Shelf.Abstract
import Derived.Shelf.RegionOpen
import Derived.Stop.RegionWithIn
import Derived.Sort.QuietThIn
import Derived.StillTail
import Derived.Conc.SmallLaws
import Derived.Laws.MakeOwn
import Derived.Laws.EntriesVeiled
import Derived.Test.YtbbanmifdbeneaaDoorChecked
import Derived.ProofKit
import Derived.LaidMore
import Derived.OpenShut
import Derived.Stop.Joined
import Derived.Test.YtbbanmifdbeneaaDoorTie
import Derived.Test.YtbbanmifdbeneaaDoorCards
import Derived.Conc.LeavingOf
import Derived.SevenTiedAt
import Derived.Carry
set_option linter.all false
set_option maxRecDepth 100000
set_option maxHeartbeats 4000000
open Go renaming undef → zu
namespace Go.Proofs.YtbbanmifdbeneaaDoor
open Go.RowKit Go.Con Go.Conc
local instance pnI1:Lone:=zcG
section
variable {dst:Option Nat} {ty:TypeId} {pos:String} {af:Array Edge} {x y c:Nat} {w:World} {gd:Option (Nat×Bool)} (e:Operand→Value)
end
theorem zgU {d:Dit} {n:Nat} (h:zbG d n=false):d.Small:=by
 unfold zbG at h
 simp only [Bool.or_eq_false_iff,decide_eq_false_iff_not] at h
 obtain⟨⟨⟨⟨⟨⟨⟨h1,h2⟩,h3⟩,h4⟩,h5⟩,h6⟩,h7⟩,h8⟩:=h
 have mem:∀ (l:List Nat) (x:Nat),x∈l→x≤sumL l:=by
  intro l
  induction l with
  | nil=>intro x hx;cases hx
  | cons y l ih =>
   intro x hx
   simp only [sumL]
   rcases List.mem_cons.1 hx with rfl | hx
   ·omega
   ·have:=ih x hx;omega
 refine⟨by omega,by omega,by omega,by omega,by omega,by omega,fun s hs=>?_,fun p hp=>?_⟩
 ·have:=mem _ _ (List.mem_map.2 ⟨s,hs,rfl⟩:s.length∈d.holders.map (·.length))
  omega
 ·have:=mem _ _ (List.mem_map.2 ⟨p,hp,rfl⟩:p.name.length∈d.plots.map (·.name.length))
  omega
end Go.Proofs.YtbbanmifdbeneaaDoor

namespace Go.Proofs.YtbbanmifdbeneaaDoor
open Go.RowKit Go.Con Go.Conc Go.ChangeShapes Go.WideShapes Go.ChangeAt
section
variable {H:Type} {enc:TypeId×Value→H} {W:World}
theorem ya6 {t:TypeId} {f0 f1:Field} {v:Value} {x:DataW H} {p:List MemPlace} {base:Nat} (ht:Tryd.prog.underlying t=some (.struct #[f0,f1])) (t0:f0.type=3) (t1:f1.type=3) (o0:f0.offset=0) (o1:f1.offset=1) (hc:Tryd.prog.cellsOf t=2)
  (hv:Value.okWide Tryd.prog W .any base t v) (h:DataW.Trod enc Tryd.prog W 0 (fun _=>true) true t v x p):∃ a b:Int,v=.agg #[num a,num b]:=by
 simp only [Value.okWide,ht] at hv
 obtain⟨cs,rfl,_⟩:=hv
 obtain⟨fuel,hf⟩:=h
 simp only [Value.cells] at hf
 obtain⟨⟨a,b⟩,e,_⟩:=zeK ht t0 t1 o0 o1 hc hf
 obtain⟨l⟩:=cs
 refine⟨a,b,?_⟩
 have e' : l=[num a,num b]:=e
 rw [e']
end
end Go.Proofs.YtbbanmifdbeneaaDoor

namespace Go.Proofs.YtbbanmifdbeneaaDoor
open Go.RowKit Go.Con Go.Conc Go.ChangeShapes Go.WideShapes Go.ChangeAt
section
variable {H:Type} {enc:TypeId×Value→H} {W:World}
theorem ya0:Tryd.prog.underlying 33=some (.slice 32):=by kernel_rfl
theorem ybh {n:Nat} {cs:List Value} {y:DataW H×List MemPlace} (h:zjo enc W n 32 cs=some y):∃ k:Int,cs=[Value.int .u16 k]∧(0≤k∧k≤65535):=by
 obtain⟨k,h1,_,h3⟩:=DataW.trod_int Tryd.underlying32 h
 simp only [Lit.wf,Bool.and_eq_true,decide_eq_true_eq] at h3
 exact⟨k,h1,h3⟩
theorem ya7 {v:Value} {dd:DataW H} {p:List MemPlace} {base:Nat} (hv:Value.okWide Tryd.prog W .any base 33 v) (h:DataW.Trod enc Tryd.prog W 0 (fun _=>true) true 33 v dd p) (hfit:Fits 33 dd) :
  ∃ ps:List Int,(∃ a n k,v=.slice a n k)∧Sl W v 1 (ps.map fun x=>[Value.int .u16 x])∧Kind W v∧ps.length≤281474976710656∧∀ x∈ps,0≤x∧x≤65535:=by
 simp only [Value.okWide,ya0] at hv
 have hs:∃ a n k,v=.slice a n k:=by
  have hv2:=hv
  cases v with
  | slice a n k=>exact⟨_,_,_,rfl⟩
  | _=>simp [Cell.okWide,ya0,Cell.ok] at hv2
 obtain⟨a,n,k,rfl⟩:=hs
 obtain⟨fuel,hf⟩:=h
 simp only [Value.cells] at hf
 obtain⟨l,a1,a2,a3,a4,a5⟩:=zfb (en:=fun x=>[Value.int .u16 x]) (ok:=fun x=>0≤x∧x≤65535) ya0 (by decide +kernel) (fun n cs' y h hff=>ybh h) hf hfit hv
 rw [show Tryd.prog.cellsOf 32=1 by kernel_rfl] at a1
 exact⟨l,⟨_,_,_,rfl⟩,a1,a3,Nat.le_trans a4 (by decide),a5⟩
end
section
variable {H:Type} {enc:TypeId×Value→H} {P:Program} {w:World} {base:Nat} {spare:Nat→Bool} {held:Bool}
theorem ya1 {t t1 t2 t3 t4:TypeId} {v v1 v2 v3 v4:Value} {d d1 d2 d3 d4:DataW H} {p p1 p2 p3 p4:List MemPlace} (h:DataW.Trod enc P w base spare held t v d p) (h1:DataW.Trod enc P w base spare held t1 v1 d1 p1)
  (h2:DataW.Trod enc P w base spare held t2 v2 d2 p2) (h3:DataW.Trod enc P w base spare held t3 v3 d3 p3) (h4:DataW.Trod enc P w base spare held t4 v4 d4 p4):DataW.TrodAll enc P w base spare held [t,t1,t2,t3,t4] [v,v1,v2,v3,v4] [d,d1,d2,d3,d4] (p++(p1++(p2++(p3++p4)))):=⟨p,p1++(p2++(p3++p4)),h,trodAll_mk4 h1 h2 h3 h4,rfl⟩
end
end Go.Proofs.YtbbanmifdbeneaaDoor

namespace Go.Proofs.YtbbanmifdbeneaaDoor
open Go.RowKit Go.Con Go.Conc
local instance pnI2:Lone:=zcG
section
variable {dst:Option Nat} {ty:TypeId} {pos:String} {af:Array Edge} {x y c b o:Nat} {w:World} {gd:Option (Nat×Bool)} (e:Operand→Value)
theorem yav {n m:Int} (h:e (.tmp x)=num n) (h2:e (.tmp y)=num m) (hn:n≤m) (τ:Tape):(execOp e ⟨dst,.binOp .leq 3 (.tmp x) (.tmp y) 3,ty,pos,af,gd⟩).run Tryd.prog { w with tape:=τ }=.ok (.value (.bool true)) { w with tape:=τ }:=by
 simp [execOp,go_sem,h,h2,hn]
theorem yay {n:Int} (h:e (.tmp x)=num n) (h2:e (.const (.int .i64 n))=num n) (τ:Tape):(execOp e ⟨dst,.binOp .eql 3 (.tmp x) (.const (.int .i64 n)) 3,ty,pos,af,gd⟩).run Tryd.prog { w with tape:=τ }=.ok (.value (.bool true)) { w with tape:=τ }:=by
 simp [execOp,go_sem,h,h2]
theorem yas {n:Int} (h:e (.tmp x)=num n) (h2:e (.const (.int .i64 n))=num n) (τ:Tape):(execOp e ⟨dst,.binOp .eql 38 (.tmp x) (.const (.int .i64 n)) 38,ty,pos,af,gd⟩).run Tryd.prog { w with tape:=τ }=.ok (.value (.bool true)) { w with tape:=τ }:=by
 simp [execOp,go_sem,h,h2]
end
end Go.Proofs.YtbbanmifdbeneaaDoor

namespace Go.Proofs.YtbbanmifdbeneaaDoor
open Go.RowKit
def ybl (x m:Int):Nat→Nat→Int
 | _,0=>-1
 | y,k+1=>if x+(y:Int) * m≤0 then y else ybl x m (y+1) k
def yag (x m:Int):Int:=ybl x m 0 9
def yaq (a b c d:Int):Int×Int×Int:=if (0≤a∧a≤b∧b≤500)∧(-50≤c∧c≤d∧d≤50) then (yag b d,yag a c,0) else (0,0,1)
theorem yaw (x m:Int) (w:World) (hx : -1000≤x∧x≤1000) (hm : -1000≤m∧m≤1000) :
  CallsIn FL 0 Tryd.prog 29 #[num x,num m] w fun e w'=>e=.returned (num (yag x m))∧w'=w:=by
 gi_enter Tryd.func29,Tryd.ntmps29
 gi_wp2
 gi_loopw [6] (fun i wr=>∃ k:Nat,k≤9∧i=num k∧yag x m=ybl x m k (9-k)∧wr=w) (fun i _=>9-(intOf i).toNat)
 case atStart=>exact⟨0,by omega,rfl,rfl,rfl⟩
 case round =>
  obtain⟨k,hk,rfl,he,rfl⟩:=hrel
  have HE:=Lib.hid he
  clear he
  by_cases hlt:k<9
  ·have hb:((k:Int) * m).natAbs≤9 * 1000:=zdK (by omega) (by omega)
   have hst:ybl x m k (9-k)=if x+(k:Int) * m≤0 then (k:Int) else ybl x m (k+1) (9-(k+1)):=by
    rw [show 9-k=(9-(k+1))+1 by omega]
    rfl
   by_cases hz:x+(k:Int) * m≤0
   ·have HV:=Lib.hid (HE.out.trans (hst.trans (if_pos hz)))
    have d1:decide (x+(k:Int) * m≤0)=true:=decide_eq_true hz
    clear hst
    gi_wp2
    go_ret
    exact⟨by rw [HV.out]<;>rfl,rfl⟩
   ·have HV:=Lib.hid (HE.out.trans (hst.trans (if_neg hz)))
    have d1:decide (x+(k:Int) * m≤0)=false:=decide_eq_false hz
    clear hst
    gi_wp2
    exact⟨⟨k+1,hlt,by simp,HV.out,by first | rfl | trivial⟩,by simp [intOf];omega⟩
  ·obtain rfl:k=9:=by omega
   gi_wp2
   go_ret
   exact⟨by rw [HE.out];rfl,rfl⟩
theorem yat (x y low high:Int) (w:World):CallsIn FL 0 Tryd.prog 28 #[.agg #[num x,num y],num low,num high] w fun e w'=>e=.returned (.bool (decide (low≤x∧x≤y∧y≤high)))∧Nx w w':=by
 have n0:∀ o,Nx w (w.alloc o):=fun o=>(Below.refl _ _).alloc (Nat.le_refl _) o
 by_cases h1:low≤x
 ·by_cases h2:x≤y
  ·gi_enter Tryd.func28,Tryd.ntmps28
   gi_wp2
   go_ret
   exact⟨by simp [h1,h2],n0 _⟩
  ·gi_enter Tryd.func28,Tryd.ntmps28
   gi_wp2
   go_ret
   exact⟨by simp;omega,n0 _⟩
 ·gi_enter Tryd.func28,Tryd.ntmps28
  gi_wp2
  go_ret
  exact⟨by simp;omega,n0 _⟩
theorem ya8 (a b c d:Int) (w:World) :
  CallsIn FL 0 Tryd.prog 8 #[.agg #[num a,num b],.agg #[num c,num d]] w fun e w'=>e=.returned (.tuple #[num (yaq a b c d).1,num (yaq a b c d).2.1,num (yaq a b c d).2.2])∧Nx w w':=by
 generalize hW:w.alloc (.cells #[.int .i64 a,.int .i64 b] 28)=W
 generalize hY:W.alloc (.cells #[.int .i64 c,.int .i64 d] 28)=Y
 have nW:Nx w W:=by rw [← hW];exact (Below.refl _ _).alloc (Nat.le_refl _) _
 have nY:Nx W Y:=by rw [← hY];exact (Below.refl _ _).alloc (Nat.le_refl _) _
 have sW:W.heap.size=w.heap.size+1:=by rw [← hW];simp
 have sY:Y.heap.size=w.heap.size+2:=by rw [← hY];simp [sW]
 have e0:∀ i v,(#[.int .i64 a,.int .i64 b]:Array Value)[i]?=some v→W.cell? ⟨w.heap.size,i,none⟩=some v:=fun i v h=>by rw [← hW];exact zaw _ _ _ _ _ h
 have e1:∀ i v,(#[.int .i64 c,.int .i64 d]:Array Value)[i]?=some v→Y.cell? ⟨w.heap.size+1,i,none⟩=some v:=fun i v h=>by rw [← hY,← sW];exact zaw _ _ _ _ _ h
 have HQ:=Lib.hid (fun x (n:Nx Y x)=>show (x.cell? ⟨w.heap.size,0,none⟩=some (num a)∧x.cell? ⟨w.heap.size,1,none⟩=some (num b))∧x.cell? ⟨w.heap.size+1,0,none⟩=some (num c)∧x.cell? ⟨w.heap.size+1,1,none⟩=some (num d) from
  ⟨⟨((Nx.trans nY n).cell (p:=⟨w.heap.size,0,none⟩) (by show w.heap.size<_;omega)).trans (e0 0 _ rfl),((Nx.trans nY n).cell (p:=⟨w.heap.size,1,none⟩) (by show w.heap.size<_;omega)).trans (e0 1 _ rfl)⟩,(n.cell (p:=⟨w.heap.size+1,0,none⟩) (by show w.heap.size+1<_;omega)).trans (e1 0 _ rfl),(n.cell (p:=⟨w.heap.size+1,1,none⟩) (by show w.heap.size+1<_;omega)).trans (e1 1 _ rfl)⟩)
 have HN:=Lib.hid (Nx.trans nW nY)
 obtain⟨⟨q0,q1⟩,q2,q3⟩:=HQ.out Y (Below.refl _ _)
 have k1:=fun x=>yat a b 0 500 x
 have k2:=fun x=>yat c d (-50) 50 x
 clear e0 e1 nW nY
 by_cases h1:0≤a∧a≤b∧b≤500
 ·have d1:decide (0≤a∧a≤b∧b≤500)=true:=decide_eq_true h1
  rw [d1] at k1
  by_cases h2 : -50≤c∧c≤d∧d≤50
  ·have d2:decide (-50≤c∧c≤d∧d≤50)=true:=decide_eq_true h2
   rw [d2] at k2
   have HR:Hid (yaq a b c d=(yag b d,yag a c,0)):=by show _=_;unfold yaq;rw [if_pos ⟨h1,h2⟩]
   clear d1 d2
   gi_enter Tryd.func8,Tryd.ntmps8
   gi_upto_region 4 with (first
    | (gi_at_call 28;first
      | (with_reducible refine CallsIn.mono (k1 _) ?_;rintro e w1 ⟨rfl,n1⟩;clear q0 q1 q2 q3 k1;obtain⟨⟨q0,q1⟩,q2,q3⟩:=HQ.out w1 n1)
      | (with_reducible refine CallsIn.mono (k2 _) ?_;rintro e w2 ⟨rfl,n2⟩;clear q0 q1 q2 q3 k2;have n12:=Nx.trans n1 n2;obtain⟨⟨q0,q1⟩,q2,q3⟩:=HQ.out w2 n12))
    | gi_in)
   have kA:∀ m,CallsIn FL 0 Tryd.prog 29 #[num b,num d] (w2.drewN m) fun e w''=>e=.returned (num (yag b d))∧∃ m,w''=w2.drewN m:=fun m=>CallsIn.quiet_of_same (yaw b d _ (by omega) (by omega))
   have kB:∀ m,CallsIn FL 0 Tryd.prog 29 #[num a,num c] (w2.drewN m) fun e w''=>e=.returned (num (yag a c))∧∃ m,w''=w2.drewN m:=fun m=>CallsIn.quiet_of_same (yaw a c _ (by omega) (by omega))
   clear h1 h2
   gi_big_quiet_th (first | (gi_at_call 29;first | with_reducible exact kA _ | with_reducible exact kB _))
   gi_wp2
   refine bodyPost_ret (v:=.tuple #[num (yag b d),num (yag a c),num 0]) (by simp [results,Tryd.results8,go_sem]) rfl ?_
   exact⟨by rw [HR.out],Nx.drewN (Nx.trans HN.out n12) _⟩
  ·have d2:decide (-50≤c∧c≤d∧d≤50)=false:=decide_eq_false h2
   rw [d2] at k2
   have HR:Hid (yaq a b c d=(0,0,1)):=by show _=_;unfold yaq;rw [if_neg (fun h=>h2 h.2)]
   clear d1 d2 h1 h2
   gi_enter Tryd.func8,Tryd.ntmps8
   gi_wp2_with (first
    | (gi_at_call 28;first
      | (with_reducible refine CallsIn.mono (k1 _) ?_;rintro e w1 ⟨rfl,n1⟩;clear q0 q1 q2 q3 k1;obtain⟨⟨q0,q1⟩,q2,q3⟩:=HQ.out w1 n1)
      | (with_reducible refine CallsIn.mono (k2 _) ?_;rintro e w2 ⟨rfl,n2⟩;clear q0 q1 q2 q3 k2))
    | gi_in)
   refine bodyPost_ret (v:=.tuple #[num 0,num 0,num 1]) (by simp [results,Tryd.results8,go_sem]) rfl ?_
   exact⟨by rw [HR.out],Nx.trans HN.out (Nx.trans n1 n2)⟩
 ·have d1:decide (0≤a∧a≤b∧b≤500)=false:=decide_eq_false h1
  rw [d1] at k1
  have HR:Hid (yaq a b c d=(0,0,1)):=by show _=_;unfold yaq;rw [if_neg (fun h=>h1 h.1)]
  clear d1 h1 k2
  gi_enter Tryd.func8,Tryd.ntmps8
  gi_wp2_with (first
   | (gi_at_call 28;refine CallsIn.mono (k1 _) ?_;rintro e w1 ⟨rfl,n1⟩;clear q0 q1 q2 q3 k1)
   | gi_in)
  refine bodyPost_ret (v:=.tuple #[num 0,num 0,num 1]) (by simp [results,Tryd.results8,go_sem]) rfl ?_
  exact⟨by rw [HR.out],Nx.trans HN.out n1⟩
end Go.Proofs.YtbbanmifdbeneaaDoor

namespace Go.Proofs.YtbbanmifdbeneaaDoor
open Go.RowKit
theorem yar (x m:Int):∀ (n y:Nat),(ybl x m y n=-1∧∀ z:Nat,y≤z→z<y+n→x+(z:Int) * m > 0)∨∃ z:Nat,y≤z∧z<y+n∧ybl x m y n=z∧x+(z:Int) * m≤0∧∀ j:Nat,y≤j→j<z→x+(j:Int) * m > 0
 | 0,y=>.inl ⟨rfl,fun z h1 h2=>by omega⟩
 | n+1,y=>by
  unfold ybl
  by_cases h:x+(y:Int) * m≤0
  ·rw [if_pos h]
   exact .inr ⟨y,Nat.le_refl _,by omega,rfl,h,fun j h1 h2=>by omega⟩
  ·rw [if_neg h]
   rcases yar x m n (y+1) with ⟨h1,h2⟩ | ⟨z,h1,h2,h3,h4,h5⟩
   ·refine .inl ⟨h1,fun z a b=>?_⟩
    by_cases e:z=y
    ·subst e;omega
    ·exact h2 z (by omega) (by omega)
   ·refine .inr ⟨z,by omega,by omega,h3,h4,fun j a b=>?_⟩
    by_cases e:j=y
    ·subst e;omega
    ·exact h5 j (by omega) b
def yax (v:Int):Int:=if v<0 then 9 else v
theorem ya2 (x m:Int) : -1≤yag x m∧yag x m≤8:=by
 unfold yag
 rcases yar x m 9 0 with ⟨h1,_⟩ | ⟨z,_,h2,h3,_⟩<;>omega
theorem ybc (x m:Int):0≤yax (yag x m)∧yax (yag x m)≤9:=by
 have:=ya2 x m
 unfold yax
 split<;>omega
theorem ybd {dl dh ml mh a:Int} {k:Nat} (hlo:dl+(k:Int) * ml≤a) (hs:∀ j:Nat,j<k→dh+(j:Int) * mh > 0) (hk:k≤9) (hend:a≤0∨k=9):yax (yag dl ml)≤k∧(k:Int)≤yax (yag dh mh):=by
 constructor
 ·have hb:=ybc dl ml
  by_cases e:k=9
  ·omega
  ·have ha:a≤0:=hend.resolve_right e
   unfold yax yag
   rcases yar dl ml 9 0 with ⟨h1,h2⟩ | ⟨z,_,h2,h3,h4,h5⟩
   ·have:=h2 k (Nat.zero_le _) (by omega)
    omega
   ·rw [h3,if_neg (by omega)]
    by_cases hz:z≤k
    ·omega
    ·have:=h5 k (Nat.zero_le _) (by omega)
     omega
 ·unfold yax yag
  rcases yar dh mh 9 0 with ⟨h1,h2⟩ | ⟨z,_,h2,h3,h4,h5⟩
  ·rw [h1,if_pos (by omega)];omega
  ·rw [h3,if_neg (by omega)]
   by_cases hz:k≤z
   ·omega
   ·have:=hs z (by omega)
    omega
end Go.Proofs.YtbbanmifdbeneaaDoor

namespace Go.Proofs.YtbbanmifdbeneaaDoor
open Go.RowKit
theorem ybe (a b n:Int) (w:World) (hab : -1000000000≤a∧a≤b∧b≤1000000000) (hn:0≤n∧n≤1000000) :
  CallsIn FL 0 Tryd.prog 9 #[.agg #[num a,num b],num n] w fun e w'=>e=.returned (num (a+n % (b-a+1)))∧Nx w w':=by
 generalize hW:w.alloc (.cells #[.int .i64 a,.int .i64 b] 28)=W
 have nW:Nx w W:=by rw [← hW];exact (Below.refl _ _).alloc (Nat.le_refl _) _
 have c0:W.cell? ⟨w.heap.size,0,none⟩=some (num a):=by rw [← hW];exact zaw _ _ _ _ _ rfl
 have c1:W.cell? ⟨w.heap.size,1,none⟩=some (num b):=by rw [← hW];exact zaw _ _ _ _ _ rfl
 have hm:0≤n % (b-a+1)∧n % (b-a+1)<b-a+1:=⟨Int.emod_nonneg _ (by omega),Int.emod_lt_of_pos _ (by omega)⟩
 have hz:b-a+1≠0:=by omega
 have hne:(b-a+1 == 0)=false:=by simpa using hz
 have h1 : -9223372036854775808≤b-a∧b-a≤9223372036854775807:=by omega
 have h2 : -9223372036854775808≤b-a+1∧b-a+1≤9223372036854775807:=by omega
 have h3 : -9223372036854775808≤n % (b-a+1)∧n % (b-a+1)≤9223372036854775807:=by omega
 have h4 : -9223372036854775808≤a+n % (b-a+1)∧a+n % (b-a+1)≤9223372036854775807:=by omega
 gi_enter Tryd.func9,Tryd.ntmps9
 gi_upto_region 1 with fail
 gi_big_quiet_th (fail)
 gi_wp2
 go_ret
 exact⟨rfl,Nx.drewN nW _⟩
end Go.Proofs.YtbbanmifdbeneaaDoor

namespace Go.Proofs.YtbbanmifdbeneaaDoor
open Go.RowKit
theorem ya9 (ps:List Int) (pv:Value) (k:Nat) (w:World) (hp:Sl w pv 1 (ps.map fun x=>[Value.int .u16 x])) (hb:∀ x∈ps,0≤x∧x≤65535) (hl:ps.length≤281474976710656) (hk:k≤1000) :
  CallsIn FL 0 Tryd.prog 10 #[pv,num k] w fun e w'=>∃ z:Int,e=.returned (num z)∧(0≤z∧z≤65535)∧w'=w:=by
 obtain⟨a,cap,rfl⟩:=hp.cases
 rw [List.length_map] at hp ⊢
 by_cases hlt:k<ps.length
 ·obtain⟨b,off,rfl,hbl,hcl⟩:=hp.get (by simp;omega)
  have hx:ps[k]?=some ps[k]:=List.getElem?_eq_getElem hlt
  have hz:=hb ps[k] (List.getElem_mem _)
  generalize ps[k]=x at hx hz
  have e0:w.cell? ⟨b,off+k,none⟩=some (.int .u16 x):=by have:=hcl k 0 [.int .u16 x] (.int .u16 x) (by simp [hx]) rfl;simpa using this
  clear hcl hp hb hx
  gi_enter Tryd.func10,Tryd.ntmps10
  gi_wp2
  go_ret
  exact⟨x,rfl,hz,rfl⟩
 ·clear hp hb
  have hlt2:¬ (k:Int)<(ps.length:Int):=by omega
  gi_enter Tryd.func10,Tryd.ntmps10
  gi_wp2
  go_ret
  exact⟨0,rfl,by omega,rfl⟩
end Go.Proofs.YtbbanmifdbeneaaDoor

namespace Go.Proofs.YtbbanmifdbeneaaDoor
open Go.RowKit Go.Con Go.Conc
local instance pnI3:Lone:=zcG
noncomputable def yaa:Code:=match Tryd.f3.body with | some c=>c | none=>.skip
noncomputable def rs0:Code:=seqL yaa
noncomputable def yah:Code:=seqR yaa
noncomputable def rs1:Code:=seqL (seqL yah)
noncomputable def rs2:Code:=match seqR (seqL yah) with | .cond _ x _=>seqL x | c=>c
noncomputable def yaj:Code:=seqR yah
noncomputable def rs3:Code:=seqL yaj
noncomputable def yai:Code:=seqR yaj
noncomputable def rs4:Code:=seqL (seqL yai)
noncomputable def rs5:Code:=match seqR (seqL yai) with | .cond _ x _=>seqL x | c=>c
noncomputable def yak:Code:=seqR yai
noncomputable def rs6:Code:=seqL yak
noncomputable def yal:Code:=seqR yak
noncomputable def rs8:Code:=seqL yal
noncomputable def yam:Code:=seqR yal
noncomputable def rs9:Code:=seqL yam
noncomputable def yan:Code:=seqR yam
noncomputable def ybw:Code:=seqL yan
noncomputable def yao:Code:=seqR yan
noncomputable def ybn:Code:=seqL yao
noncomputable def yap:Code:=seqR yao
noncomputable def ybo:Code:=seqL yap
noncomputable def yab:Code:=seqR yap
noncomputable def ybp:Code:=seqL yab
noncomputable def yac:Code:=seqR yab
noncomputable def ybq:Code:=seqL yac
noncomputable def yad:Code:=seqR yac
noncomputable def ybr:Code:=seqL yad
noncomputable def yae:Code:=seqR yad
noncomputable def ybs:Code:=seqL yae
noncomputable def yaf:Code:=seqR yae
noncomputable def ybx:Code:=seqL yaf
theorem ybi:yaa=.seq rs0 (.seq (.seq rs1 (.cond (.tmp 38) (.seq rs2 .ret) .skip)) (.seq rs3 (.seq (.seq rs4 (.cond (.tmp 48) (.seq rs5 .ret) .skip)) (.seq rs6 (.seq rs8 (.seq rs9 (.seq ybw (.seq ybn (.seq ybo (.seq ybp (.seq ybq (.seq ybr (.seq ybs (.seq ybx .ret)))))))))))))):=by kernel_rfl
theorem ybj:Tryd.f3.body=some yaa:=by kernel_rfl
noncomputable def oprs2:Array Oper:=opsOf rs2
theorem ybu:rs2=.region 2 oprs2 false:=by kernel_rfl
noncomputable def oprs5:Array Oper:=opsOf rs5
theorem ybv:rs5=.region 5 oprs5 false:=by kernel_rfl
noncomputable def oprs21:Array Oper:=opsOf ybx
theorem ybt:ybx=.region 21 oprs21 false:=by kernel_rfl
theorem yby {w W:World} {o1 o2 o3:Obj} (h:((w.alloc o1).alloc o2).alloc o3=W):Old w W∧W.heap.size=w.heap.size+3∧W.heap[w.heap.size]?=some o1∧W.heap[w.heap.size+1]?=some o2∧W.heap[w.heap.size+2]?=some o3:=by
 subst h
 have s1:(w.alloc o1).heap.size=w.heap.size+1:=by simp
 have s2:((w.alloc o1).alloc o2).heap.size=w.heap.size+2:=by simp
 have e1:=heap_alloc_new w o1
 have e2:=heap_alloc_new (w.alloc o1) o2
 have e3:=heap_alloc_new ((w.alloc o1).alloc o2) o3
 rw [s1] at e2
 rw [s2] at e3
 refine⟨.nx (zaG (zaG (zaG (Below.refl _ _) _) _) _),by simp,?_,?_,e3⟩
 ·exact (heap_alloc_old _ _ (by omega)).trans ((heap_alloc_old _ _ (by omega)).trans e1)
 ·exact (heap_alloc_old _ _ (by omega)).trans e2
theorem yau {d:Dit} (hO:d.Ok) (holder:Int) {b c:Int} (hb:0≤b) (hbc:b≤c):d.hoursW holder 0 b≤d.hoursW holder 0 c:=by
 have h1:=hO.ran_mono hb hbc
 have h2:=hO.had_mono holder (hO.ran_nonneg b) h1.1
 rw [zd3,zd3]
 omega
theorem ybf {d:Dit} {holder a b:Int} (hc:zaF d=0) (hh:0≤holder∧holder≤(d.holders.length:Int)-1) (ha:0≤a∧a≤b∧b≤999999999):zca d holder a b=(d.hoursW holder a b,0):=by
 have h1:askS d holder a b=0:=by
  unfold askS
  rw [if_neg (by simp [hc]),if_neg (by simpa using hh)]
  unfold zbq
  rw [if_neg (by omega),if_neg (by omega)]
 unfold zca
 rw [if_neg (by simp [h1])]
def ybm (W:World) (t:Array Value) (W2:World):Prop:=Old W W2∧∃ p k s a b c:Int,(p≤k∧k≤s∧a≤b∧b≤c)∧t.size=178∧t[15]?=some (num 0)∧t[22]?=some (num 0)∧t[24]?=some (num 0)∧t[14]?=some (num p)∧t[16]?=some (num k)∧t[13]?=some (num s)∧t[20]?=some (num a)∧t[21]?=some (num b)∧t[23]?=some (num c)
theorem yba {v0 v1 v2 v7 v8 v9 v10 v11 v12 v17 v18 v19 v20 v21 v22 v23 v24 v25 v26 v27 v28 v29 v30 v31 v32 v33 v34 v35 v36 v37 v38 v39 v40 v41 v42 v43 v44 v45 v46 v47 v48 v49 v50 v51 v52 v53 v54 v55 v56 v57 v58 v59 v60 v61 v62 v63 v64 v65 v66 v67 v68 v69 v70 v71 v72 v73 v74 v75 v76 v77 v78 v79 v80 v81 v82 v83 v84 v85 v86 v87 v88 v89 v90 v91 v92 v93 v94 v95 v96 v97 v98 v99 v100 v101 v102 v103 v104:Value} (d:Dit) (r:zaR) (x y s p:Int) (pv:Value) (k B:Nat) (W Wb:World) (hOW:Old W Wb) (hd:DitSl Wb d r) (hs:d.Small) (hg:Glob Wb) (hck:zaF d=0) (hn:¬ (d.holders.length:Int)=0) (cB:∀ i v,(d.cellsA r)[i]?=some v→Wb.cell? ⟨B,i,none⟩=some v) (hBl:B<Wb.heap.size) (hx:0≤x∧x≤255) (hy:0≤y∧y≤65535) (hk:k≤9) (hcs:0≤yax s∧yax s≤9) (hcp:0≤yax p∧yax p≤9) (hfin:yax p≤k∧(k:Int)≤yax s) :
  zo0 Tryd.prog (FG 3) [ybn,ybo,ybp,ybq,ybr,ybs] (ybm W) #[v0,v1,v2,.int .u8 x,.int .u16 y,pv,.pointer (some ⟨B,0,none⟩),v7,v8,v9,v10,v11,v12,num s,num p,num 0,num k,v17,v18,v19,v20,v21,v22,v23,v24,v25,v26,v27,v28,v29,v30,v31,v32,v33,v34,v35,v36,v37,v38,v39,v40,v41,v42,v43,v44,v45,v46,v47,v48,v49,v50,v51,v52,v53,v54,v55,v56,v57,v58,v59,v60,v61,v62,v63,v64,v65,v66,v67,v68,v69,v70,v71,v72,v73,v74,v75,v76,v77,v78,v79,v80,v81,v82,v83,v84,v85,v86,v87,v88,v89,v90,v91,v92,v93,v94,v95,v96,v97,v98,v99,v100,v101,v102,v103,v104,zu,zu,zu,zu,zu,zu,zu,zu,zu,zu,zu,zu,zu,zu,zu,zu,zu,zu,zu,zu,zu,zu,zu,zu,zu,zu,zu,zu,zu,zu,zu,zu,zu,zu,zu,zu,zu,zu,zu,zu,zu,zu,zu,zu,zu,zu,zu,zu,zu,zu,zu,zu,zu,zu,zu,zu,zu,zu,zu,zu,zu,zu,zu,zu,zu,zu,zu,zu,zu,zu,zu,zu,zu] Wb:=by
 have CO:=Lib.hid (fun w2 (o:Old Wb w2) i v (h:(d.cellsA r)[i]?=some v)=>(o.cell ⟨B,i,none⟩ (by show B<_;omega)).trans (cB i v h))
 obtain⟨ah,caph,eh⟩:=hd.holders.cases
 rw [List.length_map] at eh
 have CH:=Lib.hid (show ∀ w2,Old Wb w2→w2.cell? ⟨B,0,none⟩=some (.slice ah d.holders.length caph) from fun w2 o=>(CO.out w2 o 0 r.h rfl).trans (by rw [eh]))
 have HD:=Lib.hid hd
 have HG:=Lib.hid hg
 have HC:=Lib.hid hck
 have hO:=zco hck
 have h6:=hO.h6
 clear cB hd hg hck eh
 have KH0:Hid (∀ u,Old Wb u→∀ (q n:Int),(0≤q∧q≤(d.holders.length:Int)-1)→(0≤n∧n≤999999999)→CallsIn (FG 3) 0 Tryd.prog 11 #[d.val r,num q,num 0,num n] u fun e w'=>e=Ending.returned (.tuple #[num (d.hoursW q 0 n),num 0])∧Nx u w'):=fun u o q n hq hn2=>by
  have h:=toFG 3 (m:=0) (zg5 d r q 0 n u (HD.out.old o) hs (HG.out.old o))
  rw [ybf HC.out hq (by omega)] at h
  exact h
 obtain⟨cS0,cS9⟩:=hcs
 obtain⟨cP0,cP9⟩:=hcp
 have hs2:(decide (s<0)=true∧yax s=9)∨(decide (s<0)=false∧yax s=s):=by
  unfold yax
  by_cases h:s<0
  ·exact .inl ⟨decide_eq_true h,if_pos h⟩
  ·exact .inr ⟨decide_eq_false h,if_neg h⟩
 have hp2:(decide (p<0)=true∧yax p=9)∨(decide (p<0)=false∧yax p=p):=by
  unfold yax
  by_cases h:p<0
  ·exact .inl ⟨decide_eq_true h,if_pos h⟩
  ·exact .inr ⟨decide_eq_false h,if_neg h⟩
 rcases hs2 with ⟨d13,c13⟩ | ⟨d13,c13⟩<;>rcases hp2 with ⟨d15,c15⟩ | ⟨d15,c15⟩<;>rw [c13,c15] at hfin<;>rw [c13] at cS0 cS9<;>rw [c15] at cP0 cP9
 ·intro τ13
  generalize hq13:({ Wb with tape:=τ13 }:World)=u13
  have oA13:Old Wb u13:=(Old.refl Wb).trans (by rw [← hq13];exact .same rfl)
  clear hq13
  simp only [ybn,yaf,yae,yad,yac,yab,yap,yao,yan,yam,yal,yak,yai,yaj,yah,yaa,seqL,seqR,Tryd.f3]
  gi_wp2
  clear d13
  intro τ15
  generalize hq15:({ u13 with tape:=τ15 }:World)=u15
  have oA15:Old Wb u15:=oA13.trans (by rw [← hq15];exact .same rfl)
  clear hq15
  simp only [ybo,yaf,yae,yad,yac,yab,yap,yao,yan,yam,yal,yak,yai,yaj,yah,yaa,seqL,seqR,Tryd.f3]
  gi_wp2
  clear d15
  intro τ17
  generalize hq17:({ u15 with tape:=τ17 }:World)=u17
  have oA17:Old Wb u17:=oA15.trans (by rw [← hq17];exact .same rfl)
  clear hq17
  have c0:=CH.out u17 oA17
  simp only [ybp,yaf,yae,yad,yac,yab,yap,yao,yan,yam,yal,yak,yai,yaj,yah,yaa,seqL,seqR,Tryd.f3]
  gi_wp2
  clear c0
  have hk2:0≤x % (d.holders.length:Int)∧x % (d.holders.length:Int)≤(d.holders.length:Int)-1:=⟨Int.emod_nonneg _ hn,by have:=Int.emod_lt_of_pos x (b:=(d.holders.length:Int)) (by omega);omega⟩
  generalize x % (d.holders.length:Int)=q at hk2 ⊢
  have hy2:0≤y % 9001∧y % 9001≤9000:=by omega
  generalize y % 9001=z at hy2 ⊢
  have m1:0≤9 * z∧9 * z≤81000:=⟨Int.mul_nonneg (by omega) hy2.1,Int.le_trans (Int.mul_le_mul (show 9≤9 by omega) hy2.2 hy2.1 (by omega)) (by omega)⟩
  have m2:0≤(k:Int) * z∧(k:Int) * z≤81000:=⟨Int.mul_nonneg (by omega) hy2.1,Int.le_trans (Int.mul_le_mul (show (k:Int)≤9 by omega) hy2.2 hy2.1 (by omega)) (by omega)⟩
  have m3:0≤9 * z∧9 * z≤81000:=⟨Int.mul_nonneg (by omega) hy2.1,Int.le_trans (Int.mul_le_mul (show 9≤9 by omega) hy2.2 hy2.1 (by omega)) (by omega)⟩
  have m12:9 * z≤(k:Int) * z:=Int.mul_le_mul_of_nonneg_right (by omega) hy2.1
  have m23:(k:Int) * z≤9 * z:=Int.mul_le_mul_of_nonneg_right (by omega) hy2.1
  have HM:=Lib.hid (And.intro (yau hO q m1.1 m12) (yau hO q m2.1 m23))
  have KH:=Lib.hid (fun u (o:Old Wb u) n h=>KH0.out u o q n hk2 h)
  have HF:=Lib.hid hfin
  intro τ18
  generalize hq18:({ u17 with tape:=τ18 }:World)=u18
  have oA18:Old Wb u18:=oA17.trans (by rw [← hq18];exact .same rfl)
  clear hq18
  obtain⟨c0,c1,c2,c3,c4,c5,c6,c7,c8,c9,c10,c11,c12,c13⟩:=zaS (CO.out u18 oA18)
  have kk:=KH.out u18 oA18 (9 * z) (by omega)
  simp only [ybq,yaf,yae,yad,yac,yab,yap,yao,yan,yam,yal,yak,yai,yaj,yah,yaa,seqL,seqR,Tryd.f3]
  gi_wp2_with (first
   | (gi_at_call 11;refine CallsIn.mono kk ?_;rintro e v18w ⟨rfl,x18⟩)
   | gi_in)
  clear c0 c1 c2 c3 c4 c5 c6 c7 c8 c9 c10 c11 c12 c13 kk
  have oB18:Old Wb v18w:=oA18.trans (.nx x18)
  intro τ19
  generalize hq19:({ v18w with tape:=τ19 }:World)=u19
  have oA19:Old Wb u19:=oB18.trans (by rw [← hq19];exact .same rfl)
  clear hq19
  obtain⟨c0,c1,c2,c3,c4,c5,c6,c7,c8,c9,c10,c11,c12,c13⟩:=zaS (CO.out u19 oA19)
  have kk:=KH.out u19 oA19 ((k:Int) * z) (by omega)
  simp only [ybr,yaf,yae,yad,yac,yab,yap,yao,yan,yam,yal,yak,yai,yaj,yah,yaa,seqL,seqR,Tryd.f3]
  gi_wp2_with (first
   | (gi_at_call 11;refine CallsIn.mono kk ?_;rintro e v19w ⟨rfl,x19⟩)
   | gi_in)
  clear c0 c1 c2 c3 c4 c5 c6 c7 c8 c9 c10 c11 c12 c13 kk
  have oB19:Old Wb v19w:=oA19.trans (.nx x19)
  intro τ20
  generalize hq20:({ v19w with tape:=τ20 }:World)=u20
  have oA20:Old Wb u20:=oB19.trans (by rw [← hq20];exact .same rfl)
  clear hq20
  obtain⟨c0,c1,c2,c3,c4,c5,c6,c7,c8,c9,c10,c11,c12,c13⟩:=zaS (CO.out u20 oA20)
  have kk:=KH.out u20 oA20 (9 * z) (by omega)
  simp only [ybs,yaf,yae,yad,yac,yab,yap,yao,yan,yam,yal,yak,yai,yaj,yah,yaa,seqL,seqR,Tryd.f3]
  gi_wp2_with (first
   | (gi_at_call 11;refine CallsIn.mono kk ?_;rintro e v20w ⟨rfl,x20⟩)
   | gi_in)
  clear c0 c1 c2 c3 c4 c5 c6 c7 c8 c9 c10 c11 c12 c13 kk
  have oB20:Old Wb v20w:=oA20.trans (.nx x20)
  exact⟨hOW.trans oB20,9,k,9,_,_,_,⟨HF.out.1,HF.out.2,HM.out.1,HM.out.2⟩,rfl,rfl,rfl,rfl,rfl,rfl,rfl,rfl,rfl,rfl⟩
 ·intro τ13
  generalize hq13:({ Wb with tape:=τ13 }:World)=u13
  have oA13:Old Wb u13:=(Old.refl Wb).trans (by rw [← hq13];exact .same rfl)
  clear hq13
  simp only [ybn,yaf,yae,yad,yac,yab,yap,yao,yan,yam,yal,yak,yai,yaj,yah,yaa,seqL,seqR,Tryd.f3]
  gi_wp2
  clear d13
  intro τ15
  generalize hq15:({ u13 with tape:=τ15 }:World)=u15
  have oA15:Old Wb u15:=oA13.trans (by rw [← hq15];exact .same rfl)
  clear hq15
  simp only [ybo,yaf,yae,yad,yac,yab,yap,yao,yan,yam,yal,yak,yai,yaj,yah,yaa,seqL,seqR,Tryd.f3]
  gi_wp2
  clear d15
  intro τ17
  generalize hq17:({ u15 with tape:=τ17 }:World)=u17
  have oA17:Old Wb u17:=oA15.trans (by rw [← hq17];exact .same rfl)
  clear hq17
  have c0:=CH.out u17 oA17
  simp only [ybp,yaf,yae,yad,yac,yab,yap,yao,yan,yam,yal,yak,yai,yaj,yah,yaa,seqL,seqR,Tryd.f3]
  gi_wp2
  clear c0
  have hk2:0≤x % (d.holders.length:Int)∧x % (d.holders.length:Int)≤(d.holders.length:Int)-1:=⟨Int.emod_nonneg _ hn,by have:=Int.emod_lt_of_pos x (b:=(d.holders.length:Int)) (by omega);omega⟩
  generalize x % (d.holders.length:Int)=q at hk2 ⊢
  have hy2:0≤y % 9001∧y % 9001≤9000:=by omega
  generalize y % 9001=z at hy2 ⊢
  have m1:0≤p * z∧p * z≤81000:=⟨Int.mul_nonneg (by omega) hy2.1,Int.le_trans (Int.mul_le_mul (show p≤9 by omega) hy2.2 hy2.1 (by omega)) (by omega)⟩
  have m2:0≤(k:Int) * z∧(k:Int) * z≤81000:=⟨Int.mul_nonneg (by omega) hy2.1,Int.le_trans (Int.mul_le_mul (show (k:Int)≤9 by omega) hy2.2 hy2.1 (by omega)) (by omega)⟩
  have m3:0≤9 * z∧9 * z≤81000:=⟨Int.mul_nonneg (by omega) hy2.1,Int.le_trans (Int.mul_le_mul (show 9≤9 by omega) hy2.2 hy2.1 (by omega)) (by omega)⟩
  have m12:p * z≤(k:Int) * z:=Int.mul_le_mul_of_nonneg_right (by omega) hy2.1
  have m23:(k:Int) * z≤9 * z:=Int.mul_le_mul_of_nonneg_right (by omega) hy2.1
  have HM:=Lib.hid (And.intro (yau hO q m1.1 m12) (yau hO q m2.1 m23))
  have KH:=Lib.hid (fun u (o:Old Wb u) n h=>KH0.out u o q n hk2 h)
  have HF:=Lib.hid hfin
  intro τ18
  generalize hq18:({ u17 with tape:=τ18 }:World)=u18
  have oA18:Old Wb u18:=oA17.trans (by rw [← hq18];exact .same rfl)
  clear hq18
  obtain⟨c0,c1,c2,c3,c4,c5,c6,c7,c8,c9,c10,c11,c12,c13⟩:=zaS (CO.out u18 oA18)
  have kk:=KH.out u18 oA18 (p * z) (by omega)
  simp only [ybq,yaf,yae,yad,yac,yab,yap,yao,yan,yam,yal,yak,yai,yaj,yah,yaa,seqL,seqR,Tryd.f3]
  gi_wp2_with (first
   | (gi_at_call 11;refine CallsIn.mono kk ?_;rintro e v18w ⟨rfl,x18⟩)
   | gi_in)
  clear c0 c1 c2 c3 c4 c5 c6 c7 c8 c9 c10 c11 c12 c13 kk
  have oB18:Old Wb v18w:=oA18.trans (.nx x18)
  intro τ19
  generalize hq19:({ v18w with tape:=τ19 }:World)=u19
  have oA19:Old Wb u19:=oB18.trans (by rw [← hq19];exact .same rfl)
  clear hq19
  obtain⟨c0,c1,c2,c3,c4,c5,c6,c7,c8,c9,c10,c11,c12,c13⟩:=zaS (CO.out u19 oA19)
  have kk:=KH.out u19 oA19 ((k:Int) * z) (by omega)
  simp only [ybr,yaf,yae,yad,yac,yab,yap,yao,yan,yam,yal,yak,yai,yaj,yah,yaa,seqL,seqR,Tryd.f3]
  gi_wp2_with (first
   | (gi_at_call 11;refine CallsIn.mono kk ?_;rintro e v19w ⟨rfl,x19⟩)
   | gi_in)
  clear c0 c1 c2 c3 c4 c5 c6 c7 c8 c9 c10 c11 c12 c13 kk
  have oB19:Old Wb v19w:=oA19.trans (.nx x19)
  intro τ20
  generalize hq20:({ v19w with tape:=τ20 }:World)=u20
  have oA20:Old Wb u20:=oB19.trans (by rw [← hq20];exact .same rfl)
  clear hq20
  obtain⟨c0,c1,c2,c3,c4,c5,c6,c7,c8,c9,c10,c11,c12,c13⟩:=zaS (CO.out u20 oA20)
  have kk:=KH.out u20 oA20 (9 * z) (by omega)
  simp only [ybs,yaf,yae,yad,yac,yab,yap,yao,yan,yam,yal,yak,yai,yaj,yah,yaa,seqL,seqR,Tryd.f3]
  gi_wp2_with (first
   | (gi_at_call 11;refine CallsIn.mono kk ?_;rintro e v20w ⟨rfl,x20⟩)
   | gi_in)
  clear c0 c1 c2 c3 c4 c5 c6 c7 c8 c9 c10 c11 c12 c13 kk
  have oB20:Old Wb v20w:=oA20.trans (.nx x20)
  exact⟨hOW.trans oB20,p,k,9,_,_,_,⟨HF.out.1,HF.out.2,HM.out.1,HM.out.2⟩,rfl,rfl,rfl,rfl,rfl,rfl,rfl,rfl,rfl,rfl⟩
 ·intro τ13
  generalize hq13:({ Wb with tape:=τ13 }:World)=u13
  have oA13:Old Wb u13:=(Old.refl Wb).trans (by rw [← hq13];exact .same rfl)
  clear hq13
  simp only [ybn,yaf,yae,yad,yac,yab,yap,yao,yan,yam,yal,yak,yai,yaj,yah,yaa,seqL,seqR,Tryd.f3]
  gi_wp2
  clear d13
  intro τ15
  generalize hq15:({ u13 with tape:=τ15 }:World)=u15
  have oA15:Old Wb u15:=oA13.trans (by rw [← hq15];exact .same rfl)
  clear hq15
  simp only [ybo,yaf,yae,yad,yac,yab,yap,yao,yan,yam,yal,yak,yai,yaj,yah,yaa,seqL,seqR,Tryd.f3]
  gi_wp2
  clear d15
  intro τ17
  generalize hq17:({ u15 with tape:=τ17 }:World)=u17
  have oA17:Old Wb u17:=oA15.trans (by rw [← hq17];exact .same rfl)
  clear hq17
  have c0:=CH.out u17 oA17
  simp only [ybp,yaf,yae,yad,yac,yab,yap,yao,yan,yam,yal,yak,yai,yaj,yah,yaa,seqL,seqR,Tryd.f3]
  gi_wp2
  clear c0
  have hk2:0≤x % (d.holders.length:Int)∧x % (d.holders.length:Int)≤(d.holders.length:Int)-1:=⟨Int.emod_nonneg _ hn,by have:=Int.emod_lt_of_pos x (b:=(d.holders.length:Int)) (by omega);omega⟩
  generalize x % (d.holders.length:Int)=q at hk2 ⊢
  have hy2:0≤y % 9001∧y % 9001≤9000:=by omega
  generalize y % 9001=z at hy2 ⊢
  have m1:0≤9 * z∧9 * z≤81000:=⟨Int.mul_nonneg (by omega) hy2.1,Int.le_trans (Int.mul_le_mul (show 9≤9 by omega) hy2.2 hy2.1 (by omega)) (by omega)⟩
  have m2:0≤(k:Int) * z∧(k:Int) * z≤81000:=⟨Int.mul_nonneg (by omega) hy2.1,Int.le_trans (Int.mul_le_mul (show (k:Int)≤9 by omega) hy2.2 hy2.1 (by omega)) (by omega)⟩
  have m3:0≤s * z∧s * z≤81000:=⟨Int.mul_nonneg (by omega) hy2.1,Int.le_trans (Int.mul_le_mul (show s≤9 by omega) hy2.2 hy2.1 (by omega)) (by omega)⟩
  have m12:9 * z≤(k:Int) * z:=Int.mul_le_mul_of_nonneg_right (by omega) hy2.1
  have m23:(k:Int) * z≤s * z:=Int.mul_le_mul_of_nonneg_right (by omega) hy2.1
  have HM:=Lib.hid (And.intro (yau hO q m1.1 m12) (yau hO q m2.1 m23))
  have KH:=Lib.hid (fun u (o:Old Wb u) n h=>KH0.out u o q n hk2 h)
  have HF:=Lib.hid hfin
  intro τ18
  generalize hq18:({ u17 with tape:=τ18 }:World)=u18
  have oA18:Old Wb u18:=oA17.trans (by rw [← hq18];exact .same rfl)
  clear hq18
  obtain⟨c0,c1,c2,c3,c4,c5,c6,c7,c8,c9,c10,c11,c12,c13⟩:=zaS (CO.out u18 oA18)
  have kk:=KH.out u18 oA18 (9 * z) (by omega)
  simp only [ybq,yaf,yae,yad,yac,yab,yap,yao,yan,yam,yal,yak,yai,yaj,yah,yaa,seqL,seqR,Tryd.f3]
  gi_wp2_with (first
   | (gi_at_call 11;refine CallsIn.mono kk ?_;rintro e v18w ⟨rfl,x18⟩)
   | gi_in)
  clear c0 c1 c2 c3 c4 c5 c6 c7 c8 c9 c10 c11 c12 c13 kk
  have oB18:Old Wb v18w:=oA18.trans (.nx x18)
  intro τ19
  generalize hq19:({ v18w with tape:=τ19 }:World)=u19
  have oA19:Old Wb u19:=oB18.trans (by rw [← hq19];exact .same rfl)
  clear hq19
  obtain⟨c0,c1,c2,c3,c4,c5,c6,c7,c8,c9,c10,c11,c12,c13⟩:=zaS (CO.out u19 oA19)
  have kk:=KH.out u19 oA19 ((k:Int) * z) (by omega)
  simp only [ybr,yaf,yae,yad,yac,yab,yap,yao,yan,yam,yal,yak,yai,yaj,yah,yaa,seqL,seqR,Tryd.f3]
  gi_wp2_with (first
   | (gi_at_call 11;refine CallsIn.mono kk ?_;rintro e v19w ⟨rfl,x19⟩)
   | gi_in)
  clear c0 c1 c2 c3 c4 c5 c6 c7 c8 c9 c10 c11 c12 c13 kk
  have oB19:Old Wb v19w:=oA19.trans (.nx x19)
  intro τ20
  generalize hq20:({ v19w with tape:=τ20 }:World)=u20
  have oA20:Old Wb u20:=oB19.trans (by rw [← hq20];exact .same rfl)
  clear hq20
  obtain⟨c0,c1,c2,c3,c4,c5,c6,c7,c8,c9,c10,c11,c12,c13⟩:=zaS (CO.out u20 oA20)
  have kk:=KH.out u20 oA20 (s * z) (by omega)
  simp only [ybs,yaf,yae,yad,yac,yab,yap,yao,yan,yam,yal,yak,yai,yaj,yah,yaa,seqL,seqR,Tryd.f3]
  gi_wp2_with (first
   | (gi_at_call 11;refine CallsIn.mono kk ?_;rintro e v20w ⟨rfl,x20⟩)
   | gi_in)
  clear c0 c1 c2 c3 c4 c5 c6 c7 c8 c9 c10 c11 c12 c13 kk
  have oB20:Old Wb v20w:=oA20.trans (.nx x20)
  exact⟨hOW.trans oB20,9,k,s,_,_,_,⟨HF.out.1,HF.out.2,HM.out.1,HM.out.2⟩,rfl,rfl,rfl,rfl,rfl,rfl,rfl,rfl,rfl,rfl⟩
 ·intro τ13
  generalize hq13:({ Wb with tape:=τ13 }:World)=u13
  have oA13:Old Wb u13:=(Old.refl Wb).trans (by rw [← hq13];exact .same rfl)
  clear hq13
  simp only [ybn,yaf,yae,yad,yac,yab,yap,yao,yan,yam,yal,yak,yai,yaj,yah,yaa,seqL,seqR,Tryd.f3]
  gi_wp2
  clear d13
  intro τ15
  generalize hq15:({ u13 with tape:=τ15 }:World)=u15
  have oA15:Old Wb u15:=oA13.trans (by rw [← hq15];exact .same rfl)
  clear hq15
  simp only [ybo,yaf,yae,yad,yac,yab,yap,yao,yan,yam,yal,yak,yai,yaj,yah,yaa,seqL,seqR,Tryd.f3]
  gi_wp2
  clear d15
  intro τ17
  generalize hq17:({ u15 with tape:=τ17 }:World)=u17
  have oA17:Old Wb u17:=oA15.trans (by rw [← hq17];exact .same rfl)
  clear hq17
  have c0:=CH.out u17 oA17
  simp only [ybp,yaf,yae,yad,yac,yab,yap,yao,yan,yam,yal,yak,yai,yaj,yah,yaa,seqL,seqR,Tryd.f3]
  gi_wp2
  clear c0
  have hk2:0≤x % (d.holders.length:Int)∧x % (d.holders.length:Int)≤(d.holders.length:Int)-1:=⟨Int.emod_nonneg _ hn,by have:=Int.emod_lt_of_pos x (b:=(d.holders.length:Int)) (by omega);omega⟩
  generalize x % (d.holders.length:Int)=q at hk2 ⊢
  have hy2:0≤y % 9001∧y % 9001≤9000:=by omega
  generalize y % 9001=z at hy2 ⊢
  have m1:0≤p * z∧p * z≤81000:=⟨Int.mul_nonneg (by omega) hy2.1,Int.le_trans (Int.mul_le_mul (show p≤9 by omega) hy2.2 hy2.1 (by omega)) (by omega)⟩
  have m2:0≤(k:Int) * z∧(k:Int) * z≤81000:=⟨Int.mul_nonneg (by omega) hy2.1,Int.le_trans (Int.mul_le_mul (show (k:Int)≤9 by omega) hy2.2 hy2.1 (by omega)) (by omega)⟩
  have m3:0≤s * z∧s * z≤81000:=⟨Int.mul_nonneg (by omega) hy2.1,Int.le_trans (Int.mul_le_mul (show s≤9 by omega) hy2.2 hy2.1 (by omega)) (by omega)⟩
  have m12:p * z≤(k:Int) * z:=Int.mul_le_mul_of_nonneg_right (by omega) hy2.1
  have m23:(k:Int) * z≤s * z:=Int.mul_le_mul_of_nonneg_right (by omega) hy2.1
  have HM:=Lib.hid (And.intro (yau hO q m1.1 m12) (yau hO q m2.1 m23))
  have KH:=Lib.hid (fun u (o:Old Wb u) n h=>KH0.out u o q n hk2 h)
  have HF:=Lib.hid hfin
  intro τ18
  generalize hq18:({ u17 with tape:=τ18 }:World)=u18
  have oA18:Old Wb u18:=oA17.trans (by rw [← hq18];exact .same rfl)
  clear hq18
  obtain⟨c0,c1,c2,c3,c4,c5,c6,c7,c8,c9,c10,c11,c12,c13⟩:=zaS (CO.out u18 oA18)
  have kk:=KH.out u18 oA18 (p * z) (by omega)
  simp only [ybq,yaf,yae,yad,yac,yab,yap,yao,yan,yam,yal,yak,yai,yaj,yah,yaa,seqL,seqR,Tryd.f3]
  gi_wp2_with (first
   | (gi_at_call 11;refine CallsIn.mono kk ?_;rintro e v18w ⟨rfl,x18⟩)
   | gi_in)
  clear c0 c1 c2 c3 c4 c5 c6 c7 c8 c9 c10 c11 c12 c13 kk
  have oB18:Old Wb v18w:=oA18.trans (.nx x18)
  intro τ19
  generalize hq19:({ v18w with tape:=τ19 }:World)=u19
  have oA19:Old Wb u19:=oB18.trans (by rw [← hq19];exact .same rfl)
  clear hq19
  obtain⟨c0,c1,c2,c3,c4,c5,c6,c7,c8,c9,c10,c11,c12,c13⟩:=zaS (CO.out u19 oA19)
  have kk:=KH.out u19 oA19 ((k:Int) * z) (by omega)
  simp only [ybr,yaf,yae,yad,yac,yab,yap,yao,yan,yam,yal,yak,yai,yaj,yah,yaa,seqL,seqR,Tryd.f3]
  gi_wp2_with (first
   | (gi_at_call 11;refine CallsIn.mono kk ?_;rintro e v19w ⟨rfl,x19⟩)
   | gi_in)
  clear c0 c1 c2 c3 c4 c5 c6 c7 c8 c9 c10 c11 c12 c13 kk
  have oB19:Old Wb v19w:=oA19.trans (.nx x19)
  intro τ20
  generalize hq20:({ v19w with tape:=τ20 }:World)=u20
  have oA20:Old Wb u20:=oB19.trans (by rw [← hq20];exact .same rfl)
  clear hq20
  obtain⟨c0,c1,c2,c3,c4,c5,c6,c7,c8,c9,c10,c11,c12,c13⟩:=zaS (CO.out u20 oA20)
  have kk:=KH.out u20 oA20 (s * z) (by omega)
  simp only [ybs,yaf,yae,yad,yac,yab,yap,yao,yan,yam,yal,yak,yai,yaj,yah,yaa,seqL,seqR,Tryd.f3]
  gi_wp2_with (first
   | (gi_at_call 11;refine CallsIn.mono kk ?_;rintro e v20w ⟨rfl,x20⟩)
   | gi_in)
  clear c0 c1 c2 c3 c4 c5 c6 c7 c8 c9 c10 c11 c12 c13 kk
  have oB20:Old Wb v20w:=oA20.trans (.nx x20)
  exact⟨hOW.trans oB20,p,k,s,_,_,_,⟨HF.out.1,HF.out.2,HM.out.1,HM.out.2⟩,rfl,rfl,rfl,rfl,rfl,rfl,rfl,rfl,rfl,rfl⟩
theorem ybb (d:Dit) (r:zaR) (a1 a2 b1 b2 x y:Int) (pv:Value) (ps:List Int) (W:World) (hd:DitSl W d r) (hb:d.Big) (hg:Glob W) (hx:0≤x∧x≤255) (hy:0≤y∧y≤65535) (hps:Sl W pv 1 (ps.map fun x=>[Value.int .u16 x])) (hpb:∀ x∈ps,0≤x∧x≤65535) (hpl:ps.length≤281474976710656) :
  zo0 Tryd.prog (FG 3) [rs0,rs1] (fun t W1=>Old W W1∧t.size=178∧(t[38]?=some (.bool true)∨(t[38]?=some (.bool false)∧zo0 Tryd.prog (FG 3) [rs3,rs4] (fun t W1=>Old W W1∧t.size=178∧(t[48]?=some (.bool true)∧t[13]?=some (num 0)∧t[14]?=some (num 0)∨(t[48]?=some (.bool false)∧zo0 Tryd.prog (FG 3) [rs6,rs8,rs9,ybw,ybn,ybo,ybp,ybq,ybr,ybs] (ybm W) t W1))) t W1)))
   #[d.val r,.agg #[num a1,num a2],.agg #[num b1,num b2],.int .u8 x,.int .u16 y,pv,zu,zu,zu,zu,zu,zu,zu,zu,zu,zu,zu,zu,zu,zu,zu,zu,zu,zu,zu,zu,zu,zu,zu,zu,zu,zu,zu,zu,zu,zu,zu,zu,zu,zu,zu,zu,zu,zu,zu,zu,zu,zu,zu,zu,zu,zu,zu,zu,zu,zu,zu,zu,zu,zu,zu,zu,zu,zu,zu,zu,zu,zu,zu,zu,zu,zu,zu,zu,zu,zu,zu,zu,zu,zu,zu,zu,zu,zu,zu,zu,zu,zu,zu,zu,zu,zu,zu,zu,zu,zu,zu,zu,zu,zu,zu,zu,zu,zu,zu,zu,zu,zu,zu,zu,zu,zu,zu,zu,zu,zu,zu,zu,zu,zu,zu,zu,zu,zu,zu,zu,zu,zu,zu,zu,zu,zu,zu,zu,zu,zu,zu,zu,zu,zu,zu,zu,zu,zu,zu,zu,zu,zu,zu,zu,zu,zu,zu,zu,zu,zu,zu,zu,zu,zu,zu,zu,zu,zu,zu,zu,zu,zu,zu,zu,zu,zu,zu,zu,zu,zu,zu,zu] W:=by
 intro τ
 generalize hw0:({ W with tape:=τ }:World)=w0
 have hO0:Old W w0:=by rw [← hw0];exact .same rfl
 clear hw0
 generalize hY:((w0.alloc (.cells (d.cellsA r) 31)).alloc (.cells #[num a1,num a2] 28)).alloc (.cells #[num b1,num b2] 28)=Y
 obtain⟨oY,sY,g1,g2,g3⟩:=yby hY
 have hcd:d.cellsA r=#[r.h,r.t,num d.begin_,num d.week,num d.from_,num d.long,r.f,r.s,r.l,num d.flow.1,num d.flow.2,num d.loss.1,num d.loss.2,r.p]:=rfl
 rw [hcd] at hY
 simp only [rs0,yaa,seqL,seqR,Tryd.f3]
 gi_wp2
 clear hcd hY
 intro τ1
 generalize hw1:({ Y with tape:=τ1 }:World)=w1
 have h1:w1.heap=Y.heap:=by rw [← hw1]
 clear hw1
 have hOw:Old W w1:=hO0.trans (oY.trans (.same h1))
 have cell0:∀ (b:Nat) (cs:Array Value) (T:TypeId),Y.heap[b]?=some (.cells cs T (0,0))→∀ w2,Old w1 w2→∀ i v,cs[i]?=some v→w2.cell? ⟨b,i,none⟩=some v:=fun b cs T hb w2 o i v hv=>by
  have hl:=(Array.getElem?_eq_some_iff.1 hb).1
  rw [o.cell ⟨b,i,none⟩ (by rw [h1];exact hl)]
  unfold World.cell?
  dsimp only
  rw [h1,hb]
  exact hv
 have CO:=Lib.hid (cell0 _ _ _ g1)
 have CA:=Lib.hid (cell0 _ _ _ g2)
 have CB:=Lib.hid (cell0 _ _ _ g3)
 obtain⟨ah,caph,eh⟩:=hd.holders.cases
 rw [List.length_map] at eh
 have CH:=Lib.hid (show ∀ w2,Old w1 w2→w2.cell? ⟨w0.heap.size,0,none⟩=some (.slice ah d.holders.length caph) from fun w2 o=>(CO.out w2 o 0 r.h rfl).trans (by rw [eh]))
 have HBL:=Lib.hid (show w0.heap.size<w1.heap.size by rw [h1];omega)
 clear cell0 g1 g2 g3 sY oY h1 eh
 have HD:=Lib.hid hd
 have HG:=Lib.hid hg
 have HPS:=Lib.hid (fun w2 (o:Old w1 w2)=>hps.old (hOw.trans o))
 have HPB:=Lib.hid (And.intro hpb hpl)
 have k5:=toFG 3 (m:=0) (zlS d r 0 0 (.slice none 0 0) [] w1 (hd.old hOw) hb ⟨0,.inl ⟨rfl,rfl⟩⟩ (Nat.zero_le _))
 clear hd hg hps hpb hpl
 obtain⟨c0,c1,c2,c3,c4,c5,c6,c7,c8,c9,c10,c11,c12,c13⟩:=zaS (CO.out w1 (Old.refl _))
 simp only [rs1,yaf,yae,yad,yac,yab,yap,yao,yan,yam,yal,yak,yai,yaj,yah,yaa,seqL,seqR,Tryd.f3]
 cases hgr:zbG d 0 with
 | true =>
  rw [show ([]:List (List Value)).length=0 from rfl,hgr] at k5
  gi_wp2_with (first
   | (gi_at_call 5;refine CallsIn.mono k5 ?_;rintro e w2 ⟨rfl,x2⟩)
   | gi_in)
  first | exact⟨hOw.trans (.nx x2),rfl,.inl rfl⟩ | exact⟨hOw.trans (.nx x2),rfl,rfl⟩
 | false =>
 rw [show ([]:List (List Value)).length=0 from rfl,hgr] at k5
 have hs:=zgU hgr
 have k6:=Lib.hid (fun w2 (o:Old w1 w2)=>toFG 3 (m:=0) (zgI d r w2 (HD.out.old (hOw.trans o)) hs))
 clear hgr
 rcases (Decidable.em (zaF d=0)).symm with hc | hc
 ·have b1:(zaF d != 0)=true:=by simpa using hc
  generalize zaF d=g at *
  gi_wp2_with (first
   | (gi_at_call 5;refine CallsIn.mono k5 ?_;rintro e w2 ⟨rfl,x2⟩;clear c0 c1 c2 c3 c4 c5 c6 c7 c8 c9 c10 c11 c12 c13;obtain⟨c0,c1,c2,c3,c4,c5,c6,c7,c8,c9,c10,c11,c12,c13⟩:=zaS (CO.out w2 (.nx x2));have kk:=k6.out w2 (.nx x2))
   | (gi_at_call 6;refine CallsIn.mono kk ?_;rintro e w3 ⟨rfl,x3⟩)
   | gi_in)
  first | exact⟨hOw.trans (.trans (.nx x2) (.nx x3)),rfl,.inl rfl⟩ | exact⟨hOw.trans (.trans (.nx x2) (.nx x3)),rfl,rfl⟩
 have HC:=Lib.hid hc
 rw [hc] at k6
 clear hc
 by_cases hz:d.holders.length=0
 ·have b2:((d.holders.length:Int) == 0)=true:=by simp [hz]
  clear hz
  gi_wp2_with (first
   | (gi_at_call 5;refine CallsIn.mono k5 ?_;rintro e w2 ⟨rfl,x2⟩;clear c0 c1 c2 c3 c4 c5 c6 c7 c8 c9 c10 c11 c12 c13;obtain⟨c0,c1,c2,c3,c4,c5,c6,c7,c8,c9,c10,c11,c12,c13⟩:=zaS (CO.out w2 (.nx x2));have kk:=k6.out w2 (.nx x2))
   | (gi_at_call 6;refine CallsIn.mono kk ?_;rintro e w3 ⟨rfl,x3⟩;clear c0 c1 c2 c3 c4 c5 c6 c7 c8 c9 c10 c11 c12 c13;have ch:=CH.out w3 (.trans (.nx x2) (.nx x3)))
   | gi_in)
  first | exact⟨hOw.trans (.trans (.nx x2) (.nx x3)),rfl,.inl rfl⟩ | exact⟨hOw.trans (.trans (.nx x2) (.nx x3)),rfl,rfl⟩
 have b2:((d.holders.length:Int) == 0)=false:=beq_false_of_ne (by omega)
 have HZ:=Lib.hid (show 0<d.holders.length by omega)
 clear hz
 gi_wp2_with (first
  | (gi_at_call 5;refine CallsIn.mono k5 ?_;rintro e w2 ⟨rfl,x2⟩;clear c0 c1 c2 c3 c4 c5 c6 c7 c8 c9 c10 c11 c12 c13;obtain⟨c0,c1,c2,c3,c4,c5,c6,c7,c8,c9,c10,c11,c12,c13⟩:=zaS (CO.out w2 (.nx x2));have kk:=k6.out w2 (.nx x2))
  | (gi_at_call 6;refine CallsIn.mono kk ?_;rintro e w3 ⟨rfl,x3⟩;clear c0 c1 c2 c3 c4 c5 c6 c7 c8 c9 c10 c11 c12 c13;have ch:=CH.out w3 (.trans (.nx x2) (.nx x3)))
  | gi_in)
 have oB2:Old w1 w3:=.trans (.nx x2) (.nx x3)
 refine⟨hOw.trans oB2,rfl,.inr ⟨rfl,?_⟩⟩
 clear k5 k6 kk ch b2
 intro τ3
 generalize hq3:({ w3 with tape:=τ3 }:World)=u3
 have oA3:Old w1 u3:=oB2.trans (by rw [← hq3];exact .same rfl)
 clear hq3
 have qa0:=CA.out u3 oA3 0 _ rfl
 have qa1:=CA.out u3 oA3 1 _ rfl
 have qb0:=CB.out u3 oA3 0 _ rfl
 have qb1:=CB.out u3 oA3 1 _ rfl
 have kk:=toFG 3 (m:=0) (ya8 a1 a2 b1 b2 u3)
 have HRF:=Lib.hid (show yaq a1 a2 b1 b2=if (0≤a1∧a1≤a2∧a2≤500)∧(-50≤b1∧b1≤b2∧b2≤50) then (yag a2 b2,yag a1 b1,0) else (0,0,1) from rfl)
 by_cases hin:(0≤a1∧a1≤a2∧a2≤500)∧(-50≤b1∧b1≤b2∧b2≤50)
 case neg =>
  rw [HRF.out,if_neg hin] at kk
  dsimp only at kk
  clear hin HRF
  simp only [rs3,yaf,yae,yad,yac,yab,yap,yao,yan,yam,yal,yak,yai,yaj,yah,yaa,seqL,seqR,Tryd.f3]
  gi_wp2_with (first
   | (gi_at_call 8;refine CallsIn.mono kk ?_;rintro e v3 ⟨rfl,x3⟩)
   | gi_in)
  clear qa0 qa1 qb0 qb1 kk
  have oB3:Old w1 v3:=oA3.trans (.nx x3)
  intro τ4
  generalize hq4:({ v3 with tape:=τ4 }:World)=u4
  have oA4:Old w1 u4:=oB3.trans (by rw [← hq4];exact .same rfl)
  clear hq4
  simp only [rs4,yaf,yae,yad,yac,yab,yap,yao,yan,yam,yal,yak,yai,yaj,yah,yaa,seqL,seqR,Tryd.f3]
  gi_wp2
  first | exact⟨hOw.trans oA4,rfl,.inl ⟨rfl,rfl,rfl⟩⟩ | exact⟨hOw.trans oA4,rfl,rfl,rfl,rfl⟩
 case pos =>
 rw [HRF.out,if_pos hin] at kk
 dsimp only at kk
 obtain⟨⟨i1,i2,i3⟩,i4,i5,i6⟩:=hin
 have hS:=ya2 a2 b2
 have hP:=ya2 a1 b1
 have HCS:=Lib.hid (ybc a2 b2)
 have HCP:=Lib.hid (ybc a1 b1)
 have HLAW:=Lib.hid (fun (a:Int) (k:Nat)=>@ybd a1 a2 b1 b2 a k)
 clear HRF
 generalize yag a2 b2=s at *
 generalize yag a1 b1=p at *
 simp only [rs3,yaf,yae,yad,yac,yab,yap,yao,yan,yam,yal,yak,yai,yaj,yah,yaa,seqL,seqR,Tryd.f3]
 gi_wp2_with (first
  | (gi_at_call 8;refine CallsIn.mono kk ?_;rintro e v3 ⟨rfl,x3⟩)
  | gi_in)
 clear qa0 qa1 qb0 qb1 kk
 have oB3:Old w1 v3:=oA3.trans (.nx x3)
 intro τ4
 generalize hq4:({ v3 with tape:=τ4 }:World)=u4
 have oA4:Old w1 u4:=oB3.trans (by rw [← hq4];exact .same rfl)
 clear hq4
 simp only [rs4,yaf,yae,yad,yac,yab,yap,yao,yan,yam,yal,yak,yai,yaj,yah,yaa,seqL,seqR,Tryd.f3]
 gi_wp2
 refine⟨hOw.trans oA4,rfl,.inr ⟨rfl,?_⟩⟩
 intro τ6
 generalize hq6:({ u4 with tape:=τ6 }:World)=u6
 have oA6:Old w1 u6:=oA4.trans (by rw [← hq6];exact .same rfl)
 clear hq6
 have qa0:=CA.out u6 oA6 0 _ rfl
 have qa1:=CA.out u6 oA6 1 _ rfl
 have qb0:=CB.out u6 oA6 0 _ rfl
 have qb1:=CB.out u6 oA6 1 _ rfl
 have d1:decide (a1 > a2)=false:=decide_eq_false (by omega)
 have d2:decide (b1 > b2)=false:=decide_eq_false (by omega)
 have d3:decide (s < -1)=false:=decide_eq_false (by omega)
 have d4:decide (p < -1)=false:=decide_eq_false (by omega)
 have d5:decide (s > 8)=false:=decide_eq_false (by omega)
 have d6:decide (p > 8)=false:=decide_eq_false (by omega)
 simp only [rs6,yaf,yae,yad,yac,yab,yap,yao,yan,yam,yal,yak,yai,yaj,yah,yaa,seqL,seqR,Tryd.f3]
 gi_wp2
 clear qa0 qa1 qb0 qb1 d1 d2 d3 d4 d5 d6
 intro τ8
 generalize hq8:({ u6 with tape:=τ8 }:World)=u8
 have oA8:Old w1 u8:=oA6.trans (by rw [← hq8];exact .same rfl)
 clear hq8
 simp only [rs8,yaf,yae,yad,yac,yab,yap,yao,yan,yam,yal,yak,yai,yaj,yah,yaa,seqL,seqR,Tryd.f3]
 gi_wp2
 have KP:=Lib.hid (show (∀ u,Old w1 u→∀ k:Nat,k≤9→CallsIn (FG 3) 0 Tryd.prog 10 #[pv,num k] u fun e w'=>∃ z:Int,e=Ending.returned (num z)∧(0≤z∧z≤65535)∧Old w1 w') from fun u o k hk=>(toFG 3 (m:=0) (ya9 ps pv k u (HPS.out u o) HPB.out.1 HPB.out.2 (by omega))).mono fun e w' ⟨z,h1,h2,h3⟩=>⟨z,h1,h2,by rw [h3];exact o⟩)
 have KN:=Lib.hid (fun (lo hi z:Int) (h1 : -1000≤lo∧lo≤hi∧hi≤1000) (hz:0≤z∧z≤65535) u (o:Old w1 u)=>(toFG 3 (m:=0) (ybe lo hi z u (by omega) (by omega))).mono (R':=fun e w'=>∃ q:Int,e=Ending.returned (num q)∧(lo≤q∧q≤hi)∧Old w1 w') fun e w' ⟨h2,h3⟩=>⟨_,h2,by
  have h4:=Int.emod_nonneg z (show hi-lo+1≠0 by omega)
  have h5:=Int.emod_lt_of_pos z (show 0<hi-lo+1 by omega)
  omega,o.trans (.nx h3)⟩)
 intro τ9
 generalize hq9:({ u8 with tape:=τ9 }:World)=u9
 have oA9:Old w1 u9:=oA8.trans (by rw [← hq9];exact .same rfl)
 clear hq9
 simp only [rs9,yaf,yae,yad,yac,yab,yap,yao,yan,yam,yal,yak,yai,yaj,yah,yaa,seqL,seqR,Tryd.f3]
 have oD9:Old w1 u9.drew:=oA9.trans (.nx (Below.drew (Below.refl _ _)))
 gi_upto_region 9 with fail
 refine zbg (fun x=>Old w1 x) (by kernel_rfl) ?_
 change wpAnyC _ _ _ _ _ _ _ 5 #[false,false,false,false,false] _ _
 refine zah (i:=0) (oi:=⟨some 86,.load 28 (.tmp 7),_,_,_,none⟩) (v:=.agg #[num a1,num a2]) (zaj (by kernel_rfl)) rfl (by kernel_rfl) (by kernel_rfl) (by kernel_rfl) (fun _ _ _ h=>by cases h.1) (yC rfl (fun _=>rfl) fun x hx=>by have e0:=CA.out x hx 0 _ rfl;have e1:=CA.out x hx 1 _ rfl;clear CO CA CB CH KP KN HPS HPB HD HG;simp [execOp,go_sem,e0,e1]) ?_
 simp only [Act.put,List.setIfInBounds_toArray,List.set_cons_succ,List.set_cons_zero]
 refine zah (i:=1) (oi:=⟨some 87,.move (.tmp 5),_,_,_,none⟩) (v:=pv) (zaj (by kernel_rfl)) rfl (by kernel_rfl) (by kernel_rfl) (by kernel_rfl) (fun _ _ _ h=>by cases h.1) (zaN rfl) ?_
 simp only [Act.put,List.setIfInBounds_toArray,List.set_cons_succ,List.set_cons_zero]
 refine zau (i:=2) (o:=⟨some 88,.call { callee:=.value (.func 10),args:=#[.tmp 87,.const (.int .i64 0)],argTypes:=#[33,3] },_,_,_,none⟩) (by kernel_rfl) rfl rfl (oD9) ?_
 intro K hK
 go_simp
 refine CallsIn.mono ((KP.out _ (oD9) 0 (by omega))) ?_
 rintro e v2w ⟨z2,rfl,hz2,y2⟩
 refine hK _ _ ?_
 refine zau (i:=3) (o:=⟨some 89,.call { callee:=.value (.func 9),args:=#[.tmp 86,.tmp 88],argTypes:=#[28,3] },_,_,_,none⟩) (by kernel_rfl) rfl rfl (y2) ?_
 intro K hK
 go_simp
 refine CallsIn.mono ((KN.out a1 a2 z2 (by omega) hz2 _ (y2))) ?_
 rintro e v3w ⟨q3,rfl,hq3,y3⟩
 refine hK _ _ ?_
 refine zah (i:=4) (oi:=⟨some 17,.assign (.tmp 89),_,_,_,none⟩) (v:=num q3) (zaj (by kernel_rfl)) rfl (by kernel_rfl) (by kernel_rfl) (by kernel_rfl) (fun _ _ _ h=>by cases h.1) (zdN rfl) ?_
 simp only [Act.put,List.setIfInBounds_toArray,List.set_cons_succ,List.set_cons_zero]
 refine zbk (by kernel_rfl) (y3) ?_
 have oB9:Old w1 v3w:=y3
 refine⟨rfl,rfl,?_⟩
 intro τ10
 generalize hq10:({ v3w with tape:=τ10 }:World)=u10
 have oA10:Old w1 u10:=oB9.trans (by rw [← hq10];exact .same rfl)
 clear hq10
 clear oD9
 simp only [ybw,yaf,yae,yad,yac,yab,yap,yao,yan,yam,yal,yak,yai,yaj,yah,yaa,seqL,seqR,Tryd.f3]
 gi_wp2
 gi_loopw [16,17] (fun vr va wr=>∃ (k:Nat) (a:Int),k≤9∧vr=num k∧va=num a∧(a1+(k:Int) * b1≤a∧a≤a2+(k:Int) * b2)∧(∀ j:Nat,j<k→a2+(j:Int) * b2 > 0)∧Old w1 wr) (fun vr _ _=>9-(intOf vr).toNat)
 case atStart=>exact⟨0,q3,by omega,rfl,rfl,by simp;omega,fun j hj=>by omega,oA10⟩
 case round =>
  obtain⟨k,a,hk,rfl,rfl,hka,hkj,oR⟩:=hrel
  have HKJ:=Lib.hid hkj
  have hb1:((k:Int) * b1).natAbs≤9 * 50:=zdK (by omega) (by omega)
  have hb2:((k:Int) * b2).natAbs≤9 * 50:=zdK (by omega) (by omega)
  have HKA:=Lib.hid hka
  clear hkj
  by_cases hgo:a > 0∧k≤8
  ·have d1:decide (a > 0)=true:=decide_eq_true hgo.1
   have hk8:=hgo.2
   have d2:decide ((k:Int)≤8)=true:=decide_eq_true (by omega)
   have hab : -1000≤a∧a≤1000:=by omega
   have HS:=Lib.hid (show a2+(k:Int) * b2 > 0 by omega)
   clear hka hgo hb1 hb2
   gi_upto_region 12 with fail
   clear d1 d2
   have oD12:Old w1 wr.drew:=oR.trans (.nx (Below.drew (Below.refl _ _)))
   refine zbg (fun x=>Old w1 x) (by kernel_rfl) ?_
   change wpAnyC _ _ _ _ _ _ _ 8 #[false,false,false,false,false,false,false,false] _ _
   refine zah (i:=0) (oi:=⟨some 98,.move (.tmp 17),_,_,_,none⟩) (v:=num a) (zaj (by kernel_rfl)) rfl (by kernel_rfl) (by kernel_rfl) (by kernel_rfl) (fun _ _ _ h=>by cases h.1) (zaN rfl) ?_
   simp only [Act.put,List.setIfInBounds_toArray,List.set_cons_succ,List.set_cons_zero]
   refine zah (i:=1) (oi:=⟨some 99,.load 28 (.tmp 8),_,_,_,none⟩) (v:=.agg #[num b1,num b2]) (zaj (by kernel_rfl)) rfl (by kernel_rfl) (by kernel_rfl) (by kernel_rfl) (fun _ _ _ h=>by cases h.1) (yC rfl (fun _=>rfl) fun x hx=>by have e0:=CB.out x hx 0 _ rfl;have e1:=CB.out x hx 1 _ rfl;clear CO CA CB CH KP KN HPS HPB HD HG;simp [execOp,go_sem,e0,e1]) ?_
   simp only [Act.put,List.setIfInBounds_toArray,List.set_cons_succ,List.set_cons_zero]
   refine zah (i:=2) (oi:=⟨some 100,.move (.tmp 5),_,_,_,none⟩) (v:=pv) (zaj (by kernel_rfl)) rfl (by kernel_rfl) (by kernel_rfl) (by kernel_rfl) (fun _ _ _ h=>by cases h.1) (zaN rfl) ?_
   simp only [Act.put,List.setIfInBounds_toArray,List.set_cons_succ,List.set_cons_zero]
   refine zah (i:=3) (oi:=⟨some 101,.move (.tmp 16),_,_,_,none⟩) (v:=num ((k:Int)+1)) (zaj (by kernel_rfl)) rfl (by kernel_rfl) (by kernel_rfl) (by kernel_rfl) (fun _ _ _ h=>by cases h.1) (zaN rfl) ?_
   simp only [Act.put,List.setIfInBounds_toArray,List.set_cons_succ,List.set_cons_zero]
   refine zau (i:=4) (o:=⟨some 102,.call { callee:=.value (.func 10),args:=#[.tmp 100,.tmp 101],argTypes:=#[33,3] },_,_,_,none⟩) (by kernel_rfl) rfl rfl (oD12) ?_
   intro K hK
   go_simp
   refine CallsIn.mono ((KP.out _ (oD12) (k+1) (by omega))) ?_
   rintro e x4w ⟨z4,rfl,hz4,y4⟩
   refine hK _ _ ?_
   refine zau (i:=5) (o:=⟨some 103,.call { callee:=.value (.func 9),args:=#[.tmp 99,.tmp 102],argTypes:=#[28,3] },_,_,_,none⟩) (by kernel_rfl) rfl rfl (y4) ?_
   intro K hK
   go_simp
   refine CallsIn.mono ((KN.out b1 b2 z4 (by omega) hz4 _ (y4))) ?_
   rintro e x5w ⟨q5,rfl,hq5,y5⟩
   refine hK _ _ ?_
   refine zah (i:=6) (oi:=⟨some 104,.binOp .add 3 (.tmp 98) (.tmp 103) 3,_,_,_,none⟩) (v:=num (a+q5)) (zaj (by kernel_rfl)) rfl (by kernel_rfl) (by kernel_rfl) (by kernel_rfl) (fun _ _ _ h=>by cases h.1) (zkA rfl rfl (by omega)) ?_
   simp only [Act.put,List.setIfInBounds_toArray,List.set_cons_succ,List.set_cons_zero]
   refine zah (i:=7) (oi:=⟨some 17,.assign (.tmp 104),_,_,_,none⟩) (v:=num (a+q5)) (zaj (by kernel_rfl)) rfl (by kernel_rfl) (by kernel_rfl) (by kernel_rfl) (fun _ _ _ h=>by cases h.1) (zdN rfl) ?_
   simp only [Act.put,List.setIfInBounds_toArray,List.set_cons_succ,List.set_cons_zero]
   refine zbk (by kernel_rfl) (y5) ?_
   have e1:((k+1:Nat):Int) * b1=(k:Int) * b1+b1:=by rw [Int.natCast_add,Int.add_mul];simp
   have e2:((k+1:Nat):Int) * b2=(k:Int) * b2+b2:=by rw [Int.natCast_add,Int.add_mul];simp
   gi_wp2
   refine⟨⟨k+1,a+q5,by omega,by simp,rfl,by rw [e1,e2];have:=HKA.out;omega,fun j hj=>?_,y5⟩,by simp [intOf];omega⟩
   by_cases e:j=k
   ·subst e;exact HS.out
   ·exact HKJ.out j (by omega)
  ·have HEND:=Lib.hid (show a≤0∨k=9 by omega)
   have HFIN:=Lib.hid (HLAW.out _ _ HKA.out.1 HKJ.out hk HEND.out)
   clear hka hb1 hb2
   have hcases:(decide (a > 0)=false)∨(decide (a > 0)=true∧decide ((k:Int)≤8)=false):=by
    by_cases h:a > 0
    ·exact .inr ⟨decide_eq_true h,decide_eq_false (by omega)⟩
    ·exact .inl (decide_eq_false h)
   have oD:=oR
   clear hgo
   rcases hcases with d1 | ⟨d1,d2⟩
   all_goals gi_wp2
   all_goals first | exact absurd ‹some zu=some (Value.bool _)› (by unfold zu;simp) | exact yba d r x y s p pv k w0.heap.size W _ (hOw.trans oR) (HD.out.old (hOw.trans oR)) hs (HG.out.old (hOw.trans oR)) HC.out (by have:=HZ.out;omega) (fun i v h=>CO.out _ oR i v h) (by have:=oR.size;have:=HBL.out;omega) hx hy hk HCS.out HCP.out HFIN.out
end Go.Proofs.YtbbanmifdbeneaaDoor

namespace Go.Proofs.YtbbanmifdbeneaaDoor
open Go.RowKit Go.Con Go.Conc
local instance pnI4:Lone:=zcG
theorem zjZ (v:Value) (t:Array Value) (h:t[12]?=some v) (σ:Rn):ResultsC Tryd.prog Tryd.f3 (t.map (ren σ)) (ren σ v):=by
 have:=resultsC_tmp (P:=Tryd.prog) (fn:=Tryd.f3) (t:=12) rfl (t.map (ren σ))
 simp only [Array.getD_eq_getD_getElem?,Array.getElem?_map,h,Option.map_some,Option.getD_some] at this
 exact this
theorem ybk (E Fz Arg:Nat→Prop) (W0:World) (hArg:∀ x,Arg x↔x<W0.heap.size) (Post:Value→World→Prop) (φ:Ph) (d:Dit) (r:zaR) (a1 a2 b1 b2 x y:Int) (pv:Value) (ps:List Int) (W:World) (hd:DitSl W d r) (hb:d.Big) (hg:Glob W) (hx:0≤x∧x≤255) (hy:0≤y∧y≤65535) (hps:Sl W pv 1 (ps.map fun x=>[Value.int .u16 x])) (hpb:∀ x∈ps,0≤x∧x≤65535) (hpl:ps.length≤281474976710656)
  (hPost:∀ Fz1 ρ D own A fr W1 W',Here Tryd.prog true E Fz1 Arg W0 ρ D own A fr [] W1 W'→Post (ren ρ (.bool true)) W') :
  GoM Tryd.prog true E Fz Arg W0 (AtEnd Tryd.prog Post) φ [] (Fr 3 #[d.val r,.agg #[num a1,num a2],.agg #[num b1,num b2],.int .u8 x,.int .u16 y,pv,zu,zu,zu,zu,zu,zu,zu,zu,zu,zu,zu,zu,zu,zu,zu,zu,zu,zu,zu,zu,zu,zu,zu,zu,zu,zu,zu,zu,zu,zu,zu,zu,zu,zu,zu,zu,zu,zu,zu,zu,zu,zu,zu,zu,zu,zu,zu,zu,zu,zu,zu,zu,zu,zu,zu,zu,zu,zu,zu,zu,zu,zu,zu,zu,zu,zu,zu,zu,zu,zu,zu,zu,zu,zu,zu,zu,zu,zu,zu,zu,zu,zu,zu,zu,zu,zu,zu,zu,zu,zu,zu,zu,zu,zu,zu,zu,zu,zu,zu,zu,zu,zu,zu,zu,zu,zu,zu,zu,zu,zu,zu,zu,zu,zu,zu,zu,zu,zu,zu,zu,zu,zu,zu,zu,zu,zu,zu,zu,zu,zu,zu,zu,zu,zu,zu,zu,zu,zu,zu,zu,zu,zu,zu,zu,zu,zu,zu,zu,zu,zu,zu,zu,zu,zu,zu,zu,zu,zu,zu,zu,zu,zu,zu,zu,zu,zu,zu,zu,zu,zu,zu,zu] [.code yaa]) [] W:=by
 have hgood:zaL Tryd.prog (.func 3)=false:=by kernel_rfl
 have hL:=ybb d r a1 a2 b1 b2 x y pv ps W hd hb hg hx hy hps hpb hpl
 rw [ybi]
 refine Gm.seq ?_
 refine Gm.lone (F:=FG 3) _ rfl rfl rfl (List.mem_cons_self ..) (zdr 3 hgood) (by kernel_rfl) (by kernel_rfl) hL ?_
 clear hL
 intro t0 V0 hL
 refine Gm.seq (Gm.seq ?_)
 refine Gm.lone (F:=FG 3) _ rfl rfl rfl (List.mem_cons_self ..) (zdr 3 hgood) (by kernel_rfl) (by kernel_rfl) hL ?_
 clear hL
 rintro t W1 ⟨hO1,hs,h38 | ⟨h38,hL⟩⟩
 ·refine Gm.cond (b:=true) (zaf h38) rfl ?_
  refine Gm.seq ?_
  rw [ybu]
  refine Gm.region ?_
  rw [show List.range oprs2.size=[0,1] by kernel_rfl]
  refine Gm.enter (o:=⟨some 39,.call { callee:=.value (.func 7),args:=#[],argTypes:=#[] },_,_,_,none⟩) (c:={ callee:=.value (.func 7),args:=#[],argTypes:=#[] }) rfl rfl rfl rfl (by kernel_rfl) Tryd.func7 ziv (by kernel_rfl) ?_
  rw [fr20]
  refine zka E _ Arg W0 hArg _ _ _ _ _ (hg.old hO1) ?_
  intro WL FzL φL hOL
  rw [zbs (o:=⟨some 39,.call { callee:=.value (.func 7),args:=#[],argTypes:=#[] },_,_,_,none⟩) rfl]
  refine Gm.op (o:=⟨some 12,.assign (.tmp 39),_,_,_,none⟩) (.bool true) WL rfl rfl (by kernel_rfl) rfl (zl7 _ (zaf (by simp only [zaC,zay,zax,hs,ne_eq,Nat.reduceEqDiff,not_false_eq_true,Nat.reduceLT]))) id ?_
  refine Gm.regionEnd ?_
  refine Gm.done Tryd.func3 (by kernel_rfl) (zjZ (.bool true) _ (by simp only [zaC,zay,zax,hs,ne_eq,Nat.reduceEqDiff,not_false_eq_true,Nat.reduceLT])) ?_
  exact fun ρ D own A fr W' h=>hPost _ ρ D own A fr _ W' h
 ·refine Gm.cond (b:=false) (zaf h38) rfl ?_
  refine Gm.skip ?_
  refine Gm.seq ?_
  refine Gm.lone (F:=FG 3) _ rfl rfl rfl (List.mem_cons_self ..) (zdr 3 hgood) (by kernel_rfl) (by kernel_rfl) hL ?_
  clear hL
  intro t3 V3 hL
  refine Gm.seq (Gm.seq ?_)
  refine Gm.lone (F:=FG 3) _ rfl rfl rfl (List.mem_cons_self ..) (zdr 3 hgood) (by kernel_rfl) (by kernel_rfl) hL ?_
  clear hL
  clear hO1 hs h38
  rintro t W2 ⟨hO2,hs,⟨h48,k13,k14⟩ | ⟨h48,hL⟩⟩
  ·refine Gm.cond (b:=true) (zaf h48) rfl ?_
   refine Gm.seq ?_
   rw [ybv]
   refine Gm.region ?_
   rw [show List.range oprs5.size=[0,1,2,3,4,5,6,7,8,9] by kernel_rfl]
   refine Gm.op (o:=⟨some 49,.move (.tmp 13),_,_,_,none⟩) (num 0) W2 rfl rfl (by kernel_rfl) rfl (zdB _ (zaf (by simp only [zaC,zay,zax,hs,k13,k14,ne_eq,Nat.reduceEqDiff,not_false_eq_true,Nat.reduceLT]))) id ?_
   refine Gm.op (o:=⟨some 50,.binOp .eql 3 (.tmp 49) (.const (.int .i64 0)) 3,_,_,_,none⟩) (.bool true) W2 rfl rfl (by kernel_rfl) rfl (yay (n:=0) _ (zaf (by simp only [zaC,zay,zax,hs,k13,k14,ne_eq,Nat.reduceEqDiff,not_false_eq_true,Nat.reduceLT])) rfl) id ?_
   refine Gm.op (o:=⟨some 51,.move (.tmp 50),_,_,_,none⟩) (.bool true) W2 rfl rfl (by kernel_rfl) rfl (zdB _ (zaf (by simp only [zaC,zay,zax,hs,k13,k14,ne_eq,Nat.reduceEqDiff,not_false_eq_true,Nat.reduceLT]))) id ?_
   refine Gm.op (o:=⟨some 52,.move (.tmp 14),_,_,_,some (2,true)⟩) (num 0) W2 rfl (zbI (i:=2) (b:=true) (d:=51) rfl rfl (by simp only [zaC,zay,zax,hs,k13,k14,ne_eq,Nat.reduceEqDiff,not_false_eq_true,Nat.reduceLT])) (by kernel_rfl) rfl (zdB _ (zaf (by simp only [zaC,zay,zax,hs,k13,k14,ne_eq,Nat.reduceEqDiff,not_false_eq_true,Nat.reduceLT]))) id ?_
   refine Gm.op (o:=⟨some 53,.binOp .eql 3 (.tmp 52) (.const (.int .i64 0)) 3,_,_,_,some (2,true)⟩) (.bool true) W2 rfl (zbI (i:=2) (b:=true) (d:=51) rfl rfl (by simp only [zaC,zay,zax,hs,k13,k14,ne_eq,Nat.reduceEqDiff,not_false_eq_true,Nat.reduceLT])) (by kernel_rfl) rfl (yay (n:=0) _ (zaf (by simp only [zaC,zay,zax,hs,k13,k14,ne_eq,Nat.reduceEqDiff,not_false_eq_true,Nat.reduceLT])) rfl) id ?_
   refine Gm.op (o:=⟨some 54,.pick (.tmp 51) (.tmp 53) (.const (.bool false)),_,_,_,none⟩) (.bool true) W2 rfl rfl (by kernel_rfl) rfl (zhJ _ (zaf (by simp only [zaC,zay,zax,hs,k13,k14,ne_eq,Nat.reduceEqDiff,not_false_eq_true,Nat.reduceLT])) (zaf (by simp only [zaC,zay,zax,hs,k13,k14,ne_eq,Nat.reduceEqDiff,not_false_eq_true,Nat.reduceLT]))) id ?_
   refine Gm.op (o:=⟨some 55,.move (.tmp 54),_,_,_,none⟩) (.bool true) W2 rfl rfl (by kernel_rfl) rfl (zdB _ (zaf (by simp only [zaC,zay,zax,hs,k13,k14,ne_eq,Nat.reduceEqDiff,not_false_eq_true,Nat.reduceLT]))) id ?_
   refine Gm.enter (o:=⟨some 56,.call { callee:=.value (.func 7),args:=#[],argTypes:=#[] },_,_,_,some (6,true)⟩) (c:={ callee:=.value (.func 7),args:=#[],argTypes:=#[] }) rfl (zbI (i:=6) (b:=true) (d:=55) rfl rfl (by simp only [zaC,zay,zax,hs,k13,k14,ne_eq,Nat.reduceEqDiff,not_false_eq_true,Nat.reduceLT])) rfl rfl (by kernel_rfl) Tryd.func7 ziv (by kernel_rfl) ?_
   rw [fr20]
   refine zka E _ Arg W0 hArg _ _ _ _ _ (hg.old hO2) ?_
   intro WL FzL φL hOL
   rw [zbs (o:=⟨some 56,.call { callee:=.value (.func 7),args:=#[],argTypes:=#[] },_,_,_,some (6,true)⟩) rfl]
   refine Gm.op (o:=⟨some 57,.pick (.tmp 55) (.tmp 56) (.const (.bool false)),_,_,_,none⟩) (.bool true) WL rfl rfl (by kernel_rfl) rfl (zhJ _ (zaf (by simp only [zaC,zay,zax,hs,k13,k14,ne_eq,Nat.reduceEqDiff,not_false_eq_true,Nat.reduceLT])) (zaf (by simp only [zaC,zay,zax,hs,k13,k14,ne_eq,Nat.reduceEqDiff,not_false_eq_true,Nat.reduceLT]))) id ?_
   refine Gm.op (o:=⟨some 12,.assign (.tmp 57),_,_,_,none⟩) (.bool true) WL rfl rfl (by kernel_rfl) rfl (zl7 _ (zaf (by simp only [zaC,zay,zax,hs,k13,k14,ne_eq,Nat.reduceEqDiff,not_false_eq_true,Nat.reduceLT]))) id ?_
   refine Gm.regionEnd ?_
   refine Gm.done Tryd.func3 (by kernel_rfl) (zjZ (.bool true) _ (by simp only [zaC,zay,zax,hs,k13,k14,ne_eq,Nat.reduceEqDiff,not_false_eq_true,Nat.reduceLT])) ?_
   exact fun ρ D own A fr W' h=>hPost _ ρ D own A fr _ W' h
  ·refine Gm.cond (b:=false) (zaf h48) rfl ?_
   refine Gm.skip ?_
   refine Gm.seq ?_
   refine Gm.lone (F:=FG 3) _ rfl rfl rfl (List.mem_cons_self ..) (zdr 3 hgood) (by kernel_rfl) (by kernel_rfl) hL ?_
   clear hL
   intro t6 V6 hL
   refine Gm.seq ?_
   refine Gm.lone (F:=FG 3) _ rfl rfl rfl (List.mem_cons_self ..) (zdr 3 hgood) (by kernel_rfl) (by kernel_rfl) hL ?_
   clear hL
   intro t8 V8 hL
   refine Gm.seq ?_
   refine Gm.lone (F:=FG 3) _ rfl rfl rfl (List.mem_cons_self ..) (zdr 3 hgood) (by kernel_rfl) (by kernel_rfl) hL ?_
   clear hL
   intro t9 V9 hL
   refine Gm.seq ?_
   refine Gm.lone (F:=FG 3) _ rfl rfl rfl (List.mem_cons_self ..) (zdr 3 hgood) (by kernel_rfl) (by kernel_rfl) hL ?_
   clear hL
   intro t10 V10 hL
   refine Gm.seq ?_
   refine Gm.lone (F:=FG 3) _ rfl rfl rfl (List.mem_cons_self ..) (zdr 3 hgood) (by kernel_rfl) (by kernel_rfl) hL ?_
   clear hL
   intro t13 V13 hL
   refine Gm.seq ?_
   refine Gm.lone (F:=FG 3) _ rfl rfl rfl (List.mem_cons_self ..) (zdr 3 hgood) (by kernel_rfl) (by kernel_rfl) hL ?_
   clear hL
   intro t15 V15 hL
   refine Gm.seq ?_
   refine Gm.lone (F:=FG 3) _ rfl rfl rfl (List.mem_cons_self ..) (zdr 3 hgood) (by kernel_rfl) (by kernel_rfl) hL ?_
   clear hL
   intro t17 V17 hL
   refine Gm.seq ?_
   refine Gm.lone (F:=FG 3) _ rfl rfl rfl (List.mem_cons_self ..) (zdr 3 hgood) (by kernel_rfl) (by kernel_rfl) hL ?_
   clear hL
   intro t18 V18 hL
   refine Gm.seq ?_
   refine Gm.lone (F:=FG 3) _ rfl rfl rfl (List.mem_cons_self ..) (zdr 3 hgood) (by kernel_rfl) (by kernel_rfl) hL ?_
   clear hL
   intro t19 V19 hL
   refine Gm.seq ?_
   refine Gm.lone (F:=FG 3) _ rfl rfl rfl (List.mem_cons_self ..) (zdr 3 hgood) (by kernel_rfl) (by kernel_rfl) hL ?_
   clear hL
   clear hO2 hs h48
   rintro t W3 ⟨hO3,p,k,s,a,b,c,⟨q1,q2,q3,q4⟩,hs,k15,k22,k24,k14,k16,k13,k20,k21,k23⟩
   refine Gm.seq ?_
   rw [ybt]
   refine Gm.region ?_
   rw [show List.range oprs21.size=[0,1,2,3,4,5,6,7,8,9,10,11,12,13,14,15,16,17,18,19,20,21,22,23,24,25,26,27,28,29,30,31,32,33] by kernel_rfl]
   refine Gm.op (o:=⟨some 145,.move (.tmp 15),_,_,_,none⟩) (num 0) W3 rfl rfl (by kernel_rfl) rfl (zdB _ (zaf (by simp only [zaC,zay,zax,hs,k15,k22,k24,k14,k16,k13,k20,k21,k23,ne_eq,Nat.reduceEqDiff,not_false_eq_true,Nat.reduceLT]))) id ?_
   refine Gm.op (o:=⟨some 146,.binOp .eql 38 (.tmp 145) (.const (.int .i64 0)) 38,_,_,_,none⟩) (.bool true) W3 rfl rfl (by kernel_rfl) rfl (yas (n:=0) _ (zaf (by simp only [zaC,zay,zax,hs,k15,k22,k24,k14,k16,k13,k20,k21,k23,ne_eq,Nat.reduceEqDiff,not_false_eq_true,Nat.reduceLT])) rfl) id ?_
   refine Gm.op (o:=⟨some 147,.move (.tmp 146),_,_,_,none⟩) (.bool true) W3 rfl rfl (by kernel_rfl) rfl (zdB _ (zaf (by simp only [zaC,zay,zax,hs,k15,k22,k24,k14,k16,k13,k20,k21,k23,ne_eq,Nat.reduceEqDiff,not_false_eq_true,Nat.reduceLT]))) id ?_
   refine Gm.op (o:=⟨some 148,.move (.tmp 22),_,_,_,some (2,true)⟩) (num 0) W3 rfl (zbI (i:=2) (b:=true) (d:=147) rfl rfl (by simp only [zaC,zay,zax,hs,k15,k22,k24,k14,k16,k13,k20,k21,k23,ne_eq,Nat.reduceEqDiff,not_false_eq_true,Nat.reduceLT])) (by kernel_rfl) rfl (zdB _ (zaf (by simp only [zaC,zay,zax,hs,k15,k22,k24,k14,k16,k13,k20,k21,k23,ne_eq,Nat.reduceEqDiff,not_false_eq_true,Nat.reduceLT]))) id ?_
   refine Gm.op (o:=⟨some 149,.binOp .eql 38 (.tmp 148) (.const (.int .i64 0)) 38,_,_,_,some (2,true)⟩) (.bool true) W3 rfl (zbI (i:=2) (b:=true) (d:=147) rfl rfl (by simp only [zaC,zay,zax,hs,k15,k22,k24,k14,k16,k13,k20,k21,k23,ne_eq,Nat.reduceEqDiff,not_false_eq_true,Nat.reduceLT])) (by kernel_rfl) rfl (yas (n:=0) _ (zaf (by simp only [zaC,zay,zax,hs,k15,k22,k24,k14,k16,k13,k20,k21,k23,ne_eq,Nat.reduceEqDiff,not_false_eq_true,Nat.reduceLT])) rfl) id ?_
   refine Gm.op (o:=⟨some 150,.pick (.tmp 147) (.tmp 149) (.const (.bool false)),_,_,_,none⟩) (.bool true) W3 rfl rfl (by kernel_rfl) rfl (zhJ _ (zaf (by simp only [zaC,zay,zax,hs,k15,k22,k24,k14,k16,k13,k20,k21,k23,ne_eq,Nat.reduceEqDiff,not_false_eq_true,Nat.reduceLT])) (zaf (by simp only [zaC,zay,zax,hs,k15,k22,k24,k14,k16,k13,k20,k21,k23,ne_eq,Nat.reduceEqDiff,not_false_eq_true,Nat.reduceLT]))) id ?_
   refine Gm.op (o:=⟨some 151,.move (.tmp 150),_,_,_,none⟩) (.bool true) W3 rfl rfl (by kernel_rfl) rfl (zdB _ (zaf (by simp only [zaC,zay,zax,hs,k15,k22,k24,k14,k16,k13,k20,k21,k23,ne_eq,Nat.reduceEqDiff,not_false_eq_true,Nat.reduceLT]))) id ?_
   refine Gm.op (o:=⟨some 152,.move (.tmp 24),_,_,_,some (6,true)⟩) (num 0) W3 rfl (zbI (i:=6) (b:=true) (d:=151) rfl rfl (by simp only [zaC,zay,zax,hs,k15,k22,k24,k14,k16,k13,k20,k21,k23,ne_eq,Nat.reduceEqDiff,not_false_eq_true,Nat.reduceLT])) (by kernel_rfl) rfl (zdB _ (zaf (by simp only [zaC,zay,zax,hs,k15,k22,k24,k14,k16,k13,k20,k21,k23,ne_eq,Nat.reduceEqDiff,not_false_eq_true,Nat.reduceLT]))) id ?_
   refine Gm.op (o:=⟨some 153,.binOp .eql 38 (.tmp 152) (.const (.int .i64 0)) 38,_,_,_,some (6,true)⟩) (.bool true) W3 rfl (zbI (i:=6) (b:=true) (d:=151) rfl rfl (by simp only [zaC,zay,zax,hs,k15,k22,k24,k14,k16,k13,k20,k21,k23,ne_eq,Nat.reduceEqDiff,not_false_eq_true,Nat.reduceLT])) (by kernel_rfl) rfl (yas (n:=0) _ (zaf (by simp only [zaC,zay,zax,hs,k15,k22,k24,k14,k16,k13,k20,k21,k23,ne_eq,Nat.reduceEqDiff,not_false_eq_true,Nat.reduceLT])) rfl) id ?_
   refine Gm.op (o:=⟨some 154,.pick (.tmp 151) (.tmp 153) (.const (.bool false)),_,_,_,none⟩) (.bool true) W3 rfl rfl (by kernel_rfl) rfl (zhJ _ (zaf (by simp only [zaC,zay,zax,hs,k15,k22,k24,k14,k16,k13,k20,k21,k23,ne_eq,Nat.reduceEqDiff,not_false_eq_true,Nat.reduceLT])) (zaf (by simp only [zaC,zay,zax,hs,k15,k22,k24,k14,k16,k13,k20,k21,k23,ne_eq,Nat.reduceEqDiff,not_false_eq_true,Nat.reduceLT]))) id ?_
   refine Gm.op (o:=⟨some 155,.move (.tmp 154),_,_,_,none⟩) (.bool true) W3 rfl rfl (by kernel_rfl) rfl (zdB _ (zaf (by simp only [zaC,zay,zax,hs,k15,k22,k24,k14,k16,k13,k20,k21,k23,ne_eq,Nat.reduceEqDiff,not_false_eq_true,Nat.reduceLT]))) id ?_
   refine Gm.op (o:=⟨some 156,.move (.tmp 14),_,_,_,some (10,true)⟩) (num p) W3 rfl (zbI (i:=10) (b:=true) (d:=155) rfl rfl (by simp only [zaC,zay,zax,hs,k15,k22,k24,k14,k16,k13,k20,k21,k23,ne_eq,Nat.reduceEqDiff,not_false_eq_true,Nat.reduceLT])) (by kernel_rfl) rfl (zdB _ (zaf (by simp only [zaC,zay,zax,hs,k15,k22,k24,k14,k16,k13,k20,k21,k23,ne_eq,Nat.reduceEqDiff,not_false_eq_true,Nat.reduceLT]))) id ?_
   refine Gm.op (o:=⟨some 157,.move (.tmp 16),_,_,_,some (10,true)⟩) (num k) W3 rfl (zbI (i:=10) (b:=true) (d:=155) rfl rfl (by simp only [zaC,zay,zax,hs,k15,k22,k24,k14,k16,k13,k20,k21,k23,ne_eq,Nat.reduceEqDiff,not_false_eq_true,Nat.reduceLT])) (by kernel_rfl) rfl (zdB _ (zaf (by simp only [zaC,zay,zax,hs,k15,k22,k24,k14,k16,k13,k20,k21,k23,ne_eq,Nat.reduceEqDiff,not_false_eq_true,Nat.reduceLT]))) id ?_
   refine Gm.op (o:=⟨some 158,.binOp .leq 3 (.tmp 156) (.tmp 157) 3,_,_,_,some (10,true)⟩) (.bool true) W3 rfl (zbI (i:=10) (b:=true) (d:=155) rfl rfl (by simp only [zaC,zay,zax,hs,k15,k22,k24,k14,k16,k13,k20,k21,k23,ne_eq,Nat.reduceEqDiff,not_false_eq_true,Nat.reduceLT])) (by kernel_rfl) rfl (yav (n:=p) (m:=k) _ (zaf (by simp only [zaC,zay,zax,hs,k15,k22,k24,k14,k16,k13,k20,k21,k23,ne_eq,Nat.reduceEqDiff,not_false_eq_true,Nat.reduceLT])) (zaf (by simp only [zaC,zay,zax,hs,k15,k22,k24,k14,k16,k13,k20,k21,k23,ne_eq,Nat.reduceEqDiff,not_false_eq_true,Nat.reduceLT])) (by omega)) id ?_
   refine Gm.op (o:=⟨some 159,.pick (.tmp 155) (.tmp 158) (.const (.bool false)),_,_,_,none⟩) (.bool true) W3 rfl rfl (by kernel_rfl) rfl (zhJ _ (zaf (by simp only [zaC,zay,zax,hs,k15,k22,k24,k14,k16,k13,k20,k21,k23,ne_eq,Nat.reduceEqDiff,not_false_eq_true,Nat.reduceLT])) (zaf (by simp only [zaC,zay,zax,hs,k15,k22,k24,k14,k16,k13,k20,k21,k23,ne_eq,Nat.reduceEqDiff,not_false_eq_true,Nat.reduceLT]))) id ?_
   refine Gm.op (o:=⟨some 160,.move (.tmp 159),_,_,_,none⟩) (.bool true) W3 rfl rfl (by kernel_rfl) rfl (zdB _ (zaf (by simp only [zaC,zay,zax,hs,k15,k22,k24,k14,k16,k13,k20,k21,k23,ne_eq,Nat.reduceEqDiff,not_false_eq_true,Nat.reduceLT]))) id ?_
   refine Gm.op (o:=⟨some 161,.move (.tmp 16),_,_,_,some (15,true)⟩) (num k) W3 rfl (zbI (i:=15) (b:=true) (d:=160) rfl rfl (by simp only [zaC,zay,zax,hs,k15,k22,k24,k14,k16,k13,k20,k21,k23,ne_eq,Nat.reduceEqDiff,not_false_eq_true,Nat.reduceLT])) (by kernel_rfl) rfl (zdB _ (zaf (by simp only [zaC,zay,zax,hs,k15,k22,k24,k14,k16,k13,k20,k21,k23,ne_eq,Nat.reduceEqDiff,not_false_eq_true,Nat.reduceLT]))) id ?_
   refine Gm.op (o:=⟨some 162,.move (.tmp 13),_,_,_,some (15,true)⟩) (num s) W3 rfl (zbI (i:=15) (b:=true) (d:=160) rfl rfl (by simp only [zaC,zay,zax,hs,k15,k22,k24,k14,k16,k13,k20,k21,k23,ne_eq,Nat.reduceEqDiff,not_false_eq_true,Nat.reduceLT])) (by kernel_rfl) rfl (zdB _ (zaf (by simp only [zaC,zay,zax,hs,k15,k22,k24,k14,k16,k13,k20,k21,k23,ne_eq,Nat.reduceEqDiff,not_false_eq_true,Nat.reduceLT]))) id ?_
   refine Gm.op (o:=⟨some 163,.binOp .leq 3 (.tmp 161) (.tmp 162) 3,_,_,_,some (15,true)⟩) (.bool true) W3 rfl (zbI (i:=15) (b:=true) (d:=160) rfl rfl (by simp only [zaC,zay,zax,hs,k15,k22,k24,k14,k16,k13,k20,k21,k23,ne_eq,Nat.reduceEqDiff,not_false_eq_true,Nat.reduceLT])) (by kernel_rfl) rfl (yav (n:=k) (m:=s) _ (zaf (by simp only [zaC,zay,zax,hs,k15,k22,k24,k14,k16,k13,k20,k21,k23,ne_eq,Nat.reduceEqDiff,not_false_eq_true,Nat.reduceLT])) (zaf (by simp only [zaC,zay,zax,hs,k15,k22,k24,k14,k16,k13,k20,k21,k23,ne_eq,Nat.reduceEqDiff,not_false_eq_true,Nat.reduceLT])) (by omega)) id ?_
   refine Gm.op (o:=⟨some 164,.pick (.tmp 160) (.tmp 163) (.const (.bool false)),_,_,_,none⟩) (.bool true) W3 rfl rfl (by kernel_rfl) rfl (zhJ _ (zaf (by simp only [zaC,zay,zax,hs,k15,k22,k24,k14,k16,k13,k20,k21,k23,ne_eq,Nat.reduceEqDiff,not_false_eq_true,Nat.reduceLT])) (zaf (by simp only [zaC,zay,zax,hs,k15,k22,k24,k14,k16,k13,k20,k21,k23,ne_eq,Nat.reduceEqDiff,not_false_eq_true,Nat.reduceLT]))) id ?_
   refine Gm.op (o:=⟨some 165,.move (.tmp 164),_,_,_,none⟩) (.bool true) W3 rfl rfl (by kernel_rfl) rfl (zdB _ (zaf (by simp only [zaC,zay,zax,hs,k15,k22,k24,k14,k16,k13,k20,k21,k23,ne_eq,Nat.reduceEqDiff,not_false_eq_true,Nat.reduceLT]))) id ?_
   refine Gm.op (o:=⟨some 166,.move (.tmp 20),_,_,_,some (20,true)⟩) (num a) W3 rfl (zbI (i:=20) (b:=true) (d:=165) rfl rfl (by simp only [zaC,zay,zax,hs,k15,k22,k24,k14,k16,k13,k20,k21,k23,ne_eq,Nat.reduceEqDiff,not_false_eq_true,Nat.reduceLT])) (by kernel_rfl) rfl (zdB _ (zaf (by simp only [zaC,zay,zax,hs,k15,k22,k24,k14,k16,k13,k20,k21,k23,ne_eq,Nat.reduceEqDiff,not_false_eq_true,Nat.reduceLT]))) id ?_
   refine Gm.op (o:=⟨some 167,.move (.tmp 21),_,_,_,some (20,true)⟩) (num b) W3 rfl (zbI (i:=20) (b:=true) (d:=165) rfl rfl (by simp only [zaC,zay,zax,hs,k15,k22,k24,k14,k16,k13,k20,k21,k23,ne_eq,Nat.reduceEqDiff,not_false_eq_true,Nat.reduceLT])) (by kernel_rfl) rfl (zdB _ (zaf (by simp only [zaC,zay,zax,hs,k15,k22,k24,k14,k16,k13,k20,k21,k23,ne_eq,Nat.reduceEqDiff,not_false_eq_true,Nat.reduceLT]))) id ?_
   refine Gm.op (o:=⟨some 168,.binOp .leq 3 (.tmp 166) (.tmp 167) 3,_,_,_,some (20,true)⟩) (.bool true) W3 rfl (zbI (i:=20) (b:=true) (d:=165) rfl rfl (by simp only [zaC,zay,zax,hs,k15,k22,k24,k14,k16,k13,k20,k21,k23,ne_eq,Nat.reduceEqDiff,not_false_eq_true,Nat.reduceLT])) (by kernel_rfl) rfl (yav (n:=a) (m:=b) _ (zaf (by simp only [zaC,zay,zax,hs,k15,k22,k24,k14,k16,k13,k20,k21,k23,ne_eq,Nat.reduceEqDiff,not_false_eq_true,Nat.reduceLT])) (zaf (by simp only [zaC,zay,zax,hs,k15,k22,k24,k14,k16,k13,k20,k21,k23,ne_eq,Nat.reduceEqDiff,not_false_eq_true,Nat.reduceLT])) (by omega)) id ?_
   refine Gm.op (o:=⟨some 169,.pick (.tmp 165) (.tmp 168) (.const (.bool false)),_,_,_,none⟩) (.bool true) W3 rfl rfl (by kernel_rfl) rfl (zhJ _ (zaf (by simp only [zaC,zay,zax,hs,k15,k22,k24,k14,k16,k13,k20,k21,k23,ne_eq,Nat.reduceEqDiff,not_false_eq_true,Nat.reduceLT])) (zaf (by simp only [zaC,zay,zax,hs,k15,k22,k24,k14,k16,k13,k20,k21,k23,ne_eq,Nat.reduceEqDiff,not_false_eq_true,Nat.reduceLT]))) id ?_
   refine Gm.op (o:=⟨some 170,.move (.tmp 169),_,_,_,none⟩) (.bool true) W3 rfl rfl (by kernel_rfl) rfl (zdB _ (zaf (by simp only [zaC,zay,zax,hs,k15,k22,k24,k14,k16,k13,k20,k21,k23,ne_eq,Nat.reduceEqDiff,not_false_eq_true,Nat.reduceLT]))) id ?_
   refine Gm.op (o:=⟨some 171,.move (.tmp 21),_,_,_,some (25,true)⟩) (num b) W3 rfl (zbI (i:=25) (b:=true) (d:=170) rfl rfl (by simp only [zaC,zay,zax,hs,k15,k22,k24,k14,k16,k13,k20,k21,k23,ne_eq,Nat.reduceEqDiff,not_false_eq_true,Nat.reduceLT])) (by kernel_rfl) rfl (zdB _ (zaf (by simp only [zaC,zay,zax,hs,k15,k22,k24,k14,k16,k13,k20,k21,k23,ne_eq,Nat.reduceEqDiff,not_false_eq_true,Nat.reduceLT]))) id ?_
   refine Gm.op (o:=⟨some 172,.move (.tmp 23),_,_,_,some (25,true)⟩) (num c) W3 rfl (zbI (i:=25) (b:=true) (d:=170) rfl rfl (by simp only [zaC,zay,zax,hs,k15,k22,k24,k14,k16,k13,k20,k21,k23,ne_eq,Nat.reduceEqDiff,not_false_eq_true,Nat.reduceLT])) (by kernel_rfl) rfl (zdB _ (zaf (by simp only [zaC,zay,zax,hs,k15,k22,k24,k14,k16,k13,k20,k21,k23,ne_eq,Nat.reduceEqDiff,not_false_eq_true,Nat.reduceLT]))) id ?_
   refine Gm.op (o:=⟨some 173,.binOp .leq 3 (.tmp 171) (.tmp 172) 3,_,_,_,some (25,true)⟩) (.bool true) W3 rfl (zbI (i:=25) (b:=true) (d:=170) rfl rfl (by simp only [zaC,zay,zax,hs,k15,k22,k24,k14,k16,k13,k20,k21,k23,ne_eq,Nat.reduceEqDiff,not_false_eq_true,Nat.reduceLT])) (by kernel_rfl) rfl (yav (n:=b) (m:=c) _ (zaf (by simp only [zaC,zay,zax,hs,k15,k22,k24,k14,k16,k13,k20,k21,k23,ne_eq,Nat.reduceEqDiff,not_false_eq_true,Nat.reduceLT])) (zaf (by simp only [zaC,zay,zax,hs,k15,k22,k24,k14,k16,k13,k20,k21,k23,ne_eq,Nat.reduceEqDiff,not_false_eq_true,Nat.reduceLT])) (by omega)) id ?_
   refine Gm.op (o:=⟨some 174,.pick (.tmp 170) (.tmp 173) (.const (.bool false)),_,_,_,none⟩) (.bool true) W3 rfl rfl (by kernel_rfl) rfl (zhJ _ (zaf (by simp only [zaC,zay,zax,hs,k15,k22,k24,k14,k16,k13,k20,k21,k23,ne_eq,Nat.reduceEqDiff,not_false_eq_true,Nat.reduceLT])) (zaf (by simp only [zaC,zay,zax,hs,k15,k22,k24,k14,k16,k13,k20,k21,k23,ne_eq,Nat.reduceEqDiff,not_false_eq_true,Nat.reduceLT]))) id ?_
   refine Gm.op (o:=⟨some 175,.move (.tmp 174),_,_,_,none⟩) (.bool true) W3 rfl rfl (by kernel_rfl) rfl (zdB _ (zaf (by simp only [zaC,zay,zax,hs,k15,k22,k24,k14,k16,k13,k20,k21,k23,ne_eq,Nat.reduceEqDiff,not_false_eq_true,Nat.reduceLT]))) id ?_
   refine Gm.enter (o:=⟨some 176,.call { callee:=.value (.func 7),args:=#[],argTypes:=#[] },_,_,_,some (30,true)⟩) (c:={ callee:=.value (.func 7),args:=#[],argTypes:=#[] }) rfl (zbI (i:=30) (b:=true) (d:=175) rfl rfl (by simp only [zaC,zay,zax,hs,k15,k22,k24,k14,k16,k13,k20,k21,k23,ne_eq,Nat.reduceEqDiff,not_false_eq_true,Nat.reduceLT])) rfl rfl (by kernel_rfl) Tryd.func7 ziv (by kernel_rfl) ?_
   rw [fr20]
   refine zka E _ Arg W0 hArg _ _ _ _ _ (hg.old hO3) ?_
   intro WL FzL φL hOL
   rw [zbs (o:=⟨some 176,.call { callee:=.value (.func 7),args:=#[],argTypes:=#[] },_,_,_,some (30,true)⟩) rfl]
   refine Gm.op (o:=⟨some 177,.pick (.tmp 175) (.tmp 176) (.const (.bool false)),_,_,_,none⟩) (.bool true) WL rfl rfl (by kernel_rfl) rfl (zhJ _ (zaf (by simp only [zaC,zay,zax,hs,k15,k22,k24,k14,k16,k13,k20,k21,k23,ne_eq,Nat.reduceEqDiff,not_false_eq_true,Nat.reduceLT])) (zaf (by simp only [zaC,zay,zax,hs,k15,k22,k24,k14,k16,k13,k20,k21,k23,ne_eq,Nat.reduceEqDiff,not_false_eq_true,Nat.reduceLT]))) id ?_
   refine Gm.op (o:=⟨some 12,.assign (.tmp 177),_,_,_,none⟩) (.bool true) WL rfl rfl (by kernel_rfl) rfl (zl7 _ (zaf (by simp only [zaC,zay,zax,hs,k15,k22,k24,k14,k16,k13,k20,k21,k23,ne_eq,Nat.reduceEqDiff,not_false_eq_true,Nat.reduceLT]))) id ?_
   refine Gm.regionEnd ?_
   refine Gm.done Tryd.func3 (by kernel_rfl) (zjZ (.bool true) _ (by simp only [zaC,zay,zax,hs,k15,k22,k24,k14,k16,k13,k20,k21,k23,ne_eq,Nat.reduceEqDiff,not_false_eq_true,Nat.reduceLT])) ?_
   exact fun ρ D own A fr W' h=>hPost _ ρ D own A fr _ W' h
end Go.Proofs.YtbbanmifdbeneaaDoor

namespace Go.Proofs.YtbbanmifdbeneaaDoor
open Go.RowKit Go.Con Go.Conc Go.ChangeShapes Go.WideShapes Go.ChangeAt
local instance pnI5:Lone:=zcG
section
variable {H:Type} {enc:TypeId×Value→H} {P:Program} {w:World} {base:Nat} {spare:Nat→Bool} {held:Bool}
theorem ya3 {t0 t1 t2 t3 t4 t5:TypeId} {args:Array Value} {ds:List (DataW H)} {ps:List MemPlace} (h:DataW.TrodAll enc P w base spare held [t0,t1,t2,t3,t4,t5] args.toList ds ps) :
  ∃ v0 v1 v2 v3 v4 v5 d0 d1 d2 d3 d4 d5 p0 p1 p2 p3 p4 p5,args=#[v0,v1,v2,v3,v4,v5]∧ds=[d0,d1,d2,d3,d4,d5]∧ps=p0++p1++p2++p3++p4++p5∧DataW.Trod enc P w base spare held t0 v0 d0 p0∧DataW.Trod enc P w base spare held t1 v1 d1 p1∧DataW.Trod enc P w base spare held t2 v2 d2 p2∧DataW.Trod enc P w base spare held t3 v3 d3 p3∧DataW.Trod enc P w base spare held t4 v4 d4 p4∧DataW.Trod enc P w base spare held t5 v5 d5 p5:=by
 obtain⟨v0,vs0,d0,ds0,p0,q0,hargs,rfl,rfl,hd0,hr0⟩:=trodAll_cons h
 obtain⟨v1,vs1,d1,ds1,p1,q1,rfl,rfl,rfl,hd1,hr1⟩:=trodAll_cons hr0
 obtain⟨v2,vs2,d2,ds2,p2,q2,rfl,rfl,rfl,hd2,hr2⟩:=trodAll_cons hr1
 obtain⟨v3,vs3,d3,ds3,p3,q3,rfl,rfl,rfl,hd3,hr3⟩:=trodAll_cons hr2
 obtain⟨v4,vs4,d4,ds4,p4,q4,rfl,rfl,rfl,hd4,hr4⟩:=trodAll_cons hr3
 obtain⟨v5,vs5,d5,ds5,p5,q5,rfl,rfl,rfl,hd5,hr5⟩:=trodAll_cons hr4
 obtain⟨rfl,rfl,rfl⟩:=trodAll_nil hr5
 exact⟨v0,v1,v2,v3,v4,v5,d0,d1,d2,d3,d4,d5,p0,p1,p2,p3,p4,p5,by cases args;simp_all,rfl,by simp,hd0,hd1,hd2,hd3,hd4,hd5⟩
theorem ya4 {t0 t1 t2 t3 t4 t5:TypeId} {v0 v1 v2 v3 v4 v5:Value} {d0 d1 d2 d3 d4 d5:DataW H} {p0 p1 p2 p3 p4 p5:List MemPlace} (h0:DataW.Trod enc P w base spare held t0 v0 d0 p0) (h1:DataW.Trod enc P w base spare held t1 v1 d1 p1) (h2:DataW.Trod enc P w base spare held t2 v2 d2 p2) (h3:DataW.Trod enc P w base spare held t3 v3 d3 p3) (h4:DataW.Trod enc P w base spare held t4 v4 d4 p4) (h5:DataW.Trod enc P w base spare held t5 v5 d5 p5):DataW.TrodAll enc P w base spare held [t0,t1,t2,t3,t4,t5] [v0,v1,v2,v3,v4,v5] [d0,d1,d2,d3,d4,d5] (p0++(p1++(p2++(p3++(p4++(p5)))))):=⟨p0,p1++(p2++(p3++(p4++(p5)))),h0,ya1 h1 h2 h3 h4 h5,rfl⟩
end
theorem fr3 (a0 a1 a2 a3 a4 a5:Value):#[a0,a1,a2,a3,a4,a5]++Array.replicate (Tryd.f3.ntmps-(#[a0,a1,a2,a3,a4,a5]:Array Value).size) zu=#[a0,a1,a2,a3,a4,a5,zu,zu,zu,zu,zu,zu,zu,zu,zu,zu,zu,zu,zu,zu,zu,zu,zu,zu,zu,zu,zu,zu,zu,zu,zu,zu,zu,zu,zu,zu,zu,zu,zu,zu,zu,zu,zu,zu,zu,zu,zu,zu,zu,zu,zu,zu,zu,zu,zu,zu,zu,zu,zu,zu,zu,zu,zu,zu,zu,zu,zu,zu,zu,zu,zu,zu,zu,zu,zu,zu,zu,zu,zu,zu,zu,zu,zu,zu,zu,zu,zu,zu,zu,zu,zu,zu,zu,zu,zu,zu,zu,zu,zu,zu,zu,zu,zu,zu,zu,zu,zu,zu,zu,zu,zu,zu,zu,zu,zu,zu,zu,zu,zu,zu,zu,zu,zu,zu,zu,zu,zu,zu,zu,zu,zu,zu,zu,zu,zu,zu,zu,zu,zu,zu,zu,zu,zu,zu,zu,zu,zu,zu,zu,zu,zu,zu,zu,zu,zu,zu,zu,zu,zu,zu,zu,zu,zu,zu,zu,zu,zu,zu,zu,zu,zu,zu,zu,zu,zu,zu,zu,zu]:=by
 simp only [Tryd.ntmps3,List.size_toArray,List.length_cons,List.length_nil,Nat.reduceAdd,Nat.reduceSub,Array.replicate_succ,Array.replicate_zero,List.push_toArray,List.append_toArray,List.nil_append,List.cons_append]
theorem ybg (d:Dit) (r:zaR) (a1 a2:Int) (b1 b2:Int) (x3:Int) (x4:Int) (pv:Value) (ps:List Int) (W:World) (hd:DitSl W d r) (hb:d.Big) (hg:Glob W) (hx3:(0≤x3∧x3≤255)) (hx4:(0≤x4∧x4≤65535)) (hsp:(∃ a n k,pv=.slice a n k)) (hps:(Sl W pv 1 (ps.map fun x=>[Value.int .u16 x]))) (hkd:(Kind W pv)) (hpl2:(ps.length≤281474976710656)) (hpb:(∀ x∈ps,0≤x∧x≤65535)) :
  Con.Fin Tryd.prog (fun u W'=>u=.bool true∧Con.Left W W') (solo (G (Frame.enter Tryd.prog 3 #[d.val r,.agg #[num a1,num a2],.agg #[num b1,num b2],.int .u8 x3,.int .u16 x4,pv] .normal) []) W) #[]:=by
 refine zpy Tryd.func3 ybj hg (fun v hv=>?_) fun c Post hPost=>?_
 ·simp only [List.mem_cons,List.not_mem_nil,or_false] at hv
  rcases hv with rfl | rfl | rfl | rfl | rfl | rfl
  ·exact hd.same
  ·exact Same.agg fun v hv=>by (simp only [List.mem_cons,List.not_mem_nil,or_false] at hv;rcases hv with rfl | rfl<;>exact Same.num _)
  ·exact Same.agg fun v hv=>by (simp only [List.mem_cons,List.not_mem_nil,or_false] at hv;rcases hv with rfl | rfl<;>exact Same.num _)
  ·exact⟨fun c=>by simp [ren],by simp [ren]⟩
  ·exact⟨fun c=>by simp [ren],by simp [ren]⟩
  ·exact Same.slice hsp hkd
 ·rw [fr3]
  exact ybk _ _ _ _ (fun _=>Iff.rfl) Post _ d r a1 a2 b1 b2 x3 x4 pv ps _ hd.entry hb hg.entry hx3 hx4 (hps.entry (by intro l hl x hx;obtain⟨z,_,rfl⟩:=List.mem_map.1 hl;rw [List.mem_singleton] at hx;subst hx;simp [inv])) hpb hpl2 hPost
theorem yaz (os:Os) (started:os.Started) (H:Type) (enc:TypeId×Value→H) :
  ReturnsInLeavingWide {} Tryd.checked os 3 .any (fun w args=>(Rows.turnRisesSpec.pre enc Tryd.prog Tryd.f3 [] false w args∧laidMetH Tryd.prog zmo w)∧sizedMet enc Tryd.prog Tryd.f3 (OpenSpec.ofChange Rows.turnRisesSpec) false w args)
   (Rows.turnRisesSpec.post enc Tryd.prog Tryd.f3 false true false false):=by
 refine zdb (C:=Tryd.checked) (X:=fun w _=>laidMetH Tryd.prog zmo w) (fun _ _ _ hh h=>h.of_heap hh) zn6 started Tryd.func3
  (ChangeSpec.witness_shaped (enc:=enc) (C:=Tryd.checked) (os:=os) (X:=fun w _=>laidMetH Tryd.prog zmo w) false (World.doorLaid Tryd.prog 600 os)
   #[.agg #[.slice none 0 0,.slice none 0 0,.int .i64 0,.int .i64 0,.int .i64 0,.int .i64 0,.slice none 0 0,.slice none 0 0,.slice none 0 0,.int .i64 0,.int .i64 0,.int .i64 0,.int .i64 0,.slice none 0 0],.agg #[.int .i64 0,.int .i64 0],.agg #[.int .i64 0,.int .i64 0],.int .u8 0,.int .u16 0,.slice none 0 0] 8 rfl (World.shaped_of_RefB (by kernel_rfl) (by kernel_rfl)) (by kernel_rfl) (by kernel_rfl) (by kernel_rfl) (znv os _)) ?_
 intro W base args ds gs before hval0 hW _ hsz hL
 have hval:∀ (j:Nat) t v,Tryd.f3.params[j]?=some t→args[j]?=some v→Value.okWide Tryd.prog W .any base t v:=hval0
 have hW':=hW
 obtain⟨p,q,hA0,hV,rfl,hfz,hnd⟩:=hW
 have hA:DataW.TrodAll enc Tryd.prog W 0 (fun _=>true) true Tryd.f3.params.toList args.toList ds p:=hA0
 rw [Tryd.params3] at hA hval
 obtain⟨v0,v1,v2,v3,v4,v5,d0,d1,d2,d3,d4,d5,p0,p1,p2,p3,p4,p5,rfl,rfl,rfl,h0,h1,h2,h3,h4,h5⟩:=ya3 hA
 obtain⟨rfl,rfl⟩:=trodVars_none hV
 obtain⟨a1,a2,rfl⟩:=ya6 Tryd.underlying28 rfl rfl rfl rfl (by kernel_rfl) (hval 1 28 v1 rfl rfl) h1
 obtain⟨b1,b2,rfl⟩:=ya6 Tryd.underlying28 rfl rfl rfl rfl (by kernel_rfl) (hval 2 28 v2 rfl rfl) h2
 obtain⟨x3,rfl,rfl,rfl,w3⟩:=open_int Tryd.underlying5 (hval 3 5 v3 rfl rfl) h3
 have hx3:0≤x3∧x3≤255:=by
  have h:=w3
  simp only [Lit.wf,Bool.and_eq_true,decide_eq_true_eq] at h
  exact h
 obtain⟨x4,rfl,rfl,rfl,w4⟩:=open_int Tryd.underlying32 (hval 4 32 v4 rfl rfl) h4
 have hx4:0≤x4∧x4≤65535:=by
  have h:=w4
  simp only [Lit.wf,Bool.and_eq_true,decide_eq_true_eq] at h
  exact h
 have hfit5:Fits 33 d5:=fun n hn=>by
  have:=List.all_eq_true.1 hsz n (DataW.weights_mem_each (P:=Tryd.prog) (j:=5) (t:=33) (d:=d5) (by rw [show Tryd.checked.prog=Tryd.prog from rfl,Tryd.params3];rfl) rfl n hn)
  simpa using this
 obtain⟨ps,hsp,hps,hkd,hpl2,hpb⟩:=ya7 (hval 5 33 v5 rfl rfl) h5 hfit5
 have hfit:Fits 31 d0:=fun n hn=>by
  have:=List.all_eq_true.1 hsz n (DataW.weights_mem_each (P:=Tryd.prog) (j:=0) (t:=31) (d:=d0) (by rw [show Tryd.checked.prog=Tryd.prog from rfl,Tryd.params3];rfl) rfl n hn)
  simpa using this
 obtain⟨d,r,rfl,hd,hb⟩:=znp (hval 0 31 v0 rfl rfl) h0 hfit
 clear hA0 hval0
 try simp only [List.append_nil] at hW'
 have hlt:=fun x hx=>hW'.lt x hx
 try simp only [Array.size_empty,Nat.add_zero] at hlt
 refine zoq (ybg d r a1 a2 b1 b2 x3 x4 v5 ps W hd hb (zpA hL) hx3 hx4 hsp hps hkd hpl2 hpb) fun W' hl=>?_
 have ha:=ya4 (zl8 (by kernel_rfl) (of_decide_eq_true (by kernel_rfl)) h0 hl fun x hx=>hlt x (by simp [hx])) (zl8 (by kernel_rfl) (of_decide_eq_true (by kernel_rfl)) h1 hl fun x hx=>hlt x (by simp [hx])) (zl8 (by kernel_rfl) (of_decide_eq_true (by kernel_rfl)) h2 hl fun x hx=>hlt x (by simp [hx])) (shut_int Tryd.underlying5 w3) (shut_int Tryd.underlying32 w4) (zl8 (by kernel_rfl) (of_decide_eq_true (by kernel_rfl)) h5 hl fun x hx=>hlt x (by simp [hx]))
 try simp only [List.append_nil] at ha
 exact⟨[d0,d1,d2,.lit (.int .u8 x3),.lit (.int .u16 x4),d5],[],_,[],_,[],hW',trodAll_mk1 (shut_bool Tryd.underlying4 _),ha,rfl,zl6 hl _,fun h=>by cases h⟩
theorem ya5:Rows.TurnRisesSaid :=
 OpenClaim.holds_of_wide_leaving 3 Tryd.f3 rfl rfl rfl rfl rfl rfl rfl ⟨rfl,rfl,rfl,rfl,rfl⟩ rfl rfl rfl rfl rfl (by kernel_rfl) Tryd.func3 (by kernel_rfl)
  (of_decide_eq_true (by kernel_rfl)) (by unfold Func.isWrapper;first | (rw [if_pos (by decide +kernel)];kernel_rfl) | (rw [if_neg (by decide +kernel)];exact⟨rfl,rfl⟩))
  (fun os started H enc _=>yaz os started H enc)
theorem rises_card:Rows.TurnRisesCardSaid :=
 zfY .later [] [.funcs,.data] true (true,"0d731badf4e0ccf12345af2f94122e0e61a4db1cce3b3ab7c1cb0e3c5f870caa") false true
  ya5 (fun _ h=>by cases h) (by kernel_rfl) (fun _ h=>by cases h) turnRises_row_tie rfl ⟨rfl,rfl⟩ (by kernel_rfl) rfl
  (fun f fn hf hfn=>by
   obtain rfl:f=3:=Option.some.inj ((show Tryd.prog.funcNamed "crocus/crocuslaw02.TurnRises" = some 3 by kernel_rfl).symm.trans hf) |>.symm
   obtain rfl:fn=Tryd.f3:=(Option.some.inj (Tryd.func3.symm.trans hfn)).symm
   exact⟨by kernel_rfl,fun j t ht=>by
    rw [Tryd.params3] at ht
    have hm:t∈[31,28,28,5,32,33]:=by simpa using Array.mem_of_getElem? ht
    have hall:([31,28,28,5,32,33].all fun u=>!Tryd.prog.wantsStandIn u)=true:=by kernel_rfl
    exact (show Tryd.prog.wantsStandIn t=false by simpa using List.all_eq_true.1 hall t hm)⟩)
  (by kernel_rfl)
#print axioms rises_card
end Go.Proofs.YtbbanmifdbeneaaDoor

