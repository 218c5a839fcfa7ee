/- For every ditch, any row of limits, any row of spans, any byte, two words of thirty-two bits, a word of sixteen bits and any row of picks the law TurnSizes returns true, does not panic, and leaves its arguments as they were. Conditions: the package's variables hold what the program lays in them at its start (laid), and the arguments are values as the card tells. -/
import Derived.Test.YtbbanmifdbeneaaDoorF61
import Derived.Test.YtbbanmifdbeneaaDoorF40
import Derived.Test.YtbbanmifdbeneaaDoorF39
import Derived.Test.YtbbanmifdbeneaaDoorF34
import Derived.Test.YtbbanmifdbeneaaDoorF29
import Derived.Test.YtbbanmifdbeneaaDoorF09
import Derived.WalkKit
import Derived.Test.YtbbanmifdbeneaaDoorProg
import Derived.OwnWalkIn
import Derived.TacticsInMore
import Derived.RegionIn
import Derived.LoopNIn
import Derived.LoopIn
import Derived.RecoverIn
import Derived.Sort.BigQuietIn
import Derived.Sort.CutIn
import Derived.Handy
import Derived.Maps.OwnIn
import Derived.Maps.OwnSet
import Derived.Maps.RangeWalk
import Derived.Sort.MapsRangeIn
import Derived.Laws.IdiomStrings
import Derived.Lib.Hide
import Derived.Maps.AppendAt
import Derived.Lib.SliceRun
import Derived.RangeFuncNested
import Derived.RangeFuncBound
import Derived.RangeFuncCalls
import Derived.RangeFuncLeaves
import Derived.Shelf.Abstract
import Derived.Shelf.RegionOpen
import Derived.Stop.RegionWithIn
import Derived.Sort.QuietThIn
import Derived.StillTail
import Derived.Conc.SmallLaws
import Derived.Laws.MakeOwn
import Derived.Laws.EntriesVeiled
import Derived.Test.YtbbanmifdbeneaaDoorChecked
import Derived.ProofKit
import Derived.LaidMore
import Derived.OpenShut
import Derived.Stop.Joined
import Derived.Test.YtbbanmifdbeneaaDoorTie
import Derived.Test.YtbbanmifdbeneaaDoorCards
import Derived.Conc.LeavingOf
import Derived.SevenTiedAt
import Derived.Carry
import Derived.Deep.Upon
import Derived.Orders
set_option linter.all false
set_option maxRecDepth 100000
set_option maxHeartbeats 4000000
open Go renaming undef → zu
namespace Go.Proofs.YtbbanmifdbeneaaDoor
open Go.RowKit
theorem ybp {α:Type} {f:Nat→α→Int}:∀ {l:List α} {i:Nat},(∀ j x,l[j]?=some x→f (i+j) x=0)→scan f i l=0
 | [],_,_=>rfl
 | y :: l,i,H=>by
  rw [scan,if_pos (by simpa using H 0 y rfl)]
  exact ybp fun j x h=>by
   have:=H (j+1) x (by simpa using h)
   rwa [show i+(j+1)=i+1+j by omega] at this
end Go.Proofs.YtbbanmifdbeneaaDoor

namespace Go.Proofs.YtbbanmifdbeneaaDoor
open Go.RowKit Go.Con Go.Conc
local instance pnI1:Lone:=zcG
section
variable {dst:Option Nat} {ty:TypeId} {pos:String} {af:Array Edge} {x y c:Nat} {w:World} {gd:Option (Nat×Bool)} (e:Operand→Value)
end
theorem zgU {d:Dit} {n:Nat} (h:zbG d n=false):d.Small:=by
 unfold zbG at h
 simp only [Bool.or_eq_false_iff,decide_eq_false_iff_not] at h
 obtain⟨⟨⟨⟨⟨⟨⟨h1,h2⟩,h3⟩,h4⟩,h5⟩,h6⟩,h7⟩,h8⟩:=h
 have mem:∀ (l:List Nat) (x:Nat),x∈l→x≤sumL l:=by
  intro l
  induction l with
  | nil=>intro x hx;cases hx
  | cons y l ih =>
   intro x hx
   simp only [sumL]
   rcases List.mem_cons.1 hx with rfl | hx
   ·omega
   ·have:=ih x hx;omega
 refine⟨by omega,by omega,by omega,by omega,by omega,by omega,fun s hs=>?_,fun p hp=>?_⟩
 ·have:=mem _ _ (List.mem_map.2 ⟨s,hs,rfl⟩:s.length∈d.holders.map (·.length))
  omega
 ·have:=mem _ _ (List.mem_map.2 ⟨p,hp,rfl⟩:p.name.length∈d.plots.map (·.name.length))
  omega
end Go.Proofs.YtbbanmifdbeneaaDoor

namespace Go.Proofs.YtbbanmifdbeneaaDoor
open Go.RowKit Go.Con Go.Conc Go.ChangeShapes Go.WideShapes Go.ChangeAt
section
variable {H:Type} {enc:TypeId×Value→H} {W:World}
theorem ycs:Tryd.prog.underlying 33=some (.slice 32):=by kernel_rfl
theorem yd6 {n:Nat} {cs:List Value} {y:DataW H×List MemPlace} (h:zjo enc W n 32 cs=some y):∃ k:Int,cs=[Value.int .u16 k]∧(0≤k∧k≤65535):=by
 obtain⟨k,h1,_,h3⟩:=DataW.trod_int Tryd.underlying32 h
 simp only [Lit.wf,Bool.and_eq_true,decide_eq_true_eq] at h3
 exact⟨k,h1,h3⟩
theorem yde {v:Value} {dd:DataW H} {p:List MemPlace} {base:Nat} (hv:Value.okWide Tryd.prog W .any base 33 v) (h:DataW.Trod enc Tryd.prog W 0 (fun _=>true) true 33 v dd p) (hfit:Fits 33 dd) :
  ∃ ps:List Int,(∃ a n k,v=.slice a n k)∧Sl W v 1 (ps.map fun x=>[Value.int .u16 x])∧Kind W v∧ps.length≤281474976710656∧∀ x∈ps,0≤x∧x≤65535:=by
 simp only [Value.okWide,ycs] at hv
 have hs:∃ a n k,v=.slice a n k:=by
  have hv2:=hv
  cases v with
  | slice a n k=>exact⟨_,_,_,rfl⟩
  | _=>simp [Cell.okWide,ycs,Cell.ok] at hv2
 obtain⟨a,n,k,rfl⟩:=hs
 obtain⟨fuel,hf⟩:=h
 simp only [Value.cells] at hf
 obtain⟨l,a1,a2,a3,a4,a5⟩:=zfb (en:=fun x=>[Value.int .u16 x]) (ok:=fun x=>0≤x∧x≤65535) ycs (by decide +kernel) (fun n cs' y h hff=>yd6 h) hf hfit hv
 rw [show Tryd.prog.cellsOf 32=1 by kernel_rfl] at a1
 exact⟨l,⟨_,_,_,rfl⟩,a1,a3,Nat.le_trans a4 (by decide),a5⟩
end
section
variable {H:Type} {enc:TypeId×Value→H} {P:Program} {w:World} {base:Nat} {spare:Nat→Bool} {held:Bool}
theorem yct {t t1 t2 t3 t4:TypeId} {v v1 v2 v3 v4:Value} {d d1 d2 d3 d4:DataW H} {p p1 p2 p3 p4:List MemPlace} (h:DataW.Trod enc P w base spare held t v d p) (h1:DataW.Trod enc P w base spare held t1 v1 d1 p1)
  (h2:DataW.Trod enc P w base spare held t2 v2 d2 p2) (h3:DataW.Trod enc P w base spare held t3 v3 d3 p3) (h4:DataW.Trod enc P w base spare held t4 v4 d4 p4):DataW.TrodAll enc P w base spare held [t,t1,t2,t3,t4] [v,v1,v2,v3,v4] [d,d1,d2,d3,d4] (p++(p1++(p2++(p3++p4)))):=⟨p,p1++(p2++(p3++p4)),h,trodAll_mk4 h1 h2 h3 h4,rfl⟩
end
end Go.Proofs.YtbbanmifdbeneaaDoor

namespace Go.Proofs.YtbbanmifdbeneaaDoor
open Go.RowKit
def yba (l:List Int) (i:Nat) (n:Int):Int:=if 1≤n∧n≤100 then (if 0<i∧n≤l.getD (i-1) 0 then 7 else 0) else 1
def ycu (_:Nat) (x:Int×Int):Int:=if 0≤x.1∧x.1≤x.2∧x.2≤100 then 0 else 1
def yae (l:List Int) (s:List (Int×Int)):Int:=if l.length > 3 then 2 else if scan (yba l) 0 l≠0 then scan (yba l) 0 l else if s.length > 20 then 2 else scan ycu 0 s
def yad (l:List Int) (z:Int):Int:=match l with
 | []=>0
 | x :: l=>(if x≤z then 1 else 0)+yad l z
theorem ya0 (z:Int):∀ l m:List Int,yad (l++m) z=yad l z+yad m z
 | [],m=>by simp [yad]
 | x :: l,m=>by
  have:=ya0 z l m
  simp only [List.cons_append,yad]
  omega
theorem ya1 (z:Int):∀ l:List Int,0≤yad l z∧yad l z≤l.length
 | []=>by simp [yad]
 | x :: l=>by
  have:=ya1 z l
  simp only [yad,List.length_cons]
  split<;>omega
theorem ycv {l:List Int} {k:Nat} {x:Int} (h:l[k]?=some x) (z:Int):yad (l.take (k+1)) z=yad (l.take k) z+(if x≤z then 1 else 0):=by
 rw [List.take_add_one,h,ya0]
 simp [yad]
theorem yah {a b:Int} (h:a≤b):∀ l:List Int,yad l a≤yad l b
 | []=>Int.le_refl _
 | x :: l=>by
  have:=yah h l
  simp only [yad]
  split<;>split<;>omega
theorem ya2 (u:Value) (l:List Int) (z:Int) (w:World) (hu:Sl w u 1 (l.map fun x=>[num x])) (hl:l.length≤1000000) :
  CallsIn FL 0 Tryd.prog 35 #[u,num z] w fun e w'=>e=.returned (num (yad l z))∧w'=w:=by
 obtain⟨a,cap,rfl⟩:=hu.cases
 rw [List.length_map] at hu ⊢
 have HU:=Lib.hid hu
 clear hu
 gi_enter Tryd.func35,Tryd.ntmps35
 gi_wp2
 gi_loopw [5,10] (fun n i wr=>∃ k:Nat,k≤l.length∧i=num k∧n=num (yad (l.take k) z)∧wr=w) (fun _ i _=>l.length-(intOf i).toNat)
 case atStart=>exact⟨0,Nat.zero_le _,rfl,rfl,rfl⟩
 case round =>
  obtain⟨k,hk,rfl,rfl,rfl⟩:=hrel
  by_cases hlt:k<l.length
  ·obtain⟨b,off,ha,hbl,hcl⟩:=HU.out.get (by simp;omega)
   subst ha
   have hx:l[k]?=some l[k]:=List.getElem?_eq_getElem hlt
   generalize l[k]=x at hx
   have g1:=Sl.one hcl hx
   have hbd:=ya1 z (l.take k)
   rw [List.length_take] at hbd
   have HT:=Lib.hid (ycv hx z)
   clear hcl hx
   generalize yad (l.take k) z=c at *
   by_cases hz:x≤z
   ·have d1:decide (z≥x)=true:=decide_eq_true hz
    gi_wp2
    exact⟨⟨k+1,hlt,by simp,by rw [HT.out,if_pos hz],by first | rfl | trivial⟩,by simp [intOf];omega⟩
   ·have d1:decide (z≥x)=false:=decide_eq_false hz
    gi_wp2
    exact⟨⟨k+1,hlt,by simp,by rw [HT.out,if_neg hz,Int.add_zero],by first | rfl | trivial⟩,by simp [intOf];omega⟩
  ·obtain rfl:k=l.length:=by omega
   gi_wp2
   go_ret
   exact⟨by rw [List.take_length]<;>rfl,rfl⟩
theorem ycw (u v:Value) (l:List Int) (s:List (Int×Int)) (w:World) (hu:Sl w u 1 (l.map fun x=>[num x])) (hv:Sl w v 2 (s.map two)) (hl:l.length≤1000000) (hs:s.length≤1000000) :
  CallsIn FL 0 Tryd.prog 12 #[u,v] w fun e w'=>e=.returned (num (yae l s))∧Nx w w':=by
 obtain⟨a,cap,rfl⟩:=hu.cases
 obtain⟨a',cap',rfl⟩:=hv.cases
 rw [List.length_map] at hu hv ⊢
 rw [List.length_map]
 have n0:Nx w w:=Below.refl _ _
 have HU:=Lib.hid hu
 have HV:=Lib.hid hv
 clear hu hv
 by_cases h3:3<l.length
 ·have HP:Hid (yae l s=2):=by show _=_;unfold yae;rw [if_pos h3]
  gi_enter Tryd.func12,Tryd.ntmps12
  gi_wp2
  go_ret
  exact⟨by rw [HP.out]<;>rfl,n0⟩
 have HP1:Hid (scan (yba l) 0 l≠0→yae l s=scan (yba l) 0 l):=fun h=>by unfold yae;rw [if_neg h3,if_pos h]
 have HP2:Hid (scan (yba l) 0 l=0→yae l s=if s.length > 20 then 2 else scan ycu 0 s):=fun h=>by unfold yae;rw [if_neg h3,if_neg (by rw [h];simp)]
 gi_enter Tryd.func12,Tryd.ntmps12
 gi_wp2
 gi_loopw [5] (fun i wr=>∃ k:Nat,k≤l.length∧i=num k∧scan (yba l) 0 l=scan (yba l) k (l.drop k)∧Nx w wr) (fun i _=>l.length-(intOf i).toNat)
 case atStart=>exact⟨0,Nat.zero_le _,rfl,rfl,n0⟩
 case round =>
  obtain⟨k,hk,rfl,hsc,n2⟩:=hrel
  by_cases hlt:k<l.length
  ·obtain⟨b,off,ha,hbl,hcl⟩:=(HU.out.nx n2).get (by simp;omega)
   subst ha
   have hx:l[k]?=some l[k]:=List.getElem?_eq_getElem hlt
   generalize l[k]=x at hx
   have g1:=Sl.one hcl hx
   have HG:=Lib.hid fun h0=>zbL hx h0 hsc
   have HS:=Lib.hid fun h0=>za4 hx h0 hsc
   clear hsc
   by_cases hr:1≤x∧x≤100
   ·have k32:=fun w1=>in_b (n:=x) (low:=1) (high:=100) (decide_eq_true hr) w1
    rcases Nat.eq_zero_or_pos k with hk0 | hk0
    case inl =>
     have hz:=Lib.hid (HG.out (show yba l k x=0 by unfold yba;rw [if_pos hr,if_neg (by omega)]))
     have HK:=Lib.hid hk0
     clear HG HS hcl hx hk0
     gi_upto_region 8 with (first
      | (gi_at_call 32;refine CallsIn.mono (k32 _) ?_;rintro e w1 ⟨rfl,rfl⟩)
      | gi_in)
     clear g1
     have hkp:decide (0<(k:Int))=false:=by have:=HK.out;simp;omega
     have hkp2:decide (0<k)=false:=by have:=HK.out;simp;omega
     gi_big_quiet_th (fail)
     gi_wp2
     exact⟨⟨k+1,hlt,by simp,hz.out,Nx.drewN n2 _⟩,by simp [intOf];omega⟩
    case inr =>
     obtain⟨j,rfl⟩:∃ j,k=j+1:=⟨k-1,by omega⟩
     clear hk0
     have hy:l[j]?=some l[j]:=List.getElem?_eq_getElem (by omega)
     generalize l[j]=y at hy
     have g2:=Sl.one hcl hy
     have hlf:yba l (j+1) x=if x≤y then 7 else 0:=by
      unfold yba
      rw [if_pos hr]
      simp [List.getD_eq_getElem?_getD,hy]
     have hjl:j<l.length:=by omega
     have hsub:((j+1:Nat):Int)-1=(j:Int):=by omega
     by_cases hxy:x≤y
     ·have hz:=Lib.hid (HS.out (by rw [hlf,if_pos hxy];decide))
      have HF:=Lib.hid (hlf.trans (if_pos hxy))
      have HA:=Lib.hid (HP1.out (by rw [hz.out,HF.out];decide))
      have d1:decide (x≤y)=true:=decide_eq_true hxy
      clear HG HS hcl hx hy hlf
      gi_upto_region 8 with (first
       | (gi_at_call 32;refine CallsIn.mono (k32 _) ?_;rintro e w1 ⟨rfl,rfl⟩)
       | gi_in)
      gi_big_quiet_th (fail)
      gi_wp2
      go_ret
      exact⟨by rw [HA.out,hz.out,HF.out]<;>rfl,Nx.drewN n2 _⟩
     ·have hz:=Lib.hid (HG.out (by rw [hlf,if_neg hxy]))
      have d1:decide (x≤y)=false:=decide_eq_false hxy
      clear HG HS hcl hx hy hlf
      gi_upto_region 8 with (first
       | (gi_at_call 32;refine CallsIn.mono (k32 _) ?_;rintro e w1 ⟨rfl,rfl⟩)
       | gi_in)
      gi_big_quiet_th (fail)
      gi_wp2
      exact⟨⟨j+1+1,hlt,by simp,hz.out,Nx.drewN n2 _⟩,by simp [intOf];omega⟩
   ·have k32:=fun w1=>in_b (n:=x) (low:=1) (high:=100) (decide_eq_false hr) w1
    have hf:yba l k x=1:=by unfold yba;rw [if_neg hr]
    have hz:=Lib.hid (HS.out (by rw [hf];decide))
    have HF:=Lib.hid hf
    have HA:=Lib.hid (HP1.out (by rw [hz.out,HF.out];decide))
    clear HG HS hcl hx hf
    gi_wp2_with (first
     | (gi_at_call 32;refine CallsIn.mono (k32 _) ?_;rintro e w1 ⟨rfl,rfl⟩)
     | gi_in)
    go_ret
    exact⟨by rw [HA.out,hz.out,HF.out]<;>rfl,n2⟩
  ·obtain rfl:k=l.length:=by omega
   have h0:=HP2.out (zbi hsc)
   clear hsc HP1 HP2
   by_cases h20:20<s.length
   ·have HA:=Lib.hid (h0.trans (if_pos h20))
    clear h0
    gi_wp2
    go_ret
    exact⟨by rw [HA.out]<;>rfl,n2⟩
   have HA:=Lib.hid (h0.trans (if_neg h20))
   clear h0
   gi_wp2
   generalize wr=W2 at *
   gi_loopw [6] (fun i wr=>∃ k:Nat,k≤s.length∧i=num k∧scan ycu 0 s=scan ycu k (s.drop k)∧Nx w wr) (fun i _=>s.length-(intOf i).toNat)
   case atStart=>exact⟨0,Nat.zero_le _,rfl,rfl,n2⟩
   case round =>
    obtain⟨j,hj,rfl,hsc,n3⟩:=hrel
    by_cases hlt2:j<s.length
    ·obtain⟨b,off,ha,hbl,hcl⟩:=(HV.out.nx n3).get (by simp;omega)
     subst ha
     have hx:s[j]?=some s[j]:=List.getElem?_eq_getElem hlt2
     generalize s[j]=x at hx
     obtain⟨x1,x2⟩:=x
     obtain⟨g1,g2⟩:=Sl.at2 hcl (Below.refl _ wr) hbl hx
     have HG:=Lib.hid fun h0=>zbL hx h0 hsc
     have HS:=Lib.hid fun h0=>za4 hx h0 hsc
     clear hsc hcl hx
     have k33:=zc0 x1 x2 0 100 wr
     by_cases hr:0≤x1∧x1≤x2∧x2≤100
     ·have hz:=Lib.hid (HG.out (show ycu j (x1,x2)=0 by unfold ycu;rw [if_pos hr]))
      rw [decide_eq_true hr] at k33
      clear HG HS
      gi_wp2_with (first
       | (gi_at_call 33;refine CallsIn.mono k33 ?_;rintro e w4 ⟨rfl,n4⟩)
       | gi_in)
      exact⟨⟨j+1,hlt2,by simp,hz.out,Nx.trans n3 n4⟩,by simp [intOf];omega⟩
     ·have hf:ycu j (x1,x2)=1:=by unfold ycu;rw [if_neg hr]
      have hz:=Lib.hid (HS.out (by rw [hf];decide))
      have HF:=Lib.hid hf
      rw [decide_eq_false hr] at k33
      clear HG HS hf
      gi_wp2_with (first
       | (gi_at_call 33;refine CallsIn.mono k33 ?_;rintro e w4 ⟨rfl,n4⟩)
       | gi_in)
      go_ret
      exact⟨by rw [HA.out,hz.out,HF.out]<;>rfl,Nx.trans n3 n4⟩
    ·obtain rfl:j=s.length:=by omega
     have HZ:=Lib.hid (zbi hsc)
     clear hsc
     gi_wp2
     go_ret
     exact⟨by rw [HA.out,HZ.out]<;>rfl,n3⟩
end Go.Proofs.YtbbanmifdbeneaaDoor

namespace Go.Proofs.YtbbanmifdbeneaaDoor
open Go.RowKit
theorem ybz (x y low high:Int) (w:World):CallsIn FL 0 Tryd.prog 28 #[.agg #[num x,num y],num low,num high] w fun e w'=>e=.returned (.bool (decide (low≤x∧x≤y∧y≤high)))∧Nx w w':=by
 have n0:∀ o,Nx w (w.alloc o):=fun o=>(Below.refl _ _).alloc (Nat.le_refl _) o
 by_cases h1:low≤x
 ·by_cases h2:x≤y
  ·gi_enter Tryd.func28,Tryd.ntmps28
   gi_wp2
   go_ret
   exact⟨by simp [h1,h2],n0 _⟩
  ·gi_enter Tryd.func28,Tryd.ntmps28
   gi_wp2
   go_ret
   exact⟨by simp;omega,n0 _⟩
 ·gi_enter Tryd.func28,Tryd.ntmps28
  gi_wp2
  go_ret
  exact⟨by simp;omega,n0 _⟩
end Go.Proofs.YtbbanmifdbeneaaDoor

namespace Go.Proofs.YtbbanmifdbeneaaDoor
open Go.RowKit
def yar (x:Int×Int):Bool:=!decide (0≤x.1∧x.1≤x.2∧x.2≤100)
theorem yc8:∀ (s:List (Int×Int)) (i:Nat),scan ycu i s=if s.any yar then 1 else 0
 | [],_=>rfl
 | x :: s,i=>by
  rw [scan,List.any_cons]
  by_cases h:0≤x.1∧x.1≤x.2∧x.2≤100
  ·have h1:yar x=false:=by unfold yar;rw [decide_eq_true h];rfl
   rw [if_pos (by unfold ycu;rw [if_pos h]),h1,Bool.false_or]
   exact yc8 s (i+1)
  ·have h1:yar x=true:=by unfold yar;rw [decide_eq_false h];rfl
   have h2:ycu i x=1:=by unfold ycu;rw [if_neg h]
   rw [h2,h1,if_neg (by decide),Bool.true_or]
   rfl
theorem ycx (x:Int×Int) (w:World):CallsIn FL 0 Tryd.prog 57 #[.agg #[num x.1,num x.2]] w fun e w'=>e=.returned (.bool (yar x))∧Nx w w':=by
 obtain⟨a,b⟩:=x
 generalize hW:w.alloc (.cells #[.int .i64 a,.int .i64 b] 28)=W
 have nW:Nx w W:=by rw [← hW];exact (Below.refl _ _).alloc (Nat.le_refl _) _
 have c0:W.cell? ⟨w.heap.size,0,none⟩=some (num a):=by rw [← hW];exact zaw _ _ _ _ _ rfl
 have c1:W.cell? ⟨w.heap.size,1,none⟩=some (num b):=by rw [← hW];exact zaw _ _ _ _ _ rfl
 have k28:=ybz a b 0 100 W
 have HB:Hid (yar (a,b)=!decide (0≤a∧a≤b∧b≤100)):=rfl
 generalize decide (0≤a∧a≤b∧b≤100)=r at *
 gi_enter Tryd.func57,Tryd.ntmps57
 gi_wp2_with (first
  | (gi_at_call 28;refine CallsIn.mono k28 ?_;rintro e w1 ⟨rfl,n1⟩)
  | gi_in)
 go_ret
 exact⟨by rw [HB.out]<;>rfl,Nx.trans nW n1⟩
theorem ycy (v:Value) (l:List (Int×Int)) (w:World) (hv:Sl w v 2 (l.map two)) (hl:l.length≤1000000) :
  CallsIn FL 0 Tryd.prog 69 #[v,.func (.func 57) #[] #[]] w fun e w'=>e=.returned (num (idxOf yar l))∧Nx w w':=by
 obtain⟨a,cap,rfl⟩:=hv.cases
 rw [List.length_map] at hv ⊢
 have HV:=Lib.hid hv
 have n0:Nx w w:=Below.refl _ _
 clear hv
 gi_enter Tryd.func69,Tryd.ntmps69
 gi_wp2
 gi_loopw [8] (fun i wr=>∃ k:Nat,k≤l.length∧i=num k∧(∀ (j:Nat) (x:Int×Int),j<k→l[j]?=some x→yar x=false)∧Nx w wr) (fun i _=>l.length-(intOf i).toNat)
 case atStart=>exact⟨0,Nat.zero_le _,rfl,fun _ _ h=>absurd h (Nat.not_lt_zero _),n0⟩
 case round =>
  obtain⟨k,hk,rfl,hno,n2⟩:=hrel
  have HN:=Lib.hid hno
  clear hno
  by_cases hlt:k<l.length
  ·obtain⟨b,off,ha,hbl,hcl⟩:=(HV.out.nx n2).get (by simp;omega)
   subst ha
   have hx:l[k]?=some l[k]:=List.getElem?_eq_getElem hlt
   generalize l[k]=x at hx
   obtain⟨x1,x2⟩:=x
   obtain⟨g1,g2⟩:=Sl.at2 hcl (Below.refl _ wr) hbl hx
   have HX:=Lib.hid hx
   have k57:=ycx (x1,x2) wr
   dsimp only at k57
   clear hcl hx
   cases hb:yar (x1,x2) with
   | true =>
    rw [hb] at k57
    have HB:=Lib.hid hb
    clear hb
    gi_wp2_with (first | (gi_at_call 57;refine CallsIn.mono k57 ?_;rintro e w1 ⟨rfl,n3⟩) | gi_in)
    go_ret
    exact⟨by rw [zd5 HX.out HB.out HN.out]<;>rfl,Nx.trans n2 n3⟩
   | false =>
    rw [hb] at k57
    have HB:=Lib.hid hb
    clear hb
    gi_wp2_with (first | (gi_at_call 57;refine CallsIn.mono k57 ?_;rintro e w1 ⟨rfl,n3⟩) | gi_in)
    refine⟨⟨k+1,hlt,by simp,?_,Nx.trans n2 n3⟩,by simp [intOf];omega⟩
    intro j y hj hy
    rcases Nat.lt_succ_iff_lt_or_eq.1 hj with hj | rfl
    ·exact HN.out j y hj hy
    ·rw [HX.out] at hy
     cases hy
     exact HB.out
  ·obtain rfl:k=l.length:=by omega
   gi_wp2
   go_ret
   exact⟨by rw [zeg HN.out]<;>rfl,n2⟩
theorem ybk (v:Value) (l:List (Int×Int)) (w:World) (hv:Sl w v 2 (l.map two)) (hl:l.length≤1000000) :
  CallsIn FL 0 Tryd.prog 56 #[v,.func (.func 57) #[] #[]] w fun e w'=>e=.returned (.bool (l.any yar))∧Nx w w':=by
 have key:=ycy v l w hv hl
 have h1:=zeH yar l
 have h2:=zhA yar l
 generalize idxOf yar l=n at key h1 h2
 generalize l.any yar=r at h1
 subst h1
 clear hv
 gi_enter Tryd.func56,Tryd.ntmps56
 gi_wp2_with (gi_at_call 69;refine CallsIn.mono key ?_;rintro e w1 ⟨rfl,n1⟩)
 go_ret
 exact⟨by simp,n1⟩
theorem ybq (n lo hi:Int) (w:World):CallsIn FL 0 Tryd.prog 55 #[num n,num lo,num hi] w fun e w'=>e=.returned (.bool (decide (lo≤n∧n≤hi)))∧w'=w:=by
 gi_enter Tryd.func55,Tryd.ntmps55
 by_cases h:lo≤n
 ·by_cases h2:n≤hi
  ·gi_wp2
   go_ret
   exact⟨by simp [h,h2],rfl⟩
  ·gi_wp2
   go_ret
   exact⟨by simp;omega,rfl⟩
 ·gi_wp2
  go_ret
  exact⟨by simp;omega,rfl⟩
theorem ycz (u v:Value) (l:List Int) (s:List (Int×Int)) (w:World) (hu:Sl w u 1 (l.map fun x=>[num x])) (hv:Sl w v 2 (s.map two)) (hl:l.length≤1000000) (hs:s.length≤1000000) :
  CallsIn FL 0 Tryd.prog 34 #[u,v] w fun e w'=>e=.returned (num (yae l s))∧Nx w w':=by
 obtain⟨a,cap,rfl⟩:=hu.cases
 obtain⟨a',cap',rfl⟩:=hv.cases
 rw [List.length_map] at hu hv ⊢
 rw [List.length_map]
 have n0:Nx w w:=Below.refl _ _
 have HU:=Lib.hid hu
 have HV:=Lib.hid hv
 clear hu hv
 by_cases h3:3<l.length
 ·have HP:Hid (yae l s=2):=by show _=_;unfold yae;rw [if_pos h3]
  gi_enter Tryd.func34,Tryd.ntmps34
  gi_wp2
  go_ret
  exact⟨by rw [HP.out]<;>rfl,n0⟩
 have HP1:Hid (scan (yba l) 0 l≠0→yae l s=scan (yba l) 0 l):=fun h=>by unfold yae;rw [if_neg h3,if_pos h]
 have HP2:Hid (scan (yba l) 0 l=0→yae l s=if s.length > 20 then 2 else scan ycu 0 s):=fun h=>by unfold yae;rw [if_neg h3,if_neg (by rw [h];simp)]
 gi_enter Tryd.func34,Tryd.ntmps34
 gi_wp2
 gi_loopw [12] (fun i wr=>∃ k:Nat,k≤l.length∧i=num k∧scan (yba l) 0 l=scan (yba l) k (l.drop k)∧wr=w) (fun i _=>l.length-(intOf i).toNat)
 case atStart=>exact⟨0,Nat.zero_le _,rfl,rfl,rfl⟩
 case round =>
  obtain⟨k,hk,rfl,hsc,rfl⟩:=hrel
  by_cases hlt:k<l.length
  ·obtain⟨b,off,ha,hbl,hcl⟩:=HU.out.get (by simp;omega)
   subst ha
   have hx:l[k]?=some l[k]:=List.getElem?_eq_getElem hlt
   generalize l[k]=x at hx
   have g1:=Sl.one hcl hx
   have HG:=Lib.hid fun h0=>zbL hx h0 hsc
   have HS:=Lib.hid fun h0=>za4 hx h0 hsc
   clear hsc
   have k55:=ybq x 1 100 wr
   by_cases hr:1≤x∧x≤100
   ·rw [decide_eq_true hr] at k55
    rcases Nat.eq_zero_or_pos k with hk0 | hk0
    case inl =>
     have hz:=Lib.hid (HG.out (show yba l k x=0 by unfold yba;rw [if_pos hr,if_neg (by omega)]))
     have hkp:decide (0<(k:Int))=false:=decide_eq_false (by omega)
     have hkp2:decide (0<k)=false:=decide_eq_false (by omega)
     clear HG HS hcl hx hk0
     gi_wp2_with (first
      | (gi_at_call 55;refine CallsIn.mono k55 ?_;rintro e w1 ⟨rfl,rfl⟩)
      | gi_in)
     all_goals (try exact absurd ‹some zu=some (Value.bool _)› (by unfold zu;simp))
     exact⟨⟨k+1,hlt,by simp,hz.out,by first | rfl | trivial⟩,by simp [intOf];omega⟩
    case inr =>
     obtain⟨j,rfl⟩:∃ j,k=j+1:=⟨k-1,by omega⟩
     clear hk0
     have hy:l[j]?=some l[j]:=List.getElem?_eq_getElem (by omega)
     generalize l[j]=y at hy
     have g2:=Sl.one hcl hy
     have hlf:yba l (j+1) x=if x≤y then 7 else 0:=by
      unfold yba
      rw [if_pos hr]
      simp [List.getD_eq_getElem?_getD,hy]
     have hjl:j<l.length:=by omega
     have hsub:((j+1:Nat):Int)-1=(j:Int):=by omega
     by_cases hxy:x≤y
     ·have hz:=Lib.hid (HS.out (by rw [hlf,if_pos hxy];decide))
      have HF:=Lib.hid (hlf.trans (if_pos hxy))
      have HA:=Lib.hid (HP1.out (by rw [hz.out,HF.out];decide))
      have d1:decide (x≤y)=true:=decide_eq_true hxy
      clear HG HS hcl hx hy hlf
      gi_wp2_with (first
       | (gi_at_call 55;refine CallsIn.mono k55 ?_;rintro e w1 ⟨rfl,rfl⟩)
       | gi_in)
      go_ret
      exact⟨by rw [HA.out,hz.out,HF.out]<;>rfl,n0⟩
     ·have hz:=Lib.hid (HG.out (by rw [hlf,if_neg hxy]))
      have d1:decide (x≤y)=false:=decide_eq_false hxy
      clear HG HS hcl hx hy hlf
      gi_wp2_with (first
       | (gi_at_call 55;refine CallsIn.mono k55 ?_;rintro e w1 ⟨rfl,rfl⟩)
       | gi_in)
      exact⟨⟨j+1+1,hlt,by simp,hz.out,by first | rfl | trivial⟩,by simp [intOf];omega⟩
   ·rw [decide_eq_false hr] at k55
    have hf:yba l k x=1:=by unfold yba;rw [if_neg hr]
    have hz:=Lib.hid (HS.out (by rw [hf];decide))
    have HF:=Lib.hid hf
    have HA:=Lib.hid (HP1.out (by rw [hz.out,HF.out];decide))
    clear HG HS hcl hx hf
    gi_wp2_with (first
     | (gi_at_call 55;refine CallsIn.mono k55 ?_;rintro e w1 ⟨rfl,rfl⟩)
     | gi_in)
    go_ret
    exact⟨by rw [HA.out,hz.out,HF.out]<;>rfl,n0⟩
  ·obtain rfl:k=l.length:=by omega
   have h0:=HP2.out (zbi hsc)
   clear hsc HP1 HP2
   by_cases h20:20<s.length
   ·have HA:=Lib.hid (h0.trans (if_pos h20))
    clear h0
    gi_wp2
    go_ret
    exact⟨by rw [HA.out]<;>rfl,n0⟩
   have HA:=Lib.hid ((h0.trans (if_neg h20)).trans (yc8 s 0))
   have k56:=ybk (.slice a' s.length cap') s wr HV.out hs
   clear h0
   cases hb:s.any yar with
   | true =>
    rw [hb] at k56
    have HB:=Lib.hid hb
    clear hb
    gi_wp2_with (first | (gi_at_call 56;refine CallsIn.mono k56 ?_;rintro e w1 ⟨rfl,n1⟩) | gi_in)
    go_ret
    exact⟨by rw [HA.out,HB.out]<;>rfl,n1⟩
   | false =>
    rw [hb] at k56
    have HB:=Lib.hid hb
    clear hb
    gi_wp2_with (first | (gi_at_call 56;refine CallsIn.mono k56 ?_;rintro e w1 ⟨rfl,n1⟩) | gi_in)
    go_ret
    exact⟨by rw [HA.out,HB.out]<;>rfl,n1⟩
end Go.Proofs.YtbbanmifdbeneaaDoor

namespace Go.Proofs.YtbbanmifdbeneaaDoor
open Go.RowKit
theorem ydn {sz:Nat}:∀ (ys:List (List Value)) (j k:Nat) (l:List Value) (x:Value),(∀ y∈ys,y.length=sz)→ys[j]?=some l→l[k]?=some x→ys.flatten[j * sz+k]?=some x
 | [],j,k,l,x,_,h,_=>by simp at h
 | y :: ys,j,k,l,x,hl,hj,hk=>by
  have hy:=hl y (List.mem_cons_self ..)
  cases j with
  | zero =>
   simp only [List.getElem?_cons_zero,Option.some.injEq] at hj
   subst hj
   have:k<y.length:=(List.getElem?_eq_some_iff.1 hk).1
   rw [Nat.zero_mul,Nat.zero_add,List.flatten_cons,List.getElem?_append_left this]
   exact hk
  | succ j =>
   rw [List.flatten_cons,List.getElem?_append_right (by rw [hy,Nat.succ_mul];omega),hy]
   have:(j+1) * sz+k-sz=j * sz+k:=by rw [Nat.succ_mul];omega
   rw [this]
   exact ydn ys j k l x (fun y hy=>hl y (List.mem_cons_of_mem _ hy)) hj hk
theorem yc9 (b o j:Nat):(⟨b,o,none⟩:Addr).add j=⟨b,o+j,none⟩:=by
 unfold Addr.add
 split
 ·rename_i h;subst h;rfl
 ·rfl
structure ElemT (t e:TypeId) (z:Value) (sz by_:Nat):Prop where
 und:Tryd.prog.underlying t=some (.slice e)
 info:∃ i:TypeInfo,Tryd.prog.info? e=some i∧i.zero=some z∧i.size=sz∧i.bytes=by_
 zs:z.cells.size=sz
 pos:0<sz
theorem ElemT.mk' {t e:TypeId} {z:Value} {sz by_:Nat} (h1:Tryd.prog.underlying t=some (.slice e)) (h:(Tryd.prog.info? e).map (fun i=>(i.zero,i.size,i.bytes))=some (some z,sz,by_)) (h2:z.cells.size=sz) (h3:0<sz):ElemT t e z sz by_:=by
 refine⟨h1,?_,h2,h3⟩
 cases hi:Tryd.prog.info? e with
 | none=>rw [hi] at h;cases h
 | some i =>
  rw [hi] at h
  simp only [Option.map_some,Option.some.injEq,Prod.mk.injEq] at h
  exact⟨i,rfl,h.1,h.2.1,h.2.2⟩
theorem yem {w:World} {base e sz n:Nat} {v:Value} {rows:List (List Value)} (hr:∀ y∈rows,y.length=sz) (hn:rows.length=n) (h:w.ownsRow base e sz v n rows.flatten):Sl w v sz rows:=by
 subst hn
 obtain⟨_,⟨rfl,h0⟩ | ⟨g,cap,cur,rfl,hb,hg,hc,hm,hs,ht⟩⟩:=h
 ·exact⟨0,.inl ⟨List.eq_nil_of_length_eq_zero h0,rfl⟩⟩
 ·refine⟨cap,.inr ⟨g,0,rfl,(Array.getElem?_eq_some_iff.1 hg).1,fun j k l x hj hk=>?_⟩⟩
  have h1:=ydn (sz:=sz) rows j k l x hr hj hk
  rw [← ht,List.getElem?_take] at h1
  split at h1
  ·unfold World.cell?
   dsimp only
   rw [hg]
   simpa using h1
  ·cases h1
theorem yb0 {w:World} {base e sz n:Nat} {v:Value} {xs:List Value} (h0:0<n) (h:w.ownsRow base e sz v n xs):∃ g cap,v=.slice (some ⟨g,0,none⟩) n cap∧base≤g∧g<w.heap.size∧n≤cap∧Kind w v:=by
 obtain⟨_,⟨_,h1⟩ | ⟨g,cap,cur,rfl,hb,hg,hc,_⟩⟩:=h
 ·omega
 ·exact⟨g,cap,rfl,hb,(Array.getElem?_eq_some_iff.1 hg).1,hc,fun a n c e=>by cases e;exact⟨_,_,_,hg⟩⟩
section
variable {t e:TypeId} {z:Value} {sz by_:Nat} (T:ElemT t e z sz by_)
include T
theorem yd7 (base:Nat) (w:World) (v:Value) (rows:List (List Value)) (hr:∀ y∈rows,y.length=sz) (hown:w.ownsRow base e sz v rows.length rows.flatten) (g1:Nat) (x:List Value) (hx:x.length=sz) (hg:w.heap[g1]?=some (.cells x.toArray e (0,0)))
  (h1:∀ y∈x,y.oneCell'=true) (hl:(rows.length+1) * by_≤140737488355328) (hm:rows.length≤281474976710656) (hb:base≤w.heap.size) :
  ∃ v' w',(Builtin.append_ #[t,t] t #[v,.slice (some ⟨g1,0,none⟩) 1 1]).run Tryd.prog w=.ok v' w'∧w'.ownsRow base e sz v' (rows.length+1) (rows++[x]).flatten∧w.grownBy w' v.ownBlock:=by
 obtain⟨i,hi,hz,hs,hby⟩:=T.info
 obtain⟨v',w',r1,r2,r3,_,r5⟩:=run_append_own_at (P:=Tryd.prog) w base t t e i z sz by_ T.und hi hz hs hby T.zs T.pos v rows.length rows.flatten hown ⟨g1,0,none⟩ 1 1 x (by omega) (fun j y hj=>by
  rw [yc9]
  unfold World.cell?
  dsimp only
  rw [hg]
  simpa using hj) h1 (by unfold maxLen;omega) hl hb
 exact⟨v',w',r1,by rw [List.flatten_append];simpa using r2,r3⟩
end
theorem T24:ElemT 24 28 (.agg #[num 0,num 0]) 2 16:=.mk' Tryd.underlying24 (by kernel_rfl) (by kernel_rfl) (by decide)
theorem T29:ElemT 29 55 (.agg #[str [],num 0,num 0,num 0,num 0,num 0]) 6 56:=.mk' Tryd.underlying29 (by kernel_rfl) (by kernel_rfl) (by decide)
end Go.Proofs.YtbbanmifdbeneaaDoor

namespace Go.Proofs.YtbbanmifdbeneaaDoor
open Go.RowKit
def yam {α:Type} (p:α→Bool):List α→Int
 | []=>0
 | x :: l=>yam p l+if p x then 1 else 0
theorem ybd {α:Type} (p:α→Bool):∀ l m:List α,yam p (l++m)=yam p l+yam p m
 | [],m=>by simp [yam]
 | x :: l,m=>by
  have:=ybd p l m
  simp only [List.cons_append,yam]
  omega
theorem ydo {α:Type} (p:α→Bool) {l:List α} {k:Nat} {x:α} (h:l[k]?=some x):yam p (l.take (k+1))=yam p (l.take k)+if p x then 1 else 0:=by
 rw [List.take_add_one,h,ybd]
 simp [yam]
theorem ybr {α:Type} (p:α→Bool):∀ l:List α,0≤yam p l∧yam p l≤l.length
 | []=>by simp [yam]
 | x :: l=>by
  have:=ybr p l
  simp only [yam,List.length_cons]
  split<;>omega
def ybl (l:List Int) (c:Nat) (x:Int×Int):Bool:=decide (yad l x.1=c) && decide (yad l x.2=c)
def yd8 (l:List Int) (c:Nat) (x:Int×Int):Bool:=decide (yad l x.1≤c) && decide ((c:Int)≤yad l x.2)
def yal (l:List Int) (s:List (Int×Int)) (i:Nat):Int:=if i % 2=0 then yam (ybl l (i / 2)) s else yam (yd8 l (i / 2)) s
def ya5 (l:List Int) (s:List (Int×Int)):List (Int×Int):=(List.range (l.length+1)).map fun c=>(yam (ybl l c) s,yam (yd8 l c) s)
def CellsI (W:World) (g n:Nat) (f:Nat→Int):Prop:=∃ cs,W.heap[g]?=some (.cells cs 28 (0,0))∧cs.size=n∧∀ i,i<n→cs[i]?=some (num (f i))
theorem CellsI.at {W:World} {g n:Nat} {f:Nat→Int} (h:CellsI W g n f) {i:Nat} (hi:i<n):W.cell? ⟨g,i,none⟩=some (num (f i))∧W.frozen? ⟨g,i,none⟩=false:=by
 obtain⟨cs,h1,h2,h3⟩:=h
 refine⟨?_,frozen_of_row _ _ _ _ _ h1⟩
 unfold World.cell?
 dsimp only
 rw [h1]
 exact h3 i hi
theorem CellsI.lt {W:World} {g n:Nat} {f:Nat→Int} (h:CellsI W g n f):g<W.heap.size:=by
 obtain⟨cs,h1,_⟩:=h
 exact (Array.getElem?_eq_some_iff.1 h1).1
theorem CellsI.nx {W W' : World} {g n:Nat} {f:Nat→Int} (h:CellsI W g n f) (nx:Nx W W'):CellsI W' g n f:=by
 have hl:=h.lt
 obtain⟨cs,h1,h2⟩:=h
 exact⟨cs,(nx.block g hl).trans h1,h2⟩
theorem CellsI.ext {W:World} {g n:Nat} {f f' : Nat→Int} (h:CellsI W g n f) (e:∀ i,i<n→f i=f' i):CellsI W g n f':=by
 obtain⟨cs,h1,h2,h3⟩:=h
 exact⟨cs,h1,h2,fun i hi=>by rw [h3 i hi,e i hi]⟩
theorem CellsI.set {W:World} {g n:Nat} {f:Nat→Int} (h:CellsI W g n f) {i:Nat} (hi:i<n) (v:Int):CellsI (W.setCell ⟨g,i,none⟩ (num v)) g n (fun j=>if j=i then v else f j):=by
 obtain⟨cs,h1,h2,h3⟩:=h
 refine⟨cs.setIfInBounds i (num v),?_,by simp [h2],fun j hj=>?_⟩
 ·unfold World.setCell
  simp [Array.getElem?_modify,h1]
 ·by_cases e:j=i
  ·subst e
   rw [Array.getElem?_setIfInBounds_self_of_lt (by omega)]
   simp
  ·rw [Array.getElem?_setIfInBounds_ne (fun h=>e h.symm)]
   simp only [e,if_false]
   exact h3 j hj
theorem CellsI.sl {W:World} {g:Nat} {l:List Int} {s:List (Int×Int)} (h:CellsI W g ((l.length+1) * 2) (yal l s)):Sl W (.slice (some ⟨g,0,none⟩) (l.length+1) (l.length+1)) 2 ((ya5 l s).map two):=by
 have hlen:((ya5 l s).map two).length=l.length+1:=by simp [ya5]
 refine⟨l.length+1,.inr ⟨g,0,by rw [hlen],h.lt,fun j k z x hj hk=>?_⟩⟩
 have hjl:j<l.length+1:=by
  have:=(List.getElem?_eq_some_iff.1 hj).1
  omega
 unfold ya5 at hj
 rw [List.map_map,List.getElem?_map,List.getElem?_range hjl] at hj
 simp only [Option.map_some,Option.some.injEq,Function.comp_apply] at hj
 subst hj
 cases k with
 | zero =>
  simp only [Go.Proofs.YtbbanmifdbeneaaDoor.two,List.getElem?_cons_zero,Option.some.injEq] at hk
  subst hk
  have:=(h.at (i:=j * 2) (by omega)).1
  rw [show yal l s (j * 2)=yam (ybl l j) s by unfold yal;rw [if_pos (by omega),show j * 2 / 2=j by omega]] at this
  simpa using this
 | succ k =>
  cases k with
  | zero =>
   simp only [Go.Proofs.YtbbanmifdbeneaaDoor.two,List.getElem?_cons_succ,List.getElem?_cons_zero,Option.some.injEq] at hk
   subst hk
   have:=(h.at (i:=j * 2+1) (by omega)).1
   rw [show yal l s (j * 2+1)=yam (yd8 l j) s by unfold yal;rw [if_neg (by omega),show (j * 2+1) / 2=j by omega]] at this
   simpa using this
  | succ k=>simp [Go.Proofs.YtbbanmifdbeneaaDoor.two] at hk
theorem yex (l:List Int) (s:List (Int×Int)) (i:Nat):0≤yal l s i∧yal l s i≤s.length:=by
 unfold yal
 split<;>exact ybr _ _
theorem ydp {l:List Int} {s:List (Int×Int)} {k i ka kb:Nat} {x1 x2:Int} (h:∀ p:Int×Int→Bool,yam p (s.take (k+1))=yam p (s.take k)+if p (x1,x2)=true then 1 else 0) (ha:yad l x1=ka) (hb:yad l x2=kb) :
  yal l (s.take (k+1)) i=yal l (s.take k) i+if i % 2=0 then (if ka=kb∧i / 2=ka then 1 else 0) else (if ka≤i / 2∧i / 2≤kb then 1 else 0):=by
 unfold yal
 by_cases e:i % 2=0
 ·rw [if_pos e,if_pos e,if_pos e,h]
  congr 1
  unfold ybl
  dsimp only
  simp only [ha,hb,Bool.and_eq_true,decide_eq_true_eq]
  by_cases h2:ka=kb∧i / 2=ka
  ·rw [if_pos h2,if_pos (by omega)]
  ·rw [if_neg h2,if_neg (by omega)]
 ·rw [if_neg e,if_neg e,if_neg e,h]
  congr 1
  unfold yd8
  dsimp only
  simp only [ha,hb,Bool.and_eq_true,decide_eq_true_eq]
  by_cases h2:ka≤i / 2∧i / 2≤kb
  ·rw [if_pos h2,if_pos (by omega)]
  ·rw [if_neg h2,if_neg (by omega)]
theorem ydf (w:World) (n:Nat) (hn:n≤1000):∃ W,(Instr.makeSlice 24 (.int .i64 ((n:Int)+1)) (.int .i64 ((n:Int)+1))).run Tryd.prog w=.ok (.slice (some ⟨w.heap.size,0,none⟩) (n+1) (n+1)) W∧CellsI W w.heap.size ((n+1) * 2) (fun _=>0)∧Nx w W:=by
 obtain⟨i,hi,hz,hs,hby⟩:=T24.info
 have h:=run_make w 24 28 i _ T24.und hi hz .i64 .i64 ((n:Int)+1) ((n:Int)+1) (by omega) (Int.le_refl _) (by rw [hby];omega) (by omega)
 rw [show ((n:Int)+1).toNat=n+1 by omega,hs] at h
 refine⟨_,h,⟨_,heap_alloc_new w _,size_madeCells _ _,fun j hj=>?_⟩,zaG (Below.refl _ _) _⟩
 unfold madeCells
 rw [Array.getElem?_map,Array.getElem?_range]
 simp only [hj,if_true,Option.map_some,Option.some.injEq]
 rcases Nat.mod_two_eq_zero_or_one j with e | e<;>simp [Value.cells,e]
theorem ybs {l:List Int} {s:List (Int×Int)} (h:yae l s=0):l.length≤3∧s.length≤20∧(∀ (i:Nat) x,s[i]?=some x→0≤x.1∧x.1≤x.2∧x.2≤100):=by
 unfold yae at h
 split at h
 ·cases h
 rename_i h1
 split at h
 ·rename_i h2;exact absurd h h2
 split at h
 ·cases h
 rename_i h3
 refine⟨by omega,by omega,fun i x hx=>?_⟩
 have:=zcv h i x hx
 unfold ycu at this
 split at this
 ·assumption
 ·cases this
theorem ya7 (u v:Value) (l:List Int) (s:List (Int×Int)) (w:World) (hu:Sl w u 1 (l.map fun x=>[num x])) (hv:Sl w v 2 (s.map two)) (hl:l.length≤1000000) (hs:s.length≤1000000) (h0:yae l s=0) :
  CallsIn FL 0 Tryd.prog 14 #[u,v] w fun e w'=>∃ g,e=.returned (.tuple #[.slice (some ⟨g,0,none⟩) (l.length+1) (l.length+1),num 0])∧Nx w w'∧Sl w' (.slice (some ⟨g,0,none⟩) (l.length+1) (l.length+1)) 2 ((ya5 l s).map two):=by
 obtain⟨a,cap,rfl⟩:=hu.cases
 obtain⟨a',cap',rfl⟩:=hv.cases
 obtain⟨h3,h20,hok⟩:=ybs h0
 have k34:=ycz _ _ l s w hu hv hl hs
 rw [List.length_map] at hu hv k34 ⊢
 rw [List.length_map] at k34 ⊢
 rw [h0] at k34
 have HU:=Lib.hid hu
 have HV:=Lib.hid hv
 have HOK:=Lib.hid hok
 clear hu hv h0 hok
 have HMK:=Lib.hid (fun x=>ydf x l.length (by omega))
 gi_enter Tryd.func14,Tryd.ntmps14
 gi_upto_region 4 with (first | (gi_at_call 34;refine CallsIn.mono k34 ?_;rintro e w1 ⟨rfl,n1⟩) | gi_in)
 obtain⟨W2,hmk,hcells,n2⟩:=HMK.out w1
 have HC:=Lib.hid hcells
 clear k34 hcells
 gi_wp2
 have n12:Nx w W2:=Nx.trans n1 n2
 have hgs:=n1.size
 generalize w1.heap.size=g at *
 gi_loopw [25] (fun i wr=>∃ k:Nat,k≤s.length∧i=num k∧CellsI wr g ((l.length+1) * 2) (yal l (s.take k))∧Nx w wr) (fun i _=>s.length-(intOf i).toNat)
 case atStart=>exact⟨0,Nat.zero_le _,rfl,HC.out.ext fun i _=>by unfold yal;split<;>rfl,n12⟩
 case round =>
  obtain⟨k,hk,rfl,hcl0,n3⟩:=hrel
  have HCL:=Lib.hid hcl0
  clear hcl0
  by_cases hlt:k<s.length
  ·obtain⟨b,off,ha,hbl,hcl⟩:=(HV.out.nx n3).get (by simp;omega)
   subst ha
   have hx:s[k]?=some s[k]:=List.getElem?_eq_getElem hlt
   have hxo:=HOK.out k _ hx
   generalize s[k]=x at hx hxo
   obtain⟨x1,x2⟩:=x
   obtain⟨g1,g2⟩:=Sl.at2 hcl (Below.refl _ wr) hbl hx
   dsimp only at hxo
   have hm:=yah (a:=x1) (b:=x2) (by omega) l
   have hA:=ya1 x1 l
   have hB:=ya1 x2 l
   have HT:=Lib.hid (fun (p:Int×Int→Bool)=>ydo p hx)
   have HKA:=Lib.hid (fun y (n:Nx w y)=>ya2 (.slice a l.length cap) l x1 y (HU.out.nx n) hl)
   have HKB:=Lib.hid (fun y (n:Nx w y)=>ya2 (.slice a l.length cap) l x2 y (HU.out.nx n) hl)
   clear hcl hx
   obtain⟨ka,hka⟩:=Int.eq_ofNat_of_zero_le hA.1
   obtain⟨kb,hkb⟩:=Int.eq_ofNat_of_zero_le hB.1
   rw [hka,hkb] at hm
   rw [hka] at hA
   rw [hkb] at hB
   have HAB:=Lib.hid (And.intro hka hkb)
   rw [hka] at HKA
   rw [hkb] at HKB
   clear hka hkb
   have hab:ka≤kb:=by omega
   have hbn:kb≤l.length:=by omega
   gi_upto_region 8 with fail
   have n4:Nx w (wr.alloc (.cells #[num x1,num x2] 28)):=zaG n3 _
   have hc4:=HCL.out.nx (zaG (Below.refl _ wr) (.cells #[num x1,num x2] 28))
   have c0:(wr.alloc (.cells #[num x1,num x2] 28)).cell? ⟨wr.heap.size,0,none⟩=some (num x1):=by
    unfold World.cell?
    dsimp only
    rw [heap_alloc_new]
    rfl
   have c1:(wr.alloc (.cells #[num x1,num x2] 28)).cell? ⟨wr.heap.size,1,none⟩=some (num x2):=by
    unfold World.cell?
    dsimp only
    rw [heap_alloc_new]
    rfl
   have HC3:=Lib.hid hc4
   have HFin:=Lib.hid (fun i (_:i<(l.length+1) * 2)=>ydp (l:=l) (s:=s) (k:=k) (i:=i) HT.out HAB.out.1 HAB.out.2)
   have HBD:=Lib.hid (fun i=>yex l (s.take k) i)
   have hlk:(s.take k).length≤20:=by rw [List.length_take];omega
   have HLK:=Lib.hid hlk
   clear hlk hc4 HCL HT HAB g1 g2 hbl
   generalize hW:wr.alloc (.cells #[num x1,num x2] 28)=W3 at n4 HC3 c0 c1 ⊢
   clear hW
   generalize wr.heap.size=gx at *
   have KA:=fun n=>CallsIn.quiet_of_same (HKA.out (W3.drewN n) (Nx.drewN n4 n))
   have KB:=fun n=>CallsIn.quiet_of_same (HKB.out (W3.drewN n) (Nx.drewN n4 n))
   gi_big_quiet_th (first | with_reducible exact KA _ | with_reducible exact KB _)
   have n5:Nx w (W3.drewN nq):=Nx.drewN n4 nq
   have HC4:=Lib.hid (HC3.out.nx (Nx.drewN (Below.refl _ _) nq))
   clear KA KB HKA HKB c0 c1 HC3 n4
   generalize W3.drewN nq=W4 at n5 HC4 ⊢
   by_cases e:ka=kb
   case' pos =>
    have b1:((ka:Int) == (kb:Int))=true:=by simp [e]
    obtain⟨cA,fA⟩:=HC4.out.at (i:=ka * 2) (by omega)
    have hbv:=HBD.out (ka * 2)
    generalize hv:yal l (s.take k) (ka * 2)=v at cA hbv
    have hlk:=HLK.out
    have hvv:0≤v∧v≤20:=by omega
    have HVV:=Lib.hid hv
    have HE:=Lib.hid e
    clear hbv hlk hv e
    gi_wp2
    have n6:=Below.setCell n5 (p:=⟨g,ka * 2,none⟩) hgs (num (v+1))
    have hc5:CellsI (W4.setCell ⟨g,ka * 2,none⟩ (num (v+1))) g ((l.length+1) * 2) (fun j=>yal l (s.take k) j+if j % 2=0∧ka=kb∧j / 2=ka then 1 else 0):=((HC4.out.set (i:=ka * 2) (by omega) (v+1)).ext fun j _=>by
     by_cases h:j=ka * 2
     ·rw [if_pos h,if_pos ⟨by omega,HE.out,by omega⟩,h,HVV.out]
     ·rw [if_neg h,if_neg (by omega),Int.add_zero])
    have HC5:=Lib.hid hc5
    clear cA fA HVV hvv HC4 n5 b1 hc5
    generalize W4.setCell ⟨g,ka * 2,none⟩ (num (v+1))=W5 at n6 HC5 ⊢
   case' neg =>
    have b1:((ka:Int) == (kb:Int))=false:=beq_false_of_ne (by omega)
    have HE:=Lib.hid e
    clear e
    gi_wp2
    have n6:=n5
    have hc5:CellsI W4 g ((l.length+1) * 2) (fun j=>yal l (s.take k) j+if j % 2=0∧ka=kb∧j / 2=ka then 1 else 0):=(HC4.out.ext fun j _=>by
     rw [if_neg (fun h=>HE.out h.2.1),Int.add_zero])
    have HC5:=Lib.hid hc5
    clear HC4 n5 b1 hc5
   all_goals
    gi_loopw [12] (fun i wi=>∃ c:Nat,ka≤c∧c≤kb+1∧i=num c∧CellsI wi g ((l.length+1) * 2) (fun j=>(yal l (s.take k) j+if j % 2=0∧ka=kb∧j / 2=ka then 1 else 0)+if j % 2=1∧ka≤j / 2∧j / 2<c then 1 else 0)∧Nx w wi) (fun i _=>kb+1-(intOf i).toNat)
    case atStart=>exact⟨ka,Nat.le_refl _,by omega,rfl,HC5.out.ext fun i _=>by rw [if_neg (show ¬ (i % 2=1∧ka≤i / 2∧i / 2<ka) by omega),Int.add_zero],n6⟩
    case round =>
     obtain⟨c,hc1,hc2,rfl,hci,n7⟩:=hrel
     have HCI:=Lib.hid hci
     clear hci
     by_cases hcb:c≤kb
     ·obtain⟨cA,fA⟩:=HCI.out.at (i:=c * 2+1) (by omega)
      have hbv:=HBD.out (c * 2+1)
      have hlk:=HLK.out
      generalize hv:((yal l (s.take k) (c * 2+1)+if (c * 2+1) % 2=0∧ka=kb∧(c * 2+1) / 2=ka then 1 else 0)+if (c * 2+1) % 2=1∧ka≤(c * 2+1) / 2∧(c * 2+1) / 2<c then 1 else 0)=v at cA
      have hvv:v=yal l (s.take k) (c * 2+1):=by
       rw [← hv,if_neg (by omega),if_neg (by omega)]
       omega
      have hv2:0≤v∧v≤20:=by omega
      have HVV:=Lib.hid hvv
      clear hbv hlk hv hvv
      have b2:decide ((c:Int)≤(kb:Int))=true:=by simpa using hcb
      gi_wp2
      refine⟨⟨c+1,by omega,by omega,by simp,(HCI.out.set (i:=c * 2+1) (by omega) (v+1)).ext fun j _=>?_,Below.setCell n7 hgs _⟩,by simp [intOf];omega⟩
      by_cases h:j=c * 2+1
      ·rw [if_pos h,h,HVV.out,if_neg (by omega),if_pos (by omega)]
       omega
      ·rw [if_neg h]
       congr 1
       by_cases h2:j % 2=1∧ka≤j / 2∧j / 2<c
       ·rw [if_pos h2,if_pos (by omega)]
       ·rw [if_neg h2,if_neg (by omega)]
     ·obtain rfl:c=kb+1:=by omega
      have b2:decide (((kb+1:Nat):Int)≤(kb:Int))=false:=by
       rw [decide_eq_false_iff_not]
       omega
      gi_wp2
      refine⟨⟨k+1,hlt,by simp,HCI.out.ext fun i hi=>?_,n7⟩,by simp [intOf];omega⟩
      rw [HFin.out i hi,Int.add_assoc]
      congr 1
      by_cases h:i % 2=0
      ·rw [if_pos h,if_neg (show ¬ (i % 2=1∧ka≤i / 2∧i / 2<kb+1) by omega),Int.add_zero]
       by_cases h2:ka=kb∧i / 2=ka
       ·rw [if_pos h2,if_pos ⟨h,h2⟩]
       ·rw [if_neg h2,if_neg (fun x=>h2 x.2)]
      ·rw [if_neg h,if_neg (show ¬ (i % 2=0∧ka=kb∧i / 2=ka) from fun x=>h x.1),Int.zero_add]
       by_cases h2:ka≤i / 2∧i / 2≤kb
       ·rw [if_pos h2,if_pos (by omega)]
       ·rw [if_neg h2,if_neg (by omega)]
  ·obtain rfl:k=s.length:=by omega
   gi_wp2
   refine bodyPost_ret (v:=.tuple #[.slice (some ⟨g,0,none⟩) (l.length+1) (l.length+1),num 0]) (by simp [results,Tryd.results14,go_sem]) rfl ?_
   have h:=HCL.out
   rw [List.take_length] at h
   exact⟨g,rfl,n3,h.sl⟩
end Go.Proofs.YtbbanmifdbeneaaDoor

namespace Go.Proofs.YtbbanmifdbeneaaDoor
def Dit.plotAt (d:Dit) (k:Int):Option Plot:=if 0≤k then d.plots[k.toNat]? else none
def ybm (d:Dit) (holder:Int):List Int→Int×Int×Int→Option (Int×Int×Int)
 | [],s=>some s
 | k :: l,s=>match d.plotAt k with
  | some p=>if s.1<k∧p.holder=holder∧(d.needs p).2=true then ybm d holder l (k,s.2.1+(d.needs p).1,s.2.2+p.worth) else none
  | none=>none
theorem ybe {d:Dit} {k:Int} {p:Plot} (h:d.plotAt k=some p):0≤k∧k<d.plots.length∧d.plots[k.toNat]?=some p:=by
 unfold Dit.plotAt at h
 split at h
 ·have:=(List.getElem?_eq_some_iff.1 h).1
  exact⟨by omega,by omega,h⟩
 ·cases h
theorem ydg {d:Dit} (k:Nat):d.plotAt k=d.plots[k]?:=by
 unfold Dit.plotAt
 rw [if_pos (by omega),Int.toNat_natCast]
theorem ybf (d:Dit) (holder:Int):∀ (l m:List Int) s,ybm d holder (l++m) s=(ybm d holder l s).bind (ybm d holder m)
 | [],m,s=>rfl
 | k :: l,m,s=>by
  simp only [List.cons_append,ybm]
  cases d.plotAt k with
  | none=>rfl
  | some p =>
   dsimp only
   split
   ·exact ybf d holder l m _
   ·rfl
theorem ydq {d:Dit} (hO:d.Ok) {k:Int} {p:Plot} (hp:d.plotAt k=some p):0≤(d.needs p).1:=by
 obtain⟨_,_,h⟩:=ybe hp
 have:=(hO.pl _ p h).2.2.2.2.1
 exact (zos hO (p:=p) (by omega)).1
theorem yb1 {d:Dit} (hO:d.Ok) (holder:Int):∀ (l:List Int) s t,ybm d holder l s=some t→s.2.1≤t.2.1
 | [],s,t,h=>by cases h;exact Int.le_refl _
 | k :: l,s,t,h=>by
  simp only [ybm] at h
  cases hp:d.plotAt k with
  | none=>rw [hp] at h;cases h
  | some p =>
   rw [hp] at h
   dsimp only at h
   split at h
   ·have:=yb1 hO holder l _ t h
    have:=ydq hO hp
    dsimp only at *
    omega
   ·cases h
def leC (x y:Int×Int):Prop:=x.2<y.2∨(x.2=y.2∧y.1≤x.1)
theorem leC.trans {x y z:Int×Int} (h:leC x y) (h2:leC y z):leC x z:=by unfold leC at *;omega
theorem leC.refl (x:Int×Int):leC x x:=by unfold leC;omega
theorem ydr {c b:Choice} (h:c.better b=true):leC (b.hours,b.worth) (c.hours,c.worth):=by
 unfold Choice.better at h
 unfold leC
 dsimp only
 split at h
 ·have:=of_decide_eq_true h;omega
 ·split at h
  ·have:=of_decide_eq_true h;omega
  ·omega
theorem ydh {c b:Choice} (h:c.better b=false):leC (c.hours,c.worth) (b.hours,b.worth):=by
 unfold Choice.better at h
 unfold leC
 dsimp only
 split at h
 ·have:=of_decide_eq_false h;omega
 ·split at h
  ·have:=of_decide_eq_false h;omega
  ·omega
theorem yds (c b:Choice):leC (b.hours,b.worth) ((if c.better b then c else b).hours,(if c.better b then c else b).worth)∧leC (c.hours,c.worth) ((if c.better b then c else b).hours,(if c.better b then c else b).worth):=by
 cases h:c.better b with
 | true=>exact⟨ydr h,leC.refl _⟩
 | false=>exact⟨leC.refl _,ydh h⟩
structure ChOk (d:Dit) (holder most:Int) (c:Choice) (k:Int):Prop where
 st:∃ q,q<k∧ybm d holder c.plots (-1,0,0)=some (q,c.hours,c.worth)
 most:c.hours≤most
theorem ChOk.add {d:Dit} {holder most:Int} {c:Choice} {k:Int} (h:ChOk d holder most c k) {p:Plot} (hp:d.plotAt k=some p) (hf:d.fits holder most c p=true):ChOk d holder most (c.add d k p) (k+1):=by
 obtain⟨⟨q,hq,hs⟩,hm⟩:=h
 unfold Dit.fits at hf
 simp only [Bool.and_eq_true,decide_eq_true_eq] at hf
 refine⟨⟨k,by omega,?_⟩,hf.2.2⟩
 unfold Choice.add
 dsimp only
 rw [ybf,hs]
 simp only [Option.bind_some,ybm,hp]
 rw [if_pos ⟨hq,hf.2.1,hf.1⟩]
theorem ChOk.up {d:Dit} {holder most:Int} {c:Choice} {k m:Int} (h:ChOk d holder most c k) (hk:k≤m):ChOk d holder most c m:=⟨let ⟨q,hq,hs⟩:=h.st;⟨q,by omega,hs⟩,h.most⟩
theorem ybb {d:Dit} (hO:d.Ok) (holder most:Int):∀ (ps:List Plot) (c:Choice) (k:Nat) (b:Choice),ps=d.plots.drop k→ChOk d holder most c k→ChOk d holder most b d.plots.length →
  ChOk d holder most (goS d holder most ps c k b) d.plots.length∧leC (b.hours,b.worth) ((goS d holder most ps c k b).hours,(goS d holder most ps c k b).worth) ∧
  ∀ (x:Int) (l:List Int) (q:Int) t,(k:Int)≤x→q<k→ybm d holder (x :: l) (q,c.hours,c.worth)=some t→t.2.1≤most→leC (t.2.1,t.2.2) ((goS d holder most ps c k b).hours,(goS d holder most ps c k b).worth)
 | [],c,k,b,hps,hc,hb=>by
  refine⟨hb,leC.refl _,fun x l q t hx hq ht hm=>?_⟩
  simp only [ybm] at ht
  cases hp:d.plotAt x with
  | none=>rw [hp] at ht;cases ht
  | some p =>
   obtain⟨h1,h2,_⟩:=ybe hp
   have:=congrArg List.length hps
   simp only [List.length_nil,List.length_drop] at this
   omega
 | p :: ps,c,k,b,hps,hc,hb=>by
  have hk:d.plots[k]?=some p:=by
   have:(d.plots.drop k)[0]?=some p:=by rw [← hps];rfl
   simpa using this
  have hkl:=(List.getElem?_eq_some_iff.1 hk).1
  have hps' : ps=d.plots.drop (k+1):=by
   have:=congrArg List.tail hps
   simpa [List.tail_drop] using this
  have hpa:d.plotAt (k:Int)=some p:=by rw [ydg];exact hk
  unfold goS
  have e1:((k:Int)+1)=((k+1:Nat):Int):=by omega
  rw [e1]
  cases hf:d.fits holder most c p with
  | false =>
   simp only [Bool.false_eq_true,if_false]
   obtain⟨r1,r2,r3⟩:=ybb hO holder most ps c (k+1) b hps' (hc.up (by omega)) hb
   refine⟨r1,r2,fun x l q t hx hq ht hm=>?_⟩
   by_cases hxk:x=k
   ·subst hxk
    exfalso
    simp only [ybm,hpa] at ht
    split at ht
    ·rename_i hh
     have h2:=yb1 hO holder l _ t ht
     dsimp only at h2
     unfold Dit.fits at hf
     rw [hh.2.2,decide_eq_true hh.2.1,decide_eq_true (show c.hours+(d.needs p).1≤most by omega)] at hf
     cases hf
    ·cases ht
   ·exact r3 x l q t (by omega) (by omega) ht hm
  | true =>
   simp only [if_true]
   have hadd:=hc.add hpa hf
   have hb1:ChOk d holder most (if (c.add d k p).better b then c.add d k p else b) d.plots.length:=by
    split
    ·exact hadd.up (by omega)
    ·exact hb
   obtain⟨p1,p2⟩:=yds (c.add d k p) b
   obtain⟨s1,s2,s3⟩:=ybb hO holder most ps (c.add d k p) (k+1) (if (c.add d k p).better b then c.add d k p else b) hps' (by rw [← e1];exact hadd) hb1
   obtain⟨r1,r2,r3⟩:=ybb hO holder most ps c (k+1) _ hps' (hc.up (by omega)) s1
   refine⟨r1,p1.trans (s2.trans r2),fun x l q t hx hq ht hm=>?_⟩
   by_cases hxk:x=k
   ·subst hxk
    simp only [ybm,hpa] at ht
    split at ht
    ·cases l with
     | nil =>
      cases ht
      exact p2.trans (s2.trans r2)
     | cons y l =>
      have hy:((k:Nat):Int)<y:=by
       simp only [ybm] at ht
       cases hp2:d.plotAt y with
       | none=>rw [hp2] at ht;cases ht
       | some p2 =>
        rw [hp2] at ht
        dsimp only at ht
        split at ht
        ·rename_i hh;exact hh.1
        ·cases ht
      exact (s3 y l k t (by omega) (by omega) ht hm).trans r2
    ·cases ht
   ·exact r3 x l q t (by omega) (by omega) ht hm
theorem yda {d:Dit} (hO:d.Ok) (holder most:Int) (h0:0≤most):∃ q,ybm d holder (tryS d holder most ⟨[],0,0⟩ 0 ⟨[],0,0⟩).plots (-1,0,0)=some (q,(tryS d holder most ⟨[],0,0⟩ 0 ⟨[],0,0⟩).hours,(tryS d holder most ⟨[],0,0⟩ 0 ⟨[],0,0⟩).worth) ∧
  (tryS d holder most ⟨[],0,0⟩ 0 ⟨[],0,0⟩).hours≤most ∧
  ∀ l t,ybm d holder l (-1,0,0)=some t→t.2.1≤most→leC (t.2.1,t.2.2) ((tryS d holder most ⟨[],0,0⟩ 0 ⟨[],0,0⟩).hours,(tryS d holder most ⟨[],0,0⟩ 0 ⟨[],0,0⟩).worth):=by
 have hc0:∀ k:Int,0≤k→ChOk d holder most ⟨[],0,0⟩ k:=fun k hk=>⟨⟨-1,by omega,rfl⟩,h0⟩
 have e:(if Choice.better ⟨[],0,0⟩ ⟨[],0,0⟩ then (⟨[],0,0⟩:Choice) else ⟨[],0,0⟩)=⟨[],0,0⟩:=by split<;>rfl
 unfold tryS
 rw [e]
 obtain⟨r1,r2,r3⟩:=ybb hO holder most (d.plots.drop 0) ⟨[],0,0⟩ 0 ⟨[],0,0⟩ rfl (hc0 _ (by omega)) (hc0 _ (by omega))
 obtain⟨q,_,hq⟩:=r1.st
 refine⟨q,hq,r1.most,fun l t ht hm=>?_⟩
 cases l with
 | nil=>cases ht;exact r2
 | cons x l =>
  refine r3 x l (-1) t ?_ (by omega) ht hm
  simp only [ybm] at ht
  cases hp:d.plotAt x with
  | none=>rw [hp] at ht;cases ht
  | some p=>have:=(ybe hp).1;omega
def ycj (d:Dit) (holder price:Int):List Plot→Int→Int
 | [],n=>n
 | p :: ps,n=>ycj d holder price ps (if (d.needs p).2 && decide (p.holder=holder) then n+max 0 (p.worth-price * (d.needs p).1) else n)
def yay (d:Dit) (holder a b price:Int):Int×Int:=if askS d holder a b≠0 then (0,askS d holder a b) else if 0≤price∧price≤10000 then (ycj d holder price d.plots (price * d.hoursW holder a b),0) else (0,1)
def yd5 (d:Dit) (holder price:Int) (p:Plot):Int:=if (d.needs p).2 && decide (p.holder=holder) then max 0 (p.worth-price * (d.needs p).1) else 0
def ybg (d:Dit) (holder price:Int):List Plot→Int
 | []=>0
 | p :: ps=>yd5 d holder price p+ybg d holder price ps
theorem ybt (d:Dit) (holder price:Int):∀ (ps:List Plot) (n:Int),ycj d holder price ps n=n+ybg d holder price ps
 | [],n=>by simp [ycj,ybg]
 | p :: ps,n=>by
  unfold ycj ybg yd5
  rw [ybt d holder price ps]
  split<;>omega
theorem yd9 (d:Dit) (holder price:Int) (p:Plot):0≤yd5 d holder price p:=by unfold yd5;split<;>omega
end Go.Proofs.YtbbanmifdbeneaaDoor

namespace Go.Proofs.YtbbanmifdbeneaaDoor
open Go.RowKit
def yen (f:Nat→Int) (l:List Plot):List Plot:=l.mapIdx fun i p=>{ p with worth:=f i }
def Dit.wor (d:Dit) (f:Nat→Int):Dit:={ d with plots:=yen f d.plots }
theorem ydt (d:Dit) (f:Nat→Int) (i:Nat):(d.wor f).plots[i]?=(d.plots[i]?).map fun p=>{ p with worth:=f i }:=by
 unfold Dit.wor yen
 rw [List.getElem?_mapIdx]
theorem ydu (d:Dit) (f:Nat→Int):(d.wor f).plots.length=d.plots.length:=by
 unfold Dit.wor yen
 rw [List.length_mapIdx]
theorem yb2 (d:Dit) (f g:Nat→Int) (p:Plot) (x y:Int):(d.wor f).needs { p with worth:=x }=(d.wor g).needs { p with worth:=y }:=rfl
theorem yb3 {d:Dit} {f:Nat→Int} (h:zaF d=0) (hf:∀ i,0≤f i∧f i≤10000):zaF (d.wor f)=0:=by
 have e1:zaI (d.wor f)=zaI d:=rfl
 have e2:zaJ (d.wor f)=zaJ d:=rfl
 have e3:zaq (d.wor f)=zaq d:=rfl
 unfold zaF at h ⊢
 rw [e1,e2,e3]
 split at h
 ·rename_i h1;exact absurd h h1
 rename_i h1
 rw [if_neg h1]
 split at h
 ·rename_i h2;exact absurd h h2
 rename_i h2
 rw [if_neg h2]
 split at h
 ·rename_i h3;exact absurd h h3
 rename_i h3
 rw [if_neg h3]
 unfold zaO at h ⊢
 rw [ydu]
 split at h
 ·cases h
 rename_i h4
 rw [if_neg (show ¬ ¬ ((0≤(d.wor f).flow.1∧(d.wor f).flow.1≤(d.wor f).flow.2∧(d.wor f).flow.2≤100000)∧(0≤(d.wor f).loss.1∧(d.wor f).loss.1≤(d.wor f).loss.2∧(d.wor f).loss.2≤1000)) from h4)]
 split at h
 ·cases h
 rename_i h5
 rw [if_neg h5]
 refine ybp fun j x hx=>?_
 rw [ydt] at hx
 obtain⟨p,hp,rfl⟩:=Option.map_eq_some_iff.1 hx
 have hz:=zcv h j p hp
 rw [Nat.zero_add] at hz ⊢
 rw [← hz]
 unfold zfJ
 have e4:((d.wor f).plots.take j).any (fun o=>decide (o.name=p.name))=(d.plots.take j).any (fun o=>decide (o.name=p.name)):=by
  have hn:(d.wor f).plots.map (·.name)=d.plots.map (·.name):=by
   refine List.ext_getElem? fun i=>?_
   rw [List.getElem?_map,List.getElem?_map,ydt,Option.map_map]
   rfl
  have h6:∀ l:List Plot,l.any (fun o=>decide (o.name=p.name))=(l.map (·.name)).any (fun o=>decide (o=p.name)):=fun l=>by
   rw [List.any_map]
   rfl
  rw [h6,h6,List.map_take,List.map_take,hn]
 have e5:decide (0≤f j∧f j≤10000)=true:=decide_eq_true (hf j)
 unfold zfJ at hz
 dsimp only
 rw [e4,e5]
 change zjv _ _ (decide (0≤p.holder∧p.holder≤(d.holders.length:Int)-1)) _ _ _=_
 generalize decide (0≤p.worth∧p.worth≤10000)=b6 at hz ⊢
 rw [hz]
 generalize zbu p.name=b1 at hz ⊢
 generalize List.any (List.take j d.plots) _=b2 at hz ⊢
 generalize decide (0≤p.holder∧p.holder≤(d.holders.length:Int)-1)=b3 at hz ⊢
 generalize decide (0≤p.far∧p.far≤20)=b4 at hz ⊢
 generalize decide (0≤p.low∧p.low≤p.high∧p.high≤999999999)=b5 at hz ⊢
 revert hz
 cases b1<;>cases b2<;>cases b3<;>cases b4<;>cases b5<;>cases b6<;>decide
theorem yb4 (d:Dit) {f g:Nat→Int} (hfg:∀ i,f i≤g i) (holder:Int):∀ (l:List Int) (a b w:Int) t (w2:Int),ybm (d.wor f) holder l (a,b,w)=some t→w≤w2→∃ w',ybm (d.wor g) holder l (a,b,w2)=some (t.1,t.2.1,w')∧t.2.2≤w'
 | [],a,b,w,t,w2,h,hw=>by
  cases h
  exact⟨w2,rfl,hw⟩
 | k :: l,a,b,w,t,w2,h,hw=>by
  simp only [ybm] at h ⊢
  unfold Dit.plotAt at h ⊢
  by_cases hk:0≤k
  ·rw [if_pos hk,ydt] at h ⊢
   cases hp:d.plots[k.toNat]? with
   | none=>rw [hp] at h;cases h
   | some p =>
    rw [hp] at h
    dsimp only [Option.map_some] at h ⊢
    rw [yb2 d g f p (g k.toNat) (f k.toNat)]
    split at h
    ·rename_i hc
     rw [if_pos hc]
     exact yb4 d hfg holder l _ _ _ t _ h (by have:=hfg k.toNat;omega)
    ·cases h
  ·rw [if_neg hk] at h
   cases h
theorem ydv {d:Dit} {f g:Nat→Int} (hOf:(d.wor f).Ok) (hOg:(d.wor g).Ok) (hfg:∀ i,f i≤g i) (holder most:Int) (h0:0≤most) :
  (tryS (d.wor f) holder most ⟨[],0,0⟩ 0 ⟨[],0,0⟩).worth≤(tryS (d.wor g) holder most ⟨[],0,0⟩ 0 ⟨[],0,0⟩).worth:=by
 obtain⟨q,h1,h2,_⟩:=yda hOf holder most h0
 obtain⟨_,_,_,h3⟩:=yda hOg holder most h0
 obtain⟨w',h4,h5⟩:=yb4 d hfg holder _ _ _ _ _ 0 h1 (Int.le_refl _)
 have:=h3 _ _ h4 h2
 unfold leC at this
 dsimp only at this h5
 omega
theorem yb5 {d:Dit} {f g:Nat→Int} (hfg:∀ i,f i≤g i) (holder price:Int):∀ (l:List Plot) (k:Nat),ybg (d.wor f) holder price (l.mapIdx fun i p=>{ p with worth:=f (k+i) })≤ybg (d.wor g) holder price (l.mapIdx fun i p=>{ p with worth:=g (k+i) })
 | [],_=>Int.le_refl _
 | p :: l,k=>by
  have ih:=yb5 (d:=d) hfg holder price l (k+1)
  rw [List.mapIdx_cons,List.mapIdx_cons]
  simp only [ybg]
  have e:∀ h:Nat→Int,(l.mapIdx fun i p=>{ p with worth:=h (k+(i+1)) }:List Plot)=l.mapIdx fun i p=>{ p with worth:=h (k+1+i) }:=fun h=>by
   congr 1
   funext i p
   rw [show k+(i+1)=k+1+i by omega]
  rw [e f,e g]
  refine Int.add_le_add ?_ ih
  unfold yd5
  rw [yb2 d f g p _ (g (k+0))]
  dsimp only
  split
  ·have:=hfg (k+0)
   omega
  ·exact Int.le_refl _
theorem ydw {d:Dit} {f g:Nat→Int} (hfg:∀ i,f i≤g i) (holder price n:Int):ycj (d.wor f) holder price (d.wor f).plots n≤ycj (d.wor g) holder price (d.wor g).plots n:=by
 rw [ybt,ybt]
 have:=yb5 (d:=d) hfg holder price d.plots 0
 simp only [Nat.zero_add] at this
 exact Int.add_le_add_left this _
theorem ydx {α:Type} {p q:α→Bool}:∀ {l m:List α},l.length=m.length→(∀ (i:Nat) x y,l[i]?=some x→m[i]?=some y→p x=true→q y=true)→yam p l≤yam q m
 | [],[],_,_=>Int.le_refl _
 | x :: l,y :: m,hl,h=>by
  have ih:=ydx (l:=l) (m:=m) (by simpa using hl) fun i a b ha hb=>h (i+1) a b (by simpa using ha) (by simpa using hb)
  have h0:=h 0 x y rfl rfl
  simp only [yam]
  split
  ·rename_i hx
   rw [if_pos (h0 hx)]
   omega
  ·split<;>omega
theorem yea {l:List Int} {s b:List (Int×Int)} (hl:s.length=b.length) (h:∀ (i:Nat) x y,s[i]?=some x→b[i]?=some y→x.1≤y.1∧y.1≤y.2∧y.2≤x.2) (c:Nat):yam (ybl l c) s≤yam (ybl l c) b:=by
 refine ydx hl fun i x y hx hy hp=>?_
 obtain⟨h1,h2,h3⟩:=h i x y hx hy
 have m1:=yah h1 l
 have m2:=yah h2 l
 have m3:=yah h3 l
 unfold ybl at hp ⊢
 simp only [Bool.and_eq_true,decide_eq_true_eq] at hp ⊢
 omega
end Go.Proofs.YtbbanmifdbeneaaDoor

namespace Go.Proofs.YtbbanmifdbeneaaDoor
open Go.RowKit Go.Con Go.Conc
local instance pnI2:Lone:=zcG
section
variable {dst:Option Nat} {ty:TypeId} {pos:String} {af:Array Edge} {x y c b o:Nat} {w:World} {gd:Option (Nat×Bool)} (e:Operand→Value)
theorem ydb {n m:Int} (h:e (.tmp x)=num n) (h2:e (.tmp y)=num m) (hn:m≤n) (τ:Tape):(execOp e ⟨dst,.binOp .geq 3 (.tmp x) (.tmp y) 3,ty,pos,af,gd⟩).run Tryd.prog { w with tape:=τ }=.ok (.value (.bool true)) { w with tape:=τ }:=by
 simp [execOp,go_sem,h,h2,hn]
theorem yao {n:Int} (h:e (.tmp x)=num n) (h2:e (.const (.int .i64 n))=num n) (τ:Tape):(execOp e ⟨dst,.binOp .eql 38 (.tmp x) (.const (.int .i64 n)) 38,ty,pos,af,gd⟩).run Tryd.prog { w with tape:=τ }=.ok (.value (.bool true)) { w with tape:=τ }:=by
 simp [execOp,go_sem,h,h2]
end
end Go.Proofs.YtbbanmifdbeneaaDoor

namespace Go.Proofs.YtbbanmifdbeneaaDoor
open Go.RowKit
theorem ybh (d:Dit) (holder price:Int):∀ l m:List Plot,ybg d holder price (l++m)=ybg d holder price l+ybg d holder price m
 | [],m=>by simp [ybg]
 | p :: l,m=>by
  have:=ybh d holder price l m
  simp only [List.cons_append,ybg]
  omega
theorem yb6 {d:Dit} (holder price:Int) {k:Nat} {p:Plot} (hp:d.plots[k]?=some p):ybg d holder price (d.plots.take (k+1))=ybg d holder price (d.plots.take k)+yd5 d holder price p:=by
 rw [List.take_add_one,hp,ybh]
 simp [ybg]
theorem ydy {d:Dit} (hO:d.Ok) {holder price:Int} (hp0:0≤price) {k:Nat} {p:Plot} (hp:d.plots[k]?=some p):yd5 d holder price p≤10000:=by
 obtain⟨_,_,_,_,hph,hw⟩:=hO.pl k p hp
 have hn:=(zos hO (p:=p) (by omega)).1
 have:=Int.mul_nonneg hp0 hn
 unfold yd5
 split<;>omega
theorem ydz {d:Dit} (hO:d.Ok) {holder price:Int} (hp0:0≤price):∀ k:Nat,k≤d.plots.length→0≤ybg d holder price (d.plots.take k)∧ybg d holder price (d.plots.take k)≤10000 * (k:Int)
 | 0,_=>by simp [ybg]
 | k+1,h=>by
  have ih:=ydz hO (holder:=holder) hp0 k (by omega)
  have hk:d.plots[k]?=some d.plots[k]:=List.getElem?_eq_getElem (by omega)
  have h1:=ydy hO (holder:=holder) hp0 hk
  have h2:=yd9 d holder price d.plots[k]
  rw [yb6 holder price hk]
  omega
theorem ybu (n:Int) (w:World):(Builtin.max_ #[3,3] 3 #[.int .i64 0,.int .i64 n]).run Tryd.prog w=.ok (.int .i64 (max 0 n)) w:=by
 rw [show max 0 n=if 0<n then n else 0 by omega]
 by_cases h:0<n<;>simp [Builtin.max_,Builtin.max2,go_sem,h]
theorem yb7 (d:Dit) (r:zaR) (holder a b price:Int) (w:World) (hd:DitSl w d r) (hs:d.Small) (hg:Glob w) (hm:askS d holder a b=0→0≤d.hoursW holder a b∧d.hoursW holder a b≤1000000000) :
  CallsIn FL 0 Tryd.prog 17 #[d.val r,num holder,num a,num b,num price] w fun e w'=>e=.returned (.tuple #[num (yay d holder a b price).1,num (yay d holder a b price).2])∧Nx w w':=by
 obtain⟨W,hW,n0,hWs,cW⟩:=boxed w d r
 have nW:Nx W W:=Below.refl _ _
 obtain⟨c0,c1,c2,c3,c4,c5,c6,c7,c8,c9,c10,c11,c12,c13⟩:=zaS (cW _ nW)
 have k56:=zjG d r holder a b W (hd.nx n0) hs (hg.nx n0)
 by_cases hc:askS d holder a b=0
 ·obtain⟨hck,hhold,ha,hb,hab⟩:=ziU hc
  have k56' : CallsIn FL 0 Tryd.prog 30 _ W fun e w'=>d.Ok∧zf6 W d 0 e w':=k56.mono fun e w' ⟨v,_,_,h⟩=>h hc
  clear k56
  by_cases hp:0≤price∧price≤10000
  ·have HA:Hid (yay d holder a b price=(ycj d holder price d.plots (price * d.hoursW holder a b),0)):=by show _=_;unfold yay;rw [if_neg (by simp [hc]),if_pos hp]
   have k67:=fun w1=>zaQ hp w1
   obtain⟨hm0,hm1⟩:=hm hc
   obtain⟨ap,capp,ep⟩:=hd.plots.cases
   rw [List.length_map] at ep
   have hpl:=hd.plots
   rw [ep] at hpl
   have h13:=Lib.hid (fun w1 (nx:Nx W w1)=>show w1.cell? ⟨w.heap.size,13,none⟩=some (.slice ap d.plots.length capp) from (cW w1 nx 13 r.p rfl).trans (by rw [ep]))
   have HPL:=Lib.hid hpl
   have hmul1:0≤price * d.hoursW holder a b:=Int.mul_nonneg hp.1 hm0
   have hmul2:price * d.hoursW holder a b≤10000 * 1000000000:=Int.mul_le_mul hp.2 hm1 hm0 (by omega)
   clear hc ep cW hpl hm
   gi_enter Tryd.func17,Tryd.ntmps17
   gi_upto_region 7 with (first
    | (gi_at_call 30;refine CallsIn.mono k56' ?_;rintro e w1 ⟨hO,B,M,rfl,n1,hB,hw⟩;have HW:=Lib.hid hw;have HO:=Lib.hid hO;have k57:=zmV (holder:=holder) hw hO (a:=a) (b:=b) (by omega) (by omega);clear hw hO)
    | (gi_at_call 40;refine CallsIn.mono (k67 _) ?_;rintro e w1 ⟨rfl,rfl⟩)
    | (gi_at_call 31;refine CallsIn.mono k57 ?_;rintro e w2 ⟨rfl,n2⟩)
    | gi_in)
   generalize hH:d.hoursW holder a b=H at *
   have hO:=HO.out
   have hp8:=hO.p8
   have HBD:=Lib.hid (fun k h=>ydz hO (holder:=holder) hp.1 k h)
   have nw1:Nx w w1:=Nx.trans n0 n1
   have nw2:Nx w w2:=Nx.trans nw1 n2
   clear c0 c1 c2 c3 c4 c5 c6 c7 c8 c9 c10 c11 c12 c13 k57 k56' k67
   have c13:=h13.out w2 (Nx.trans n1 n2)
   gi_wp2
   clear c13
   gi_loopw [14,47] (fun n i wr=>∃ k:Nat,k≤d.plots.length∧i=num k∧n=num (price * H+ybg d holder price (d.plots.take k))∧Nx w1 wr) (fun _ i _=>d.plots.length-(intOf i).toNat)
   case atStart=>exact⟨0,Nat.zero_le _,rfl,by simp [ybg],n2⟩
   case round =>
    obtain⟨k,hk,rfl,rfl,n3⟩:=hrel
    by_cases hlt:k<d.plots.length
    ·obtain⟨b0,off,ha0,hbl,hcl⟩:=HPL.out.get (by simp;omega)
     subst ha0
     have hx:d.plots[k]?=some d.plots[k]:=List.getElem?_eq_getElem hlt
     generalize hxk:d.plots[k]=x at hx
     clear hxk
     obtain⟨g0,g1,g2,g3,g4,g5⟩:=Sl.at6 hcl (Nx.trans nw1 n3) hbl hx
     have hpx:=hO.pl k x hx
     have hbk:=HBD.out k (by omega)
     have h1:=ydy hO (holder:=holder) hp.1 hx
     have htk:=yb6 holder price hx
     have hnb:=zos hO (p:=x) (by omega)
     generalize hW2:wr.alloc (.cells #[str x.name,num x.holder,num x.far,num x.low,num x.high,num x.worth] 55)=V
     have n3V:Nx w1 V:=by rw [← hW2];exact n3.alloc (by exact n3.size) _
     have hz:V.heap[wr.heap.size]?=some (.cells #[str x.name,num x.holder,num x.far,num x.low,num x.high,num x.worth] 55):=by rw [← hW2];exact heap_alloc_new wr _
     have hVs:wr.heap.size<V.heap.size:=by rw [← hW2];simp
     have cN:∀ w3,Nx V w3→w3.cell? ⟨wr.heap.size,1,none⟩=some (num x.holder)∧w3.cell? ⟨wr.heap.size,5,none⟩=some (num x.worth):=by
      intro w3 nx
      refine⟨(nx.cell (by exact hVs)).trans ?_,(nx.cell (by exact hVs)).trans ?_⟩<;>simp [World.cell?,hz]
     have kn:=zm3 B d k x V (HW.out.wat.dit.nx n3V) hO hx
     have hb1:yd5 d holder price x=if (d.needs x).2 && decide (x.holder=holder) then max 0 (x.worth-price * (d.needs x).1) else 0:=rfl
     have HB1:=Lib.hid hb1
     have HTK:=Lib.hid htk
     have hmn:price * (d.needs x).1≤10000 * 2000000000:=Int.mul_le_mul hp.2 (by omega) (by omega) (by omega)
     have hmn0:0≤price * (d.needs x).1:=Int.mul_nonneg hp.1 (by omega)
     have hwx:=hpx.2.2.2.2.2
     clear hb1 htk hpx hcl hbl hx
     generalize (d.needs x).1=h at *
     generalize (d.needs x).2=ok at *
     generalize yd5 d holder price x=z1 at *
     generalize ybg d holder price (d.plots.take k)=z2 at *
     cases ok with
     | false =>
      gi_wp2_with (first
       | (gi_at_call 38;refine CallsIn.mono kn ?_;rintro e w3 ⟨rfl,n4⟩;obtain⟨e1,e5⟩:=cN w3 n4;have mx:=ybu (x.worth-price * h) w3)
       | gi_in)
      have e:=HB1.out
      simp only [Bool.false_and,Bool.false_eq_true,if_false] at e
      exact⟨⟨k+1,hlt,by simp,by rw [HTK.out,e];simp,Nx.trans n3V n4⟩,by simp [intOf];omega⟩
     | true =>
      by_cases hh:x.holder=holder
      ·subst hh
       have bh:(x.holder == x.holder)=true:=by simp
       gi_wp2_with (first
        | (gi_at_call 38;refine CallsIn.mono kn ?_;rintro e w3 ⟨rfl,n4⟩;obtain⟨e1,e5⟩:=cN w3 n4;have mx:=ybu (x.worth-price * h) w3)
        | gi_in)
       have e:=HB1.out
       simp only [Bool.true_and,decide_true,if_true] at e
       exact⟨⟨k+1,hlt,by simp,by rw [HTK.out,e];congr 1;omega,Nx.trans n3V n4⟩,by simp [intOf];omega⟩
      ·have bh:(x.holder == holder)=false:=by simpa using hh
       gi_wp2_with (first
        | (gi_at_call 38;refine CallsIn.mono kn ?_;rintro e w3 ⟨rfl,n4⟩;obtain⟨e1,e5⟩:=cN w3 n4;have mx:=ybu (x.worth-price * h) w3)
        | gi_in)
       have e:=HB1.out
       simp only [Bool.true_and,hh,decide_false,Bool.false_eq_true,if_false] at e
       exact⟨⟨k+1,hlt,by simp,by rw [HTK.out,e];simp,Nx.trans n3V n4⟩,by simp [intOf];omega⟩
    ·obtain rfl:k=d.plots.length:=by omega
     have he:ycj d holder price d.plots (price * H)=price * H+ybg d holder price (d.plots.take d.plots.length):=by rw [ybt,List.take_length]
     have HE:=Lib.hid he
     clear he
     generalize ybg d holder price (d.plots.take d.plots.length)=z at *
     gi_wp2
     refine bodyPost_ret (v:=.tuple #[num (price * H+z),num 0]) (by simp [results,Tryd.results17,go_sem]) rfl ?_
     exact⟨by rw [HA.out,HE.out],Nx.trans nw1 n3⟩
  ·have HA:Hid (yay d holder a b price=(0,1)):=by show _=_;unfold yay;rw [if_neg (by simp [hc]),if_neg hp]
   have k67:=fun w1=>zbS hp w1
   clear hc cW hm
   gi_enter Tryd.func17,Tryd.ntmps17
   gi_wp2_with (first
    | (gi_at_call 30;refine CallsIn.mono k56' ?_;rintro e w1 ⟨hO,B,M,rfl,n1,hB,hw⟩;clear hw hO)
    | (gi_at_call 40;refine CallsIn.mono (k67 _) ?_;rintro e w1 ⟨rfl,rfl⟩)
    | gi_in)
   refine bodyPost_ret (v:=.tuple #[num 0,num 1]) (by simp [results,Tryd.results17,go_sem]) rfl ?_
   exact⟨by rw [HA.out],Nx.trans n0 n1⟩
 ·have HA:Hid (yay d holder a b price=(0,askS d holder a b)):=by show _=_;unfold yay;rw [if_pos hc]
  have hb:(askS d holder a b != 0)=true:=by simpa using hc
  have hb2:(askS d holder a b == 0)=false:=by simpa using hc
  have k56' : CallsIn FL 0 Tryd.prog 30 _ W fun e w'=>∃ v,e=.returned (.tuple #[.pointer v,num (askS d holder a b)])∧Nx W w':=k56.mono fun e w' ⟨v,h1,h2,h⟩=>⟨v,h1,h2⟩
  clear k56 cW hc hm
  generalize askS d holder a b=f at *
  gi_enter Tryd.func17,Tryd.ntmps17
  gi_wp2_with (first
   | (gi_at_call 30;refine CallsIn.mono k56' ?_;rintro e w1 ⟨v,rfl,n1⟩)
   | gi_in)
  refine bodyPost_ret (v:=.tuple #[num 0,num f]) (by simp [results,Tryd.results17,go_sem]) rfl ?_
  exact⟨by rw [HA.out],Nx.trans n0 n1⟩
end Go.Proofs.YtbbanmifdbeneaaDoor

namespace Go.Proofs.YtbbanmifdbeneaaDoor
open Go.RowKit
theorem yd0 (a b n:Int) (w:World) (hab : -1000000000≤a∧a≤b∧b≤1000000000) (hn:0≤n∧n≤1000000) :
  CallsIn FL 0 Tryd.prog 9 #[.agg #[num a,num b],num n] w fun e w'=>e=.returned (num (a+n % (b-a+1)))∧Nx w w':=by
 generalize hW:w.alloc (.cells #[.int .i64 a,.int .i64 b] 28)=W
 have nW:Nx w W:=by rw [← hW];exact (Below.refl _ _).alloc (Nat.le_refl _) _
 have c0:W.cell? ⟨w.heap.size,0,none⟩=some (num a):=by rw [← hW];exact zaw _ _ _ _ _ rfl
 have c1:W.cell? ⟨w.heap.size,1,none⟩=some (num b):=by rw [← hW];exact zaw _ _ _ _ _ rfl
 have hm:0≤n % (b-a+1)∧n % (b-a+1)<b-a+1:=⟨Int.emod_nonneg _ (by omega),Int.emod_lt_of_pos _ (by omega)⟩
 have hz:b-a+1≠0:=by omega
 have hne:(b-a+1 == 0)=false:=by simpa using hz
 have h1 : -9223372036854775808≤b-a∧b-a≤9223372036854775807:=by omega
 have h2 : -9223372036854775808≤b-a+1∧b-a+1≤9223372036854775807:=by omega
 have h3 : -9223372036854775808≤n % (b-a+1)∧n % (b-a+1)≤9223372036854775807:=by omega
 have h4 : -9223372036854775808≤a+n % (b-a+1)∧a+n % (b-a+1)≤9223372036854775807:=by omega
 gi_enter Tryd.func9,Tryd.ntmps9
 gi_upto_region 1 with fail
 gi_big_quiet_th (fail)
 gi_wp2
 go_ret
 exact⟨rfl,Nx.drewN nW _⟩
end Go.Proofs.YtbbanmifdbeneaaDoor

namespace Go.Proofs.YtbbanmifdbeneaaDoor
open Go.RowKit
theorem ydi (ps:List Int) (pv:Value) (k:Nat) (w:World) (hp:Sl w pv 1 (ps.map fun x=>[Value.int .u16 x])) (hb:∀ x∈ps,0≤x∧x≤65535) (hl:ps.length≤281474976710656) (hk:k≤1000) :
  CallsIn FL 0 Tryd.prog 10 #[pv,num k] w fun e w'=>∃ z:Int,e=.returned (num z)∧(0≤z∧z≤65535)∧w'=w:=by
 obtain⟨a,cap,rfl⟩:=hp.cases
 rw [List.length_map] at hp ⊢
 by_cases hlt:k<ps.length
 ·obtain⟨b,off,rfl,hbl,hcl⟩:=hp.get (by simp;omega)
  have hx:ps[k]?=some ps[k]:=List.getElem?_eq_getElem hlt
  have hz:=hb ps[k] (List.getElem_mem _)
  generalize ps[k]=x at hx hz
  have e0:w.cell? ⟨b,off+k,none⟩=some (.int .u16 x):=by have:=hcl k 0 [.int .u16 x] (.int .u16 x) (by simp [hx]) rfl;simpa using this
  clear hcl hp hb hx
  gi_enter Tryd.func10,Tryd.ntmps10
  gi_wp2
  go_ret
  exact⟨x,rfl,hz,rfl⟩
 ·clear hp hb
  have hlt2:¬ (k:Int)<(ps.length:Int):=by omega
  gi_enter Tryd.func10,Tryd.ntmps10
  gi_wp2
  go_ret
  exact⟨0,rfl,by omega,rfl⟩
end Go.Proofs.YtbbanmifdbeneaaDoor

namespace Go.Proofs.YtbbanmifdbeneaaDoor
open Go.RowKit Go.Con Go.Conc
theorem yaa {F:Fence} {n:Nat} {P:Program} {K:Act→World→Prop} {Q:Exit→Act→World→Prop} {o:Oper} {a:Act} {w w1:World} {v:Value} (hro:F.round=none) (hab:o.about P w a.eval=none) (hrun:(execOp a.eval o).run P w=.ok (.value v) w1) (h:K (a.put o.dst v) w1):o.wpIn F n P a w K Q:=by
 unfold Oper.wpIn
 refine⟨fun f hf=>(by rw [hab] at hf;cases hf),?_⟩
 rw [hro,Oper.semAt_none,hrun]
 exact h
section
variable {dst:Option Nat} {ty:TypeId} {pos:String} {af:Array Edge} {x y:Nat} {w:World} (e:Operand→Value)
theorem ya6 {t:TypeId} {v u v' : Value} {w' : World} (h:e (.tmp x)=v) (h2:e (.tmp y)=u) (hr:(Builtin.append_ #[t,t] t #[v,u]).run Tryd.prog w=.ok v' w') :
  (execOp e ⟨dst,.call { callee:=.builtin .append,args:=#[.tmp x,.tmp y],argTypes:=#[t,t] },t,pos,af,none⟩).run Tryd.prog w=.ok (.value v') w':=by
 simp [execOp,resolve,invoke,builtin,h,h2,hr,Result.andThen]
end
theorem yaj {F:Fence} {nF:Nat} {K:Act→World→Prop} {Q:Exit→Act→World→Prop} {dst:Option Nat} {op:Op} {ty:TypeId} {pos:String} {af:Array Edge} {a:Act} {w Y:World} {v:Nat→Value} {o:Obj} (hro:F.round=none) (hab:(⟨dst,op,ty,pos,af,none⟩:Oper).about Tryd.prog w a.eval=none)
  (hrun:(execOp a.eval ⟨dst,op,ty,pos,af,none⟩).run Tryd.prog w=.ok (.value (v w.heap.size)) (w.alloc o)) (nw:Nx Y w)
  (H:∀ g w',w'.heap[g]?=some o→Nx Y w'→Y.heap.size≤g→w.heap.size≤g→(∀ b,b<w.heap.size→w'.heap[b]?=w.heap[b]?)→(∀ {base e sz v n xs},w.ownsRow base e sz v n xs→w'.ownsRow base e sz v n xs)→K (a.put dst (v g)) w') :
  (⟨dst,op,ty,pos,af,none⟩:Oper).wpIn F nF Tryd.prog a w K Q :=
 yaa hro hab hrun (H w.heap.size (w.alloc o) (heap_alloc_new _ _) (zaG nw _) nw.size (Nat.le_refl _) (fun b hb=>heap_alloc_old _ _ hb) fun h=>h.alloc o)
theorem yap {F:Fence} {nF:Nat} {K:Act→World→Prop} {Q:Exit→Act→World→Prop} {dst:Option Nat} {ty:TypeId} {pos:String} {af:Array Edge} {a:Act} {w:World} {s t b:Nat} {x0 x1 x2 x3 x4 x5 x6 x7 x8 x9 x10 x11 x12 x13:Value} {s0 s1 s6 s7 s8 s13:Option Addr} {n0 c0 n1 c1 n6 c6 n7 c7 n8 c8 n13 c13:Nat} {z2 z3 z4 z5 z9 z10 z11 z12:Int} (hro:F.round=none) (hab:(⟨dst,.store 31 (.tmp s) (.tmp t),ty,pos,af,none⟩:Oper).about Tryd.prog w a.eval=none) (h:a.eval (.tmp s)=.pointer (some ⟨b,0,none⟩))
  (h2:a.eval (.tmp t)=.agg #[.slice s0 n0 c0,.slice s1 n1 c1,.int .i64 z2,.int .i64 z3,.int .i64 z4,.int .i64 z5,.slice s6 n6 c6,.slice s7 n7 c7,.slice s8 n8 c8,.int .i64 z9,.int .i64 z10,.int .i64 z11,.int .i64 z12,.slice s13 n13 c13]) (hb:w.heap[b]?=some (.cells #[x0,x1,x2,x3,x4,x5,x6,x7,x8,x9,x10,x11,x12,x13] 31 (0,0)))
  (H:∀ w',w'.heap[b]?=some (.cells #[.slice s0 n0 c0,.slice s1 n1 c1,.int .i64 z2,.int .i64 z3,.int .i64 z4,.int .i64 z5,.slice s6 n6 c6,.slice s7 n7 c7,.slice s8 n8 c8,.int .i64 z9,.int .i64 z10,.int .i64 z11,.int .i64 z12,.slice s13 n13 c13] 31 (0,0))→(∀ k,k≠b→w'.heap[k]?=w.heap[k]?)→w'.heap.size=w.heap.size→K (a.put dst zu) w') :
  (⟨dst,.store 31 (.tmp s) (.tmp t),ty,pos,af,none⟩:Oper).wpIn F nF Tryd.prog a w K Q :=
 zb4 hro hab (zdT h h2 hb) (H _ (zpv hb) (fun k hk=>zjj hk) zl3)
end Go.Proofs.YtbbanmifdbeneaaDoor

namespace Go.Proofs.YtbbanmifdbeneaaDoor
open Go.RowKit
section
variable {F:Fence} {n:Nat} {ops:Array Oper} {C:World→Prop} {a:Act} {dst:Option Nat} {ty:TypeId} {pos:String} {af:Array Edge}
theorem zc8 {s b:Nat} {d:Dit} {r:zaR} (h:a.eval (.tmp s)=.pointer (some ⟨b,0,none⟩)) (hc:∀ x,C x→∀ i v,(d.cellsA r)[i]?=some v→x.cell? ⟨b,i,none⟩=some v):YieldsC F n Tryd.prog ops C ⟨dst,.load 31 (.tmp s),ty,pos,af,none⟩ (d.val r) a :=
 yC rfl (fun _=>rfl) fun x hx=>by
  obtain⟨c0,c1,c2,c3,c4,c5,c6,c7,c8,c9,c10,c11,c12,c13⟩:=zaS (hc x hx)
  clear hc
  generalize a.eval=ρ at h ⊢
  simp [execOp,go_sem,h,c0,c1,c2,c3,c4,c5,c6,c7,c8,c9,c10,c11,c12,c13]
end
end Go.Proofs.YtbbanmifdbeneaaDoor

namespace Go.Proofs.YtbbanmifdbeneaaDoor
open Go.RowKit Go.Con Go.Conc
local instance pnI3:Lone:=zcG
theorem yan {c c' : Code} {F:Fence} {n:Nat} {P:Program} {Q:Exit→Act→World→Prop} {a:Act} {w:World} (h:c=c') (H:c'.wpIn F n P Q a w):c.wpIn F n P Q a w:=h ▸ H
end Go.Proofs.YtbbanmifdbeneaaDoor

namespace Go.Proofs.YtbbanmifdbeneaaDoor
open Go.RowKit Go.Con Go.Conc
local instance pnI4:Lone:=zcG
theorem yeb {d:Dit} (hO:d.Ok) (holder:Int) {a b:Int} (ha:0≤a) (hab:a≤b):0≤d.hoursW holder a b∧d.hoursW holder a b≤b-a:=by
 have h1:=hO.ran_mono ha hab
 have h2:=hO.had_mono holder (hO.ran_nonneg a) h1.1
 rw [zd3]
 omega
end Go.Proofs.YtbbanmifdbeneaaDoor

namespace Go.Proofs.YtbbanmifdbeneaaDoor
open Go.RowKit Go.Con Go.Conc
local instance pnI5:Lone:=zcG
noncomputable def yai:Code:=match Tryd.f4.body with | some c=>c | none=>.skip
noncomputable def sz0:Code:=seqL yai
noncomputable def yb8:Code:=seqR yai
noncomputable def sz1:Code:=seqL (seqL yb8)
noncomputable def sz2:Code:=match seqR (seqL yb8) with | .cond _ x _=>seqL x | c=>c
noncomputable def yck:Code:=seqR yb8
noncomputable def sz3:Code:=seqL yck
noncomputable def ycl:Code:=seqR yck
noncomputable def sz4:Code:=seqL ycl
noncomputable def ycm:Code:=seqR ycl
noncomputable def sz9:Code:=seqL ycm
noncomputable def ycn:Code:=seqR ycm
noncomputable def ye0:Code:=seqL ycn
noncomputable def yco:Code:=seqR ycn
noncomputable def ye1:Code:=seqL yco
noncomputable def ycp:Code:=seqR yco
noncomputable def sz13:Code:=seqL ycp
noncomputable def ycq:Code:=seqR ycp
noncomputable def yey:Code:=seqL ycq
noncomputable def ycr:Code:=seqR ycq
noncomputable def yeo:Code:=seqL ycr
noncomputable def yas:Code:=seqR ycr
noncomputable def yep:Code:=seqL yas
noncomputable def yat:Code:=seqR yas
noncomputable def yeq:Code:=seqL yat
noncomputable def yau:Code:=seqR yat
noncomputable def yer:Code:=seqL yau
noncomputable def yav:Code:=seqR yau
noncomputable def yes:Code:=seqL yav
noncomputable def yaw:Code:=seqR yav
noncomputable def yet:Code:=seqL yaw
noncomputable def yax:Code:=seqR yaw
noncomputable def yeu:Code:=seqL yax
noncomputable def yaz:Code:=seqR yax
noncomputable def yfa:Code:=seqL yaz
theorem yec:yai=.seq sz0 (.seq (.seq sz1 (.cond (.tmp 69) (.seq sz2 .ret) .skip)) (.seq sz3 (.seq sz4 (.seq sz9 (.seq ye0 (.seq ye1 (.seq sz13 (.seq yey (.seq yeo (.seq yep (.seq yeq (.seq yer (.seq yes (.seq yet (.seq yeu (.seq yfa .ret)))))))))))))))):=by kernel_rfl
theorem yed:Tryd.f4.body=some yai:=by kernel_rfl
noncomputable def opsz2:Array Oper:=opsOf sz2
theorem ye2:sz2=.region 2 opsz2 false:=by kernel_rfl
noncomputable def opsz29:Array Oper:=opsOf yfa
theorem yez:yfa=.region 29 opsz29 false:=by kernel_rfl
theorem yee (a b:Int) (w:World):(Builtin.min_ #[3,3] 3 #[.int .i64 a,.int .i64 b]).run Tryd.prog w=.ok (.int .i64 (min a b)) w:=by
 rw [show min a b=if b<a then b else a by omega]
 by_cases h:b<a<;>simp [Builtin.min_,Builtin.min2,go_sem,h]
theorem yef (a b:Int) (w:World):(Builtin.max_ #[3,3] 3 #[.int .i64 a,.int .i64 b]).run Tryd.prog w=.ok (.int .i64 (max a b)) w:=by
 rw [show max a b=if a<b then b else a by omega]
 by_cases h:a<b<;>simp [Builtin.max_,Builtin.max2,go_sem,h]
theorem ybv (y z:Int) (w:World) (hy:0≤y∧y≤4294967295) (hz:0≤z∧z≤4294967295) :
  CallsIn FL 0 Tryd.prog 15 #[.int .u32 y,.int .u32 z] w fun e w'=>∃ a b:Int,e=.returned (.tuple #[num a,num b])∧(0≤a∧a≤b∧b≤999999999)∧w'=w:=by
 gi_enter Tryd.func15,Tryd.ntmps15
 gi_upto_region 2 with fail
 have hx1:0≤y % 1000000000∧y % 1000000000≤999999999:=by omega
 have hy1:0≤z % 1000000000∧z % 1000000000≤999999999:=by omega
 generalize y % 1000000000=a0 at hx1 ⊢
 generalize z % 1000000000=b0 at hy1 ⊢
 have hmn:=yee a0 b0 w
 have hmx:=yef a0 b0 w
 have hab:0≤min a0 b0∧min a0 b0≤max a0 b0∧max a0 b0≤999999999:=by omega
 have HAB:=Lib.hid hab
 clear hx1 hy1 hab
 generalize min a0 b0=a at *
 generalize max a0 b0=b at *
 gi_wp2
 exact bodyPost_ret (v:=.tuple #[num a,num b]) (by simp [results,Tryd.results15,go_sem]) rfl ⟨a,b,rfl,HAB.out,rfl⟩
def yev (W:World) (t:Array Value) (W2:World):Prop:=Old W W2∧∃ w v n m:Int,(w≤v∧n≤m)∧t.size=284∧t[21]?=some (num 0)∧t[23]?=some (num 0)∧t[37]?=some (num 0)∧t[39]?=some (num 0)∧t[33]?=some (num w)∧t[35]?=some (num v)∧t[36]?=some (num n)∧t[38]?=some (num m)
theorem ydj {v0 v1 v2 v7 v9 v10 v11 v12 v13 v14 v15 v16 v17 v18 v19 v20 v21 v22 v23 v26 v27 v28 v29 v30 v31 v32 v33 v34 v35 v36 v37 v38 v39 v40 v41 v42 v43 v44 v45 v46 v47 v48 v49 v50 v51 v52 v53 v54 v55 v56 v57 v58 v59 v60 v61 v62 v63 v64 v65 v66 v67 v68 v69 v70 v71 v72 v73 v74 v75 v76 v77 v78 v79 v80 v81 v82 v83 v84 v85 v86 v87 v88 v89 v90 v91 v92 v93 v94 v95 v96 v97 v98 v99 v100 v101 v102 v103 v104 v105 v106 v107 v108 v109 v110 v111 v112 v113 v114 v115 v116 v117 v118 v119 v120 v121 v122 v123 v124 v125 v126 v127 v128 v129 v130 v131 v132 v133 v134 v135 v136 v137 v138 v139 v140 v141 v142 v143 v144 v145 v146 v147 v148 v149 v150 v151 v152 v153 v154 v155 v156 v157 v158 v159 v160 v161 v162 v163 v164 v165 v166 v167 v168 v169 v170 v171 v172 v173 v174 v175 v176 v177 v178 v179 v180 v181 v182 v183 v184 v185 v186 v187 v188 v189 v190 v191 v192 v193 v194 v195 v196 v197 v198 v199 v200 v201 v202 v203 v204:Value} (d:Dit) (r rp rq:zaR) (f g:Nat→Int) (x y z pr:Int) (B P Q:Nat) (W Wb:World) (hOW:Old W Wb) (hd:DitSl Wb d r) (hdf:DitSl Wb (d.wor f) rp) (hdg:DitSl Wb (d.wor g) rq) (hsf:(d.wor f).Small) (hsg:(d.wor g).Small) (hg:Glob Wb) (hck:zaF d=0) (hf:∀ i,0≤f i∧f i≤10000) (hgb:∀ i,0≤g i∧g i≤10000) (hfg:∀ i,f i≤g i) (hn:¬ (d.holders.length:Int)=0) (cB:∀ i v,(d.cellsA r)[i]?=some v→Wb.cell? ⟨B,i,none⟩=some v) (cP:∀ i v,((d.wor f).cellsA rp)[i]?=some v→Wb.cell? ⟨P,i,none⟩=some v) (cQ:∀ i v,((d.wor g).cellsA rq)[i]?=some v→Wb.cell? ⟨Q,i,none⟩=some v) (hBl:B<Wb.heap.size) (hPl:P<Wb.heap.size) (hQl:Q<Wb.heap.size) (hx:0≤x∧x≤255) (hy:0≤y∧y≤4294967295) (hz:0≤z∧z≤4294967295) (hpr:0≤pr∧pr≤65535) :
  zo0 Tryd.prog (FG 4) [yep,yeq,yer,yes,yet,yeu] (yev W) #[v0,v1,v2,.int .u8 x,.int .u32 y,.int .u32 z,.int .u16 pr,v7,.pointer (some ⟨B,0,none⟩),v9,v10,v11,v12,v13,v14,v15,v16,v17,v18,v19,v20,v21,v22,v23,.pointer (some ⟨P,0,none⟩),.pointer (some ⟨Q,0,none⟩),v26,v27,v28,v29,v30,v31,v32,v33,v34,v35,v36,v37,v38,v39,v40,v41,v42,v43,v44,v45,v46,v47,v48,v49,v50,v51,v52,v53,v54,v55,v56,v57,v58,v59,v60,v61,v62,v63,v64,v65,v66,v67,v68,v69,v70,v71,v72,v73,v74,v75,v76,v77,v78,v79,v80,v81,v82,v83,v84,v85,v86,v87,v88,v89,v90,v91,v92,v93,v94,v95,v96,v97,v98,v99,v100,v101,v102,v103,v104,v105,v106,v107,v108,v109,v110,v111,v112,v113,v114,v115,v116,v117,v118,v119,v120,v121,v122,v123,v124,v125,v126,v127,v128,v129,v130,v131,v132,v133,v134,v135,v136,v137,v138,v139,v140,v141,v142,v143,v144,v145,v146,v147,v148,v149,v150,v151,v152,v153,v154,v155,v156,v157,v158,v159,v160,v161,v162,v163,v164,v165,v166,v167,v168,v169,v170,v171,v172,v173,v174,v175,v176,v177,v178,v179,v180,v181,v182,v183,v184,v185,v186,v187,v188,v189,v190,v191,v192,v193,v194,v195,v196,v197,v198,v199,v200,v201,v202,v203,v204,zu,zu,zu,zu,zu,zu,zu,zu,zu,zu,zu,zu,zu,zu,zu,zu,zu,zu,zu,zu,zu,zu,zu,zu,zu,zu,zu,zu,zu,zu,zu,zu,zu,zu,zu,zu,zu,zu,zu,zu,zu,zu,zu,zu,zu,zu,zu,zu,zu,zu,zu,zu,zu,zu,zu,zu,zu,zu,zu,zu,zu,zu,zu,zu,zu,zu,zu,zu,zu,zu,zu,zu,zu,zu,zu,zu,zu,zu,zu] Wb:=by
 obtain⟨ah,caph,eh⟩:=hd.holders.cases
 rw [List.length_map] at eh
 have CH:=Lib.hid (show ∀ w2,Old Wb w2→w2.cell? ⟨B,0,none⟩=some (.slice ah d.holders.length caph) from fun w2 o=>(o.cell ⟨B,0,none⟩ (by show B<_;omega)).trans ((cB 0 r.h rfl).trans (by rw [eh])))
 have COf:=Lib.hid (fun w2 (o:Old Wb w2) i v (h:((d.wor f).cellsA rp)[i]?=some v)=>(o.cell ⟨P,i,none⟩ (by show P<_;omega)).trans (cP i v h))
 have COg:=Lib.hid (fun w2 (o:Old Wb w2) i v (h:((d.wor g).cellsA rq)[i]?=some v)=>(o.cell ⟨Q,i,none⟩ (by show Q<_;omega)).trans (cQ i v h))
 have HDF:=Lib.hid hdf
 have HDG:=Lib.hid hdg
 have HG:=Lib.hid hg
 have hcf:=yb3 hck hf
 have hcg:=yb3 hck hgb
 have hOf:=zco hcf
 have hOg:=zco hcg
 clear cB cP cQ hd hdf hdg hg eh
 intro τ23
 generalize hq23:({ Wb with tape:=τ23 }:World)=u23
 have oA23:Old Wb u23:=(Old.refl Wb).trans (by rw [← hq23];exact .same rfl)
 clear hq23
 have c0:=CH.out u23 oA23
 simp only [yep,yaz,yax,yaw,yav,yau,yat,yas,ycr,ycq,ycp,yco,ycn,ycm,ycl,yck,yb8,yai,seqL,seqR,Tryd.f4]
 gi_wp2
 clear c0
 have hk:0≤x % (d.holders.length:Int)∧x % (d.holders.length:Int)≤(d.holders.length:Int)-1:=⟨Int.emod_nonneg _ hn,by have:=Int.emod_lt_of_pos x (b:=(d.holders.length:Int)) (by omega);omega⟩
 generalize x % (d.holders.length:Int)=k at hk ⊢
 intro τ24
 generalize hq24:({ u23 with tape:=τ24 }:World)=u24
 have oA24:Old Wb u24:=oA23.trans (by rw [← hq24];exact .same rfl)
 clear hq24
 have kk:=toFG 4 (m:=0) (ybv y z u24 hy hz)
 simp only [yeq,yaz,yax,yaw,yav,yau,yat,yas,ycr,ycq,ycp,yco,ycn,ycm,ycl,yck,yb8,yai,seqL,seqR,Tryd.f4]
 gi_wp2_with (first
  | (gi_at_call 15;refine CallsIn.mono kk ?_;rintro e vv ⟨a,b,rfl,hab,hvv⟩;cases hvv)
  | gi_in)
 clear kk
 have hpp:0≤pr % 10001∧pr % 10001≤10000:=by omega
 have ask0:∀ h:Nat→Int,zaF (d.wor h)=0→askS (d.wor h) k a b=0:=fun h hc=>by
  unfold askS zbq
  rw [if_neg (by simp [hc]),if_neg (by simp only [Decidable.not_not];exact hk),if_neg (by omega),if_neg (by omega)]
 have hhb:=yeb hOf k (a:=a) (b:=b) (by omega) (by omega)
 have hhe:(d.wor g).hoursW k a b=(d.wor f).hoursW k a b:=rfl
 have wf:∀ h:Nat→Int,zaF (d.wor h)=0→zfr (d.wor h) k a b=(((d.wor h).best k a b).plots,((d.wor h).best k a b).worth,0):=fun h hc=>by
  unfold zfr
  rw [if_neg (by simp [ask0 h hc])]
 have bf:∀ h:Nat→Int,zaF (d.wor h)=0→yay (d.wor h) k a b (pr % 10001)=(ycj (d.wor h) k (pr % 10001) (d.wor h).plots (pr % 10001 * (d.wor h).hoursW k a b),0):=fun h hc=>by
  unfold yay
  rw [if_neg (by simp [ask0 h hc]),if_pos hpp]
 have HW:=Lib.hid (show ((d.wor f).best k a b).worth≤((d.wor g).best k a b).worth from ydv hOf hOg hfg k _ hhb.1)
 have HB:=Lib.hid (show ycj (d.wor f) k (pr % 10001) (d.wor f).plots (pr % 10001 * (d.wor f).hoursW k a b)≤ycj (d.wor g) k (pr % 10001) (d.wor g).plots (pr % 10001 * (d.wor g).hoursW k a b) from ydw hfg k (pr % 10001) _)
 have KWf:=Lib.hid (fun u (o:Old Wb u)=>show CallsIn (FG 4) 0 Tryd.prog 16 #[(d.wor f).val rp,num k,num a,num b] u fun e w'=>∃ v,e=.returned (.tuple #[v,num ((d.wor f).best k a b).worth,num 0])∧Nx u w' by
  have:=toFG 4 (m:=0) (zlZ (d.wor f) rp k a b u (HDF.out.old o) hsf (HG.out.old o) (by have h:=hhb.2;rw [show (d.wor f).hoursW k a b=(d.wor f).hoursW k a b from rfl];omega))
  rw [wf f hcf] at this
  exact this.mono fun e w' ⟨v,h1,h2,_⟩=>⟨v,h1,h2⟩)
 have KBf:=Lib.hid (fun u (o:Old Wb u)=>show CallsIn (FG 4) 0 Tryd.prog 17 #[(d.wor f).val rp,num k,num a,num b,num (pr % 10001)] u fun e w'=>e=.returned (.tuple #[num (ycj (d.wor f) k (pr % 10001) (d.wor f).plots (pr % 10001 * (d.wor f).hoursW k a b)),num 0])∧Nx u w' by
  have:=toFG 4 (m:=0) (yb7 (d.wor f) rp k a b (pr % 10001) u (HDF.out.old o) hsf (HG.out.old o) (fun _=>by have h:=hhb;rw [show (d.wor f).hoursW k a b=(d.wor f).hoursW k a b from rfl];omega))
  rw [bf f hcf] at this
  exact this)
 have KWg:=Lib.hid (fun u (o:Old Wb u)=>show CallsIn (FG 4) 0 Tryd.prog 16 #[(d.wor g).val rq,num k,num a,num b] u fun e w'=>∃ v,e=.returned (.tuple #[v,num ((d.wor g).best k a b).worth,num 0])∧Nx u w' by
  have:=toFG 4 (m:=0) (zlZ (d.wor g) rq k a b u (HDG.out.old o) hsg (HG.out.old o) (by have h:=hhb.2;rw [show (d.wor g).hoursW k a b=(d.wor f).hoursW k a b from rfl];omega))
  rw [wf g hcg] at this
  exact this.mono fun e w' ⟨v,h1,h2,_⟩=>⟨v,h1,h2⟩)
 have KBg:=Lib.hid (fun u (o:Old Wb u)=>show CallsIn (FG 4) 0 Tryd.prog 17 #[(d.wor g).val rq,num k,num a,num b,num (pr % 10001)] u fun e w'=>e=.returned (.tuple #[num (ycj (d.wor g) k (pr % 10001) (d.wor g).plots (pr % 10001 * (d.wor g).hoursW k a b)),num 0])∧Nx u w' by
  have:=toFG 4 (m:=0) (yb7 (d.wor g) rq k a b (pr % 10001) u (HDG.out.old o) hsg (HG.out.old o) (fun _=>by have h:=hhb;rw [show (d.wor g).hoursW k a b=(d.wor f).hoursW k a b from rfl];omega))
  rw [bf g hcg] at this
  exact this)
 clear ask0 hhb hhe wf bf hcf hcg hOf hOg
 generalize ((d.wor f).best k a b).worth=wa at *
 generalize ((d.wor g).best k a b).worth=wb at *
 generalize ycj (d.wor f) k (pr % 10001) (d.wor f).plots (pr % 10001 * (d.wor f).hoursW k a b)=ba at *
 generalize ycj (d.wor g) k (pr % 10001) (d.wor g).plots (pr % 10001 * (d.wor g).hoursW k a b)=bb at *
 intro τ25
 generalize hq25:({ u24 with tape:=τ25 }:World)=u25
 have oA25:Old Wb u25:=oA24.trans (by rw [← hq25];exact .same rfl)
 clear hq25
 have kk:=KWf.out u25 oA25
 obtain⟨c0,c1,c2,c3,c4,c5,c6,c7,c8,c9,c10,c11,c12,c13⟩:=zaS (COf.out u25 oA25)
 simp only [yer,yaz,yax,yaw,yav,yau,yat,yas,ycr,ycq,ycp,yco,ycn,ycm,ycl,yck,yb8,yai,seqL,seqR,Tryd.f4]
 gi_wp2_with (first
  | (gi_at_call 16;refine CallsIn.mono kk ?_;rintro e w25 ⟨lv,rfl,x25⟩)
  | gi_in)
 clear c0 c1 c2 c3 c4 c5 c6 c7 c8 c9 c10 c11 c12 c13 kk
 have oB25:Old Wb w25:=oA25.trans (.nx x25)
 intro τ26
 generalize hq26:({ w25 with tape:=τ26 }:World)=u26
 have oA26:Old Wb u26:=oB25.trans (by rw [← hq26];exact .same rfl)
 clear hq26
 have kk:=KWg.out u26 oA26
 obtain⟨c0,c1,c2,c3,c4,c5,c6,c7,c8,c9,c10,c11,c12,c13⟩:=zaS (COg.out u26 oA26)
 simp only [yes,yaz,yax,yaw,yav,yau,yat,yas,ycr,ycq,ycp,yco,ycn,ycm,ycl,yck,yb8,yai,seqL,seqR,Tryd.f4]
 gi_wp2_with (first
  | (gi_at_call 16;refine CallsIn.mono kk ?_;rintro e w26 ⟨lv2,rfl,x26⟩)
  | gi_in)
 clear c0 c1 c2 c3 c4 c5 c6 c7 c8 c9 c10 c11 c12 c13 kk
 have oB26:Old Wb w26:=oA26.trans (.nx x26)
 intro τ27
 generalize hq27:({ w26 with tape:=τ27 }:World)=u27
 have oA27:Old Wb u27:=oB26.trans (by rw [← hq27];exact .same rfl)
 clear hq27
 have kk:=KBf.out u27 oA27
 obtain⟨c0,c1,c2,c3,c4,c5,c6,c7,c8,c9,c10,c11,c12,c13⟩:=zaS (COf.out u27 oA27)
 simp only [yet,yaz,yax,yaw,yav,yau,yat,yas,ycr,ycq,ycp,yco,ycn,ycm,ycl,yck,yb8,yai,seqL,seqR,Tryd.f4]
 gi_wp2_with (first
  | (gi_at_call 17;refine CallsIn.mono kk ?_;rintro e w27 ⟨rfl,x27⟩)
  | gi_in)
 clear c0 c1 c2 c3 c4 c5 c6 c7 c8 c9 c10 c11 c12 c13 kk
 have oB27:Old Wb w27:=oA27.trans (.nx x27)
 intro τ28
 generalize hq28:({ w27 with tape:=τ28 }:World)=u28
 have oA28:Old Wb u28:=oB27.trans (by rw [← hq28];exact .same rfl)
 clear hq28
 have kk:=KBg.out u28 oA28
 obtain⟨c0,c1,c2,c3,c4,c5,c6,c7,c8,c9,c10,c11,c12,c13⟩:=zaS (COg.out u28 oA28)
 simp only [yeu,yaz,yax,yaw,yav,yau,yat,yas,ycr,ycq,ycp,yco,ycn,ycm,ycl,yck,yb8,yai,seqL,seqR,Tryd.f4]
 gi_wp2_with (first
  | (gi_at_call 17;refine CallsIn.mono kk ?_;rintro e w28 ⟨rfl,x28⟩)
  | gi_in)
 clear c0 c1 c2 c3 c4 c5 c6 c7 c8 c9 c10 c11 c12 c13 kk
 have oB28:Old Wb w28:=oA28.trans (.nx x28)
 exact⟨hOW.trans oB28,wa,wb,ba,bb,⟨HW.out,HB.out⟩,rfl,rfl,rfl,rfl,rfl,rfl,rfl,rfl,rfl⟩
end Go.Proofs.YtbbanmifdbeneaaDoor

namespace Go.Proofs.YtbbanmifdbeneaaDoor
open Go.RowKit
theorem ye3 {w w' : World} {base e sz n:Nat} {v:Value} {xs:List Value} (h:w.ownsRow base e sz v n xs) (nx:Nx w w'):w'.ownsRow base e sz v n xs:=by
 refine⟨h.1,?_⟩
 rcases h.2 with hn | ⟨g,cap,cur,rfl,hb,hg,rest⟩
 ·exact .inl hn
 ·exact .inr ⟨g,cap,cur,rfl,hb,(nx.block g (Array.getElem?_eq_some_iff.1 hg).1).trans hg,rest⟩
end Go.Proofs.YtbbanmifdbeneaaDoor

namespace Go.Proofs.YtbbanmifdbeneaaDoor
open Go.RowKit Go.Con Go.Conc
local instance pnI6:Lone:=zcG
theorem ybc {w u w' : World} (o:Old w u) (hs:u.heap.size≤w'.heap.size) (h:∀ b,b<w.heap.size→w'.heap[b]?=u.heap[b]?):Old w w':=by
 refine⟨Nat.le_trans o.size hs,fun a ha=>?_,fun b hb=>?_,fun b es k hb=>?_⟩
 ·rw [← o.cell a ha]
  unfold World.cell?
  rw [h _ ha]
 ·have hl:b<w.heap.size:=by
   obtain⟨cs,t,fz,e⟩:=hb
   exact (Array.getElem?_eq_some_iff.1 e).1
  obtain⟨cs,t,fz,e⟩:=o.kind b hb
  exact⟨cs,t,fz,(h b hl).trans e⟩
 ·exact (h b (Array.getElem?_eq_some_iff.1 hb).1).trans (o.map b es k hb)
end Go.Proofs.YtbbanmifdbeneaaDoor

namespace Go.Proofs.YtbbanmifdbeneaaDoor
open Go.RowKit Go.Con Go.Conc
local instance pnI7:Lone:=zcG
theorem ye9 {t:Array Value} {g:(Nat→Value)→Array Value} (h:t=g fun i=>t.getD i zu):∃ f,t=g f:=⟨_,h⟩
end Go.Proofs.YtbbanmifdbeneaaDoor

namespace Go.Proofs.YtbbanmifdbeneaaDoor
open Go.RowKit Go.Con Go.Conc
local instance pnI8:Lone:=zcG
def yeg (s bs:List (Int×Int)):Prop:=∀ (i:Nat) x y,s[i]?=some x→bs[i]?=some y→x.1≤y.1∧y.1≤y.2∧y.2≤x.2
theorem yb9 {v0 v1 v9 v10 v11 v12 v13 v14 v15 v16 v17 v18 v19 v20 v21 v22 v23 v24 v25 v26 v27 v28 v29 v30 v31 v32 v33 v34 v35 v36 v37 v38 v39 v40 v41 v42 v43 v44 v45 v46 v47 v48 v49 v50 v51 v52 v53 v54 v55 v56 v57 v58 v59 v60 v61 v62 v63 v64 v65 v66 v67 v68 v69:Value} (s:List (Int×Int)) (d:Dit) (x y z pr:Int) (pv:Value) (ps:List Int) (av:Option Addr) (capv B:Nat) (Wb:World) (hps:Sl Wb pv 1 (ps.map fun x=>[Value.int .u16 x])) (hpb:∀ x∈ps,0≤x∧x≤65535) (hpl:ps.length≤281474976710656) (hsv:Sl Wb (.slice av s.length capv) 2 (s.map two)) (h20:s.length≤20) (hok:∀ (i:Nat) x,s[i]?=some x→0≤x.1∧x.1≤x.2∧x.2≤100) :
  zo0 Tryd.prog (FG 4) [sz3,sz4] (fun t W2=>Old Wb W2∧∃ (bs:List (Int×Int)) (vo:Value),bs.length=s.length∧yeg s bs∧W2.ownsRow Wb.heap.size 28 2 vo bs.length (bs.map two).flatten∧∃ f:Nat→Value,t=#[v0,v1,.slice av s.length capv,.int .u8 x,.int .u32 y,.int .u32 z,.int .u16 pr,pv,.pointer (some ⟨B,0,none⟩),f 9,f 10,f 11,f 12,f 13,f 14,f 15,f 16,vo,f 18,f 19,f 20,f 21,f 22,f 23,f 24,f 25,f 26,f 27,f 28,f 29,f 30,f 31,f 32,f 33,f 34,f 35,f 36,f 37,f 38,f 39,f 40,f 41,f 42,f 43,f 44,f 45,f 46,f 47,f 48,f 49,f 50,f 51,f 52,f 53,f 54,f 55,f 56,f 57,f 58,f 59,f 60,f 61,f 62,f 63,f 64,f 65,f 66,f 67,f 68,f 69,f 70,f 71,f 72,f 73,f 74,f 75,f 76,f 77,f 78,f 79,f 80,f 81,f 82,f 83,f 84,f 85,f 86,f 87,f 88,f 89,f 90,f 91,f 92,f 93,f 94,f 95,f 96,f 97,f 98,f 99,f 100,f 101,f 102,f 103,zu,zu,zu,zu,zu,zu,zu,zu,zu,zu,zu,zu,zu,zu,zu,zu,zu,zu,zu,zu,zu,zu,zu,zu,zu,zu,zu,zu,zu,zu,zu,zu,zu,zu,zu,zu,zu,zu,zu,zu,zu,zu,zu,zu,zu,zu,zu,zu,zu,zu,zu,zu,zu,zu,zu,zu,zu,zu,zu,zu,zu,zu,zu,zu,zu,zu,zu,zu,zu,zu,zu,zu,zu,zu,zu,zu,zu,zu,zu,zu,zu,zu,zu,zu,zu,zu,zu,zu,zu,zu,zu,zu,zu,zu,zu,zu,zu,zu,zu,zu,zu,zu,zu,zu,zu,zu,zu,zu,zu,zu,zu,zu,zu,zu,zu,zu,zu,zu,zu,zu,zu,zu,zu,zu,zu,zu,zu,zu,zu,zu,zu,zu,zu,zu,zu,zu,zu,zu,zu,zu,zu,zu,zu,zu,zu,zu,zu,zu,zu,zu,zu,zu,zu,zu,zu,zu,zu,zu,zu,zu,zu,zu,zu,zu,zu,zu,zu,zu,zu,zu,zu,zu,zu,zu,zu,zu,zu,zu,zu,zu]) #[v0,v1,.slice av s.length capv,.int .u8 x,.int .u32 y,.int .u32 z,.int .u16 pr,pv,.pointer (some ⟨B,0,none⟩),v9,v10,v11,v12,v13,v14,v15,v16,v17,v18,v19,v20,v21,v22,v23,v24,v25,v26,v27,v28,v29,v30,v31,v32,v33,v34,v35,v36,v37,v38,v39,v40,v41,v42,v43,v44,v45,v46,v47,v48,v49,v50,v51,v52,v53,v54,v55,v56,v57,v58,v59,v60,v61,v62,v63,v64,v65,v66,v67,v68,v69,zu,zu,zu,zu,zu,zu,zu,zu,zu,zu,zu,zu,zu,zu,zu,zu,zu,zu,zu,zu,zu,zu,zu,zu,zu,zu,zu,zu,zu,zu,zu,zu,zu,zu,zu,zu,zu,zu,zu,zu,zu,zu,zu,zu,zu,zu,zu,zu,zu,zu,zu,zu,zu,zu,zu,zu,zu,zu,zu,zu,zu,zu,zu,zu,zu,zu,zu,zu,zu,zu,zu,zu,zu,zu,zu,zu,zu,zu,zu,zu,zu,zu,zu,zu,zu,zu,zu,zu,zu,zu,zu,zu,zu,zu,zu,zu,zu,zu,zu,zu,zu,zu,zu,zu,zu,zu,zu,zu,zu,zu,zu,zu,zu,zu,zu,zu,zu,zu,zu,zu,zu,zu,zu,zu,zu,zu,zu,zu,zu,zu,zu,zu,zu,zu,zu,zu,zu,zu,zu,zu,zu,zu,zu,zu,zu,zu,zu,zu,zu,zu,zu,zu,zu,zu,zu,zu,zu,zu,zu,zu,zu,zu,zu,zu,zu,zu,zu,zu,zu,zu,zu,zu,zu,zu,zu,zu,zu,zu,zu,zu,zu,zu,zu,zu,zu,zu,zu,zu,zu,zu,zu,zu,zu,zu,zu,zu,zu,zu,zu,zu,zu,zu,zu,zu,zu,zu,zu,zu,zu,zu,zu,zu,zu,zu] Wb:=by
 have HPS:=Lib.hid (fun w2 (o:Old Wb w2)=>hps.old o)
 have HPB:=Lib.hid (And.intro hpb hpl)
 have HSV:=Lib.hid (fun w2 (o:Old Wb w2)=>hsv.old o)
 have HOK:=Lib.hid hok
 clear hps hpb hpl hsv hok
 have KP:=Lib.hid (show (∀ u,Old Wb u→∀ k:Int,0≤k∧k≤100→CallsIn (FG 4) 0 Tryd.prog 10 #[pv,num k] u fun e w'=>∃ z:Int,e=Ending.returned (num z)∧(0≤z∧z≤65535)∧w'=u) from fun u o k hk=>by
  obtain⟨n,rfl⟩:=Int.eq_ofNat_of_zero_le hk.1
  exact toFG 4 (m:=0) (ydi ps pv n u (HPS.out u o) HPB.out.1 HPB.out.2 (by omega)))
 have KN:=Lib.hid (fun (lo hi z:Int) (h1 : -1000≤lo∧lo≤hi∧hi≤1000) (hz:0≤z∧z≤65535) u=>(toFG 4 (m:=0) (yd0 lo hi z u (by omega) (by omega))).mono (R':=fun e w'=>∃ q:Int,e=Ending.returned (num q)∧(lo≤q∧q≤hi)∧Nx u w') fun e w' ⟨h2,h3⟩=>⟨_,h2,by
  have h4:=Int.emod_nonneg z (show hi-lo+1≠0 by omega)
  have h5:=Int.emod_lt_of_pos z (show 0<hi-lo+1 by omega)
  omega,h3⟩)
 have KS:=Lib.hid (fun (lo hi:Int) u=>toFG 4 (m:=0) (zh6 lo hi u))
 intro τ3
 generalize hq3:({ Wb with tape:=τ3 }:World)=u3
 have oA3:Old Wb u3:=(Old.refl Wb).trans (by rw [← hq3];exact .same rfl)
 clear hq3
 simp only [sz3,yaz,yax,yaw,yav,yau,yat,yas,ycr,ycq,ycp,yco,ycn,ycm,ycl,yck,yb8,yai,seqL,seqR,Tryd.f4]
 gi_wp2
 intro τ4
 generalize hq4:({ u3 with tape:=τ4 }:World)=u4
 have oA4:Old Wb u4:=oA3.trans (by rw [← hq4];exact .same rfl)
 clear hq4
 simp only [sz4,yaz,yax,yaw,yav,yau,yat,yas,ycr,ycq,ycp,yco,ycn,ycm,ycl,yck,yb8,yai,seqL,seqR,Tryd.f4]
 gi_wp2
 gi_loopw [17,18] (fun vo vi wr=>∃ (k:Nat) (bs:List (Int×Int)),k≤s.length∧vi=num k∧bs.length=k∧yeg s bs∧wr.ownsRow Wb.heap.size 28 2 vo bs.length (bs.map two).flatten∧Old Wb wr) (fun _ vi _=>s.length-(intOf vi).toNat)
 case atStart=>exact⟨0,[],Nat.zero_le _,rfl,rfl,fun i a c _ h=>by simp at h,⟨by simp,.inl ⟨rfl,rfl⟩⟩,oA4⟩
 case round =>
  obtain⟨k,bs,hk,rfl,hbl,hbo,hown,oR⟩:=hrel
  have HBO:=Lib.hid hbo
  have HOWN:=Lib.hid hown
  have HBL:=Lib.hid hbl
  clear hbo hown hbl
  by_cases hlt:k<s.length
  ·obtain⟨b,off,ha,hbz,hcl⟩:=(HSV.out wr oR).get (by simp;omega)
   subst ha
   have hx:s[k]?=some s[k]:=List.getElem?_eq_getElem hlt
   have hxo:=HOK.out k _ hx
   have HX:=Lib.hid hx
   generalize s[k]=xx at hx hxo HX
   obtain⟨x1,x2⟩:=xx
   obtain⟨g1,g2⟩:=Sl.at2 hcl (Below.refl _ wr) hbz hx
   have G1:=Lib.hid (fun w2 (o:Nx wr w2)=>(o.cell (p:=⟨b,off+k * 2,none⟩) (by exact hbz)).trans g1)
   have G2:=Lib.hid (fun w2 (o:Nx wr w2)=>(o.cell (p:=⟨b,off+k * 2+1,none⟩) (by exact hbz)).trans g2)
   dsimp only at hxo
   clear hcl hx g1 g2
   gi_upto_region 7 with fail
   have oD7:Nx wr wr.drew:=Below.drew (Below.refl _ _)
   refine zbg (fun x=>Nx wr x) (by kernel_rfl) ?_
   change wpAnyC _ _ _ _ _ _ _ 10 #[false,false,false,false,false,false,false,false,false,false] _ _
   refine zah (i:=0) (oi:=⟨some 77,.move (.tmp 2),_,_,_,none⟩) (v:=.slice (some ⟨b,off,none⟩) s.length capv) (zaj (by kernel_rfl)) rfl (by kernel_rfl) (by kernel_rfl) (by kernel_rfl) (fun _ _ _ h=>by cases h.1) (zaN rfl) ?_
   simp only [Act.put,List.setIfInBounds_toArray,List.set_cons_succ,List.set_cons_zero]
   refine zah (i:=1) (oi:=⟨some 78,.move (.tmp 18),_,_,_,none⟩) (v:=num (k:Int)) (zaj (by kernel_rfl)) rfl (by kernel_rfl) (by kernel_rfl) (by kernel_rfl) (fun _ _ _ h=>by cases h.1) (zaN rfl) ?_
   simp only [Act.put,List.setIfInBounds_toArray,List.set_cons_succ,List.set_cons_zero]
   refine zah (i:=2) (oi:=⟨some 79,.indexAddr 24 (.tmp 77) (.tmp 78),_,_,_,none⟩) (v:=.pointer (some ⟨b,off+k * 2,none⟩)) (zaj (by kernel_rfl)) rfl (by kernel_rfl) (by kernel_rfl) (by kernel_rfl) (fun _ _ _ h=>by cases h.1) (yC rfl (fun _=>rfl) fun x hx=>by clear KP KN KS HPS HPB HSV HOK HBO HOWN HBL HX G1 G2;simp [execOp,go_sem,hlt]) ?_
   simp only [Act.put,List.setIfInBounds_toArray,List.set_cons_succ,List.set_cons_zero]
   refine zah (i:=3) (oi:=⟨some 80,.load 28 (.tmp 79),_,_,_,none⟩) (v:=.agg #[num x1,num x2]) (zaj (by kernel_rfl)) rfl (by kernel_rfl) (by kernel_rfl) (by kernel_rfl) (fun _ _ _ h=>by cases h.1) (yC rfl (fun _=>rfl) fun x hx=>by have e0:=G1.out x hx;have e1:=G2.out x hx;clear KP KN KS HPS HPB HSV HOK HBO HOWN HBL HX G1 G2;simp [execOp,go_sem,e0,e1]) ?_
   simp only [Act.put,List.setIfInBounds_toArray,List.set_cons_succ,List.set_cons_zero]
   refine zah (i:=4) (oi:=⟨some 81,.move (.tmp 7),_,_,_,none⟩) (v:=pv) (zaj (by kernel_rfl)) rfl (by kernel_rfl) (by kernel_rfl) (by kernel_rfl) (fun _ _ _ h=>by cases h.1) (zaN rfl) ?_
   simp only [Act.put,List.setIfInBounds_toArray,List.set_cons_succ,List.set_cons_zero]
   refine zah (i:=5) (oi:=⟨some 82,.move (.tmp 18),_,_,_,none⟩) (v:=num (k:Int)) (zaj (by kernel_rfl)) rfl (by kernel_rfl) (by kernel_rfl) (by kernel_rfl) (fun _ _ _ h=>by cases h.1) (zaN rfl) ?_
   simp only [Act.put,List.setIfInBounds_toArray,List.set_cons_succ,List.set_cons_zero]
   refine zah (i:=6) (oi:=⟨some 83,.binOp .mul 3 (.const (.int .i64 2)) (.tmp 82) 3,_,_,_,none⟩) (v:=num (2 * (k:Int))) (zaj (by kernel_rfl)) rfl (by kernel_rfl) (by kernel_rfl) (by kernel_rfl) (fun _ _ _ h=>by cases h.1) (yC rfl (fun _=>rfl) fun x hx=>by clear KP KN KS HPS HPB HSV HOK HBO HOWN HBL HX G1 G2;simp [execOp,go_sem];rw [IntKind.wrap_i64];omega) ?_
   simp only [Act.put,List.setIfInBounds_toArray,List.set_cons_succ,List.set_cons_zero]
   refine zau (i:=7) (o:=⟨some 84,.call { callee:=.value (.func 10),args:=#[.tmp 81,.tmp 83],argTypes:=#[33,3] },_,_,_,none⟩) (by kernel_rfl) rfl rfl (oD7) ?_
   intro K hK
   go_simp
   refine CallsIn.mono (((KP.out _ (oR.trans (.nx (oD7))) (2 * (k:Int)) (by omega)).mono (R':=fun e w'=>∃ z:Int,e=Ending.returned (num z)∧(0≤z∧z≤65535)∧Nx wr w') fun e w' ⟨z,h1,h2,h3⟩=>⟨z,h1,h2,by rw [h3];exact oD7⟩)) ?_
   rintro e x7w ⟨z7,rfl,hz7,y7⟩
   refine hK _ _ ?_
   refine zau (i:=8) (o:=⟨some 85,.call { callee:=.value (.func 9),args:=#[.tmp 80,.tmp 84],argTypes:=#[28,3] },_,_,_,none⟩) (by kernel_rfl) rfl rfl (y7) ?_
   intro K hK
   go_simp
   refine CallsIn.mono (((KN.out x1 x2 z7 (by omega) hz7 _).mono (R':=fun e w'=>∃ q:Int,e=Ending.returned (num q)∧(x1≤q∧q≤x2)∧Nx wr w') fun e w' ⟨z,h1,h2,h3⟩=>⟨z,h1,h2,Nx.trans (y7) h3⟩)) ?_
   rintro e x8w ⟨q8,rfl,hq8,y8⟩
   refine hK _ _ ?_
   refine zah (i:=9) (oi:=⟨some 19,.assign (.tmp 85),_,_,_,none⟩) (v:=num q8) (zaj (by kernel_rfl)) rfl (by kernel_rfl) (by kernel_rfl) (by kernel_rfl) (fun _ _ _ h=>by cases h.1) (zdN rfl) ?_
   simp only [Act.put,List.setIfInBounds_toArray,List.set_cons_succ,List.set_cons_zero]
   refine zbk (by kernel_rfl) (y8) ?_
   have oB7:Nx wr x8w:=y8
   have g2:=G2.out x8w oB7
   have k1:=KS.out q8 x2 x8w
   have HQ8:=Lib.hid hq8
   have hr2:=Lib.hid (show ∀ y∈bs.map two,y.length=2 from fun y hy=>by obtain⟨z,_,rfl⟩:=List.mem_map.1 hy;rfl)
   gi_wp2_with (first
    | (gi_at_call 13;refine CallsIn.mono k1 ?_;rintro e w1 ⟨rfl,n1⟩;clear k1;have k2:=KP.out w1 (oR.trans (.nx (Nx.trans oB7 n1))) (2 * (k:Int)+1) (by omega))
    | (gi_at_call 10;refine CallsIn.mono k2 ?_;rintro e w2 ⟨z2,rfl,hz2,hw2⟩;cases hw2;clear k2;have k3:=KN.out q8 x2 z2 (by omega) hz2 w1)
    | (gi_at_call 9;refine CallsIn.mono k3 ?_;rintro e w3 ⟨q9,rfl,hq9,n3⟩;clear k3;have k4:=KS.out q8 q9 w3)
    | (gi_at_call 13;refine CallsIn.mono k4 ?_;rintro e w4 ⟨rfl,n4⟩;clear k4
       have nal:Nx wr (w4.alloc (.cells #[num q8,num q9] 28)):=zaG (Nx.trans oB7 (Nx.trans n1 (Nx.trans n3 n4))) _
       obtain⟨vn,w7,hr1,how2,hgr⟩:=yd7 T24 Wb.heap.size (w4.alloc (.cells #[num q8,num q9] 28)) u17 (bs.map two) hr2.out (by rw [List.length_map];exact ye3 HOWN.out nal) w4.heap.size [num q8,num q9] rfl (heap_alloc_new _ _) (by simp [Value.oneCell']) (by rw [List.length_map];have:=HBL.out;omega) (by rw [List.length_map];have:=HBL.out;omega) (Nat.le_trans oR.size nal.size)
       have HGR:=Lib.hid hgr
       have HOW:=Lib.hid how2
       clear hgr how2
       simp [go_sem] at hr1)
    | gi_in)
   have HQ9:=Lib.hid hq9
   refine⟨⟨k+1,bs++[(q8,q9)],hlt,by simp,by rw [List.length_append,HBL.out];rfl,?_,?_,?_⟩,by simp [intOf];omega⟩
   ·intro i a c ha hc
    rcases Nat.lt_or_ge i bs.length with h | h
    ·rw [List.getElem?_append_left h] at hc
     exact HBO.out i a c ha hc
    ·rw [List.getElem?_append_right h] at hc
     have hi:i-bs.length=0:=by
      have:=(List.getElem?_eq_some_iff.1 hc).1
      simp at this
      omega
     rw [hi] at hc
     cases hc
     have hik:i=k:=by have:=HBL.out;omega
     subst hik
     rw [HX.out] at ha
     cases ha
     exact⟨HQ8.out.1,HQ9.out.1,HQ9.out.2⟩
   ·have h:=HOW.out
    rw [List.length_map] at h
    rw [List.length_append,List.map_append]
    exact h
   ·refine ybc (oR.trans (.nx nal)) HGR.out.size fun b hb=>HGR.out.block b (Nat.lt_of_lt_of_le hb (Nat.le_trans oR.size nal.size)) fun e=>?_
    have:=(HOWN.out.lt b e.symm).1
    omega
  ·obtain rfl:k=s.length:=by omega
   gi_wp2
   exact⟨oR,bs,HBL.out,HBO.out,_,HOWN.out,ye9 rfl⟩
end Go.Proofs.YtbbanmifdbeneaaDoor

namespace Go.Proofs.YtbbanmifdbeneaaDoor
open Go.RowKit Go.Con Go.Conc
local instance pnI9:Lone:=zcG
theorem ydk {l:List Int} {s bs:List (Int×Int)} (h:yae l s=0) (hl:bs.length=s.length) (hb:yeg s bs):yae l bs=0:=by
 have hok:=(ybs h).2.2
 unfold yae at h ⊢
 rw [hl]
 split at h
 ·cases h
 rename_i h1
 rw [if_neg h1]
 split at h
 ·rename_i h2;exact absurd h h2
 rename_i h2
 rw [if_neg h2]
 split at h
 ·cases h
 rename_i h3
 rw [if_neg h3]
 refine ybp fun j y hy=>?_
 have hj:=(List.getElem?_eq_some_iff.1 hy).1
 rw [hl] at hj
 have hx:s[j]?=some s[j]:=List.getElem?_eq_getElem hj
 have h4:=hok j _ hx
 have h5:=hb j _ y hx hy
 unfold ycu
 rw [if_pos (by omega)]
theorem yca {v0 v9 v10 v11 v12 v13 v14 v15 v16 v18 v19 v20 v21 v22 v23 v24 v25 v26 v27 v28 v29 v30 v31 v32 v33 v34 v35 v36 v37 v38 v39 v40 v41 v42 v43 v44 v45 v46 v47 v48 v49 v50 v51 v52 v53 v54 v55 v56 v57 v58 v59 v60 v61 v62 v63 v64 v65 v66 v67 v68 v69 v70 v71 v72 v73 v74 v75 v76 v77 v78 v79 v80 v81 v82 v83 v84 v85 v86 v87 v88 v89 v90 v91 v92 v93 v94 v95 v96 v97 v98 v99 v100 v101 v102 v103:Value} (l:List Int) (s bs:List (Int×Int)) (x y z pr:Int) (pv:Value) (al av ab:Option Addr) (capl capv capb B:Nat) (Wb:World) (hll:l.length≤40) (hss:s.length≤100) (hsl:Sl Wb (.slice al l.length capl) 1 (l.map fun x=>[num x])) (hsv:Sl Wb (.slice av s.length capv) 2 (s.map two)) (hsb:Sl Wb (.slice ab s.length capb) 2 (bs.map two)) (hbl:bs.length=s.length) (hbo:yeg s bs) (h0:yae l s=0) :
  zo0 Tryd.prog (FG 4) [sz9,ye0,ye1] (fun t W2=>Old Wb W2∧∃ ga gb:Nat,Sl W2 (.slice (some ⟨ga,0,none⟩) (l.length+1) (l.length+1)) 2 ((ya5 l s).map two)∧Sl W2 (.slice (some ⟨gb,0,none⟩) (l.length+1) (l.length+1)) 2 ((ya5 l bs).map two)∧∃ f:Nat→Value,t=#[v0,.slice al l.length capl,.slice av s.length capv,.int .u8 x,.int .u32 y,.int .u32 z,.int .u16 pr,pv,.pointer (some ⟨B,0,none⟩),f 9,f 10,f 11,f 12,f 13,f 14,f 15,f 16,.slice ab s.length capb,f 18,f 19,.slice (some ⟨ga,0,none⟩) (l.length+1) (l.length+1),num 0,.slice (some ⟨gb,0,none⟩) (l.length+1) (l.length+1),num 0,f 24,f 25,f 26,f 27,f 28,f 29,f 30,f 31,f 32,f 33,f 34,f 35,f 36,f 37,f 38,f 39,f 40,f 41,f 42,f 43,f 44,f 45,f 46,f 47,f 48,f 49,f 50,f 51,f 52,f 53,f 54,f 55,f 56,f 57,f 58,f 59,f 60,f 61,f 62,f 63,f 64,f 65,f 66,f 67,f 68,f 69,f 70,f 71,f 72,f 73,f 74,f 75,f 76,f 77,f 78,f 79,f 80,f 81,f 82,f 83,f 84,f 85,f 86,f 87,f 88,f 89,f 90,f 91,f 92,f 93,f 94,f 95,f 96,f 97,f 98,f 99,f 100,f 101,f 102,f 103,f 104,f 105,f 106,f 107,f 108,f 109,f 110,f 111,f 112,f 113,f 114,f 115,f 116,f 117,f 118,f 119,f 120,f 121,f 122,f 123,f 124,f 125,f 126,f 127,f 128,f 129,f 130,f 131,f 132,f 133,f 134,f 135,f 136,zu,zu,zu,zu,zu,zu,zu,zu,zu,zu,zu,zu,zu,zu,zu,zu,zu,zu,zu,zu,zu,zu,zu,zu,zu,zu,zu,zu,zu,zu,zu,zu,zu,zu,zu,zu,zu,zu,zu,zu,zu,zu,zu,zu,zu,zu,zu,zu,zu,zu,zu,zu,zu,zu,zu,zu,zu,zu,zu,zu,zu,zu,zu,zu,zu,zu,zu,zu,zu,zu,zu,zu,zu,zu,zu,zu,zu,zu,zu,zu,zu,zu,zu,zu,zu,zu,zu,zu,zu,zu,zu,zu,zu,zu,zu,zu,zu,zu,zu,zu,zu,zu,zu,zu,zu,zu,zu,zu,zu,zu,zu,zu,zu,zu,zu,zu,zu,zu,zu,zu,zu,zu,zu,zu,zu,zu,zu,zu,zu,zu,zu,zu,zu,zu,zu,zu,zu,zu,zu,zu,zu,zu,zu,zu,zu,zu,zu]) #[v0,.slice al l.length capl,.slice av s.length capv,.int .u8 x,.int .u32 y,.int .u32 z,.int .u16 pr,pv,.pointer (some ⟨B,0,none⟩),v9,v10,v11,v12,v13,v14,v15,v16,.slice ab s.length capb,v18,v19,v20,v21,v22,v23,v24,v25,v26,v27,v28,v29,v30,v31,v32,v33,v34,v35,v36,v37,v38,v39,v40,v41,v42,v43,v44,v45,v46,v47,v48,v49,v50,v51,v52,v53,v54,v55,v56,v57,v58,v59,v60,v61,v62,v63,v64,v65,v66,v67,v68,v69,v70,v71,v72,v73,v74,v75,v76,v77,v78,v79,v80,v81,v82,v83,v84,v85,v86,v87,v88,v89,v90,v91,v92,v93,v94,v95,v96,v97,v98,v99,v100,v101,v102,v103,zu,zu,zu,zu,zu,zu,zu,zu,zu,zu,zu,zu,zu,zu,zu,zu,zu,zu,zu,zu,zu,zu,zu,zu,zu,zu,zu,zu,zu,zu,zu,zu,zu,zu,zu,zu,zu,zu,zu,zu,zu,zu,zu,zu,zu,zu,zu,zu,zu,zu,zu,zu,zu,zu,zu,zu,zu,zu,zu,zu,zu,zu,zu,zu,zu,zu,zu,zu,zu,zu,zu,zu,zu,zu,zu,zu,zu,zu,zu,zu,zu,zu,zu,zu,zu,zu,zu,zu,zu,zu,zu,zu,zu,zu,zu,zu,zu,zu,zu,zu,zu,zu,zu,zu,zu,zu,zu,zu,zu,zu,zu,zu,zu,zu,zu,zu,zu,zu,zu,zu,zu,zu,zu,zu,zu,zu,zu,zu,zu,zu,zu,zu,zu,zu,zu,zu,zu,zu,zu,zu,zu,zu,zu,zu,zu,zu,zu,zu,zu,zu,zu,zu,zu,zu,zu,zu,zu,zu,zu,zu,zu,zu,zu,zu,zu,zu,zu,zu,zu,zu,zu,zu,zu,zu,zu,zu,zu,zu,zu,zu] Wb:=by
 have hbe:=ydk h0 hbl hbo
 have HSL:=Lib.hid (fun w2 (o:Old Wb w2)=>hsl.old o)
 have HSV:=Lib.hid (fun w2 (o:Old Wb w2)=>hsv.old o)
 have HSB:=Lib.hid (fun w2 (o:Old Wb w2)=>hsb.old o)
 have KA:=Lib.hid (fun u (o:Old Wb u)=>toFG 4 (m:=0) (ya7 _ _ l s u (HSL.out u o) (HSV.out u o) (by omega) (by omega) h0))
 have KB:=Lib.hid (fun u (o:Old Wb u)=>toFG 4 (m:=0) (ya7 _ _ l bs u (HSL.out u o) (HSB.out u o) (by omega) (by omega) hbe))
 clear hsl hsv hsb hbe h0 hbo
 intro τ9
 generalize hq9:({ Wb with tape:=τ9 }:World)=u9
 have oA9:Old Wb u9:=(Old.refl Wb).trans (by rw [← hq9];exact .same rfl)
 have oS9:Old Wb u9:=by rw [← hq9];exact .same rfl
 clear hq9
 have kk:=KA.out u9 oA9
 simp only [sz9,yaz,yax,yaw,yav,yau,yat,yas,ycr,ycq,ycp,yco,ycn,ycm,ycl,yck,yb8,yai,seqL,seqR,Tryd.f4]
 gi_wp2_with (first
  | (gi_at_call 14;refine CallsIn.mono kk ?_;rintro e w9 ⟨ga,rfl,n9,hsa⟩)
  | gi_in)
 have oB9:Old Wb w9:=oA9.trans (.nx n9)
 have HSA:=Lib.hid hsa
 clear kk hsa
 intro τ10
 generalize hq10:({ w9 with tape:=τ10 }:World)=u10
 have oA10:Old Wb u10:=oB9.trans (by rw [← hq10];exact .same rfl)
 have oS10:Old w9 u10:=by rw [← hq10];exact .same rfl
 clear hq10
 have kk:=KB.out u10 oA10
 simp only [ye0,yaz,yax,yaw,yav,yau,yat,yas,ycr,ycq,ycp,yco,ycn,ycm,ycl,yck,yb8,yai,seqL,seqR,Tryd.f4]
 gi_wp2_with (first
  | (gi_at_call 14;refine CallsIn.mono kk ?_;rintro e w10 ⟨gb,rfl,n10,hsb2⟩)
  | gi_in)
 have oB10:Old Wb w10:=oA10.trans (.nx n10)
 have HSB2:=Lib.hid hsb2
 clear kk hsb2
 intro τ11
 generalize hq11:({ w10 with tape:=τ11 }:World)=u11
 have oA11:Old Wb u11:=oB10.trans (by rw [← hq11];exact .same rfl)
 have oS11:Old w10 u11:=by rw [← hq11];exact .same rfl
 clear hq11
 simp only [ye1,yaz,yax,yaw,yav,yau,yat,yas,ycr,ycq,ycp,yco,ycn,ycm,ycl,yck,yb8,yai,seqL,seqR,Tryd.f4]
 gi_wp2
 exact⟨oA11,ga,(HSA.out.old oS10).old ((Old.nx n10).trans oS11),gb,HSB2.out.old oS11,ye9 rfl⟩
end Go.Proofs.YtbbanmifdbeneaaDoor

namespace Go.Proofs.YtbbanmifdbeneaaDoor
open Go.RowKit Go.Con Go.Conc
local instance pnI10:Lone:=zcG
noncomputable def ye4:Array Oper:=match sz13 with | .region _ ops _=>ops | _=>#[]
theorem yeh:sz13=.region 13 ye4 true:=by kernel_rfl
theorem yc0 {v0 v1 v2 v3 v4 v5 v6 v7 v9 v10 v11 v12 v13 v14 v15 v16 v17 v18 v19 v20 v21 v22 v23 v24 v25 v26 v27 v28 v29 v30 v31 v32 v33 v34 v35 v36 v37 v38 v39 v40 v41 v42 v43 v44 v45 v46 v47 v48 v49 v50 v51 v52 v53 v54 v55 v56 v57 v58 v59 v60 v61 v62 v63 v64 v65 v66 v67 v68 v69 v70 v71 v72 v73 v74 v75 v76 v77 v78 v79 v80 v81 v82 v83 v84 v85 v86 v87 v88 v89 v90 v91 v92 v93 v94 v95 v96 v97 v98 v99 v100 v101 v102 v103 v104 v105 v106 v107 v108 v109 v110 v111 v112 v113 v114 v115 v116 v117 v118 v119 v120 v121 v122 v123 v124 v125 v126 v127 v128 v129 v130 v131 v132 v133 v134 v135 v136:Value} (d:Dit) (r:zaR) (Y:World) (B:Nat) (hd:DitSl Y d r) (hc:∀ i v,(d.cellsA r)[i]?=some v→Y.cell? ⟨B,i,none⟩=some v) (hB:B<Y.heap.size) :
  sz13.wpIn (FG 4) 0 Tryd.prog (fun e a w'=>e=.normal∧a.defers=[]∧∃ b1 b2:Nat,a.tmps=#[v0,v1,v2,v3,v4,v5,v6,v7,.pointer (some ⟨B,0,none⟩),v9,v10,v11,v12,v13,v14,v15,v16,v17,v18,v19,v20,v21,v22,v23,.pointer (some ⟨b1,0,none⟩),.pointer (some ⟨b2,0,none⟩),v26,v27,v28,v29,v30,v31,v32,v33,v34,v35,v36,v37,v38,v39,v40,v41,v42,v43,v44,v45,v46,v47,v48,v49,v50,v51,v52,v53,v54,v55,v56,v57,v58,v59,v60,v61,v62,v63,v64,v65,v66,v67,v68,v69,v70,v71,v72,v73,v74,v75,v76,v77,v78,v79,v80,v81,v82,v83,v84,v85,v86,v87,v88,v89,v90,v91,v92,v93,v94,v95,v96,v97,v98,v99,v100,v101,v102,v103,v104,v105,v106,v107,v108,v109,v110,v111,v112,v113,v114,v115,v116,v117,v118,v119,v120,v121,v122,v123,v124,v125,v126,v127,v128,v129,v130,v131,v132,v133,v134,v135,v136,d.val r,d.val r,zu,zu,zu,zu,zu,zu,zu,zu,zu,zu,zu,zu,zu,zu,zu,zu,zu,zu,zu,zu,zu,zu,zu,zu,zu,zu,zu,zu,zu,zu,zu,zu,zu,zu,zu,zu,zu,zu,zu,zu,zu,zu,zu,zu,zu,zu,zu,zu,zu,zu,zu,zu,zu,zu,zu,zu,zu,zu,zu,zu,zu,zu,zu,zu,zu,zu,zu,zu,zu,zu,zu,zu,zu,zu,zu,zu,zu,zu,zu,zu,zu,zu,zu,zu,zu,zu,zu,zu,zu,zu,zu,zu,zu,zu,zu,zu,zu,zu,zu,zu,zu,zu,zu,zu,zu,zu,zu,zu,zu,zu,zu,zu,zu,zu,zu,zu,zu,zu,zu,zu,zu,zu,zu,zu,zu,zu,zu,zu,zu,zu,zu,zu,zu,zu,zu,zu,zu,zu,zu,zu,zu,zu,zu,zu,zu]∧b1≠b2∧Y.heap.size≤b1∧Y.heap.size≤b2∧Y.heap.size≤w'.heap.size∧(∀ b,b<Y.heap.size→w'.heap[b]?=Y.heap[b]?) ∧
   w'.heap[b1]?=some (.cells (d.cellsA r) 31 (0,0))∧w'.heap[b2]?=some (.cells (d.cellsA r) 31 (0,0))) ⟨#[v0,v1,v2,v3,v4,v5,v6,v7,.pointer (some ⟨B,0,none⟩),v9,v10,v11,v12,v13,v14,v15,v16,v17,v18,v19,v20,v21,v22,v23,v24,v25,v26,v27,v28,v29,v30,v31,v32,v33,v34,v35,v36,v37,v38,v39,v40,v41,v42,v43,v44,v45,v46,v47,v48,v49,v50,v51,v52,v53,v54,v55,v56,v57,v58,v59,v60,v61,v62,v63,v64,v65,v66,v67,v68,v69,v70,v71,v72,v73,v74,v75,v76,v77,v78,v79,v80,v81,v82,v83,v84,v85,v86,v87,v88,v89,v90,v91,v92,v93,v94,v95,v96,v97,v98,v99,v100,v101,v102,v103,v104,v105,v106,v107,v108,v109,v110,v111,v112,v113,v114,v115,v116,v117,v118,v119,v120,v121,v122,v123,v124,v125,v126,v127,v128,v129,v130,v131,v132,v133,v134,v135,v136,zu,zu,zu,zu,zu,zu,zu,zu,zu,zu,zu,zu,zu,zu,zu,zu,zu,zu,zu,zu,zu,zu,zu,zu,zu,zu,zu,zu,zu,zu,zu,zu,zu,zu,zu,zu,zu,zu,zu,zu,zu,zu,zu,zu,zu,zu,zu,zu,zu,zu,zu,zu,zu,zu,zu,zu,zu,zu,zu,zu,zu,zu,zu,zu,zu,zu,zu,zu,zu,zu,zu,zu,zu,zu,zu,zu,zu,zu,zu,zu,zu,zu,zu,zu,zu,zu,zu,zu,zu,zu,zu,zu,zu,zu,zu,zu,zu,zu,zu,zu,zu,zu,zu,zu,zu,zu,zu,zu,zu,zu,zu,zu,zu,zu,zu,zu,zu,zu,zu,zu,zu,zu,zu,zu,zu,zu,zu,zu,zu,zu,zu,zu,zu,zu,zu,zu,zu,zu,zu,zu,zu,zu,zu,zu,zu,zu,zu],[]⟩ Y:=by
 rw [yeh]
 let C:World→Prop:=fun x=>x.heap[B]?=Y.heap[B]?
 have cC:∀ x,C x→∀ i v,(d.cellsA r)[i]?=some v→x.cell? ⟨B,i,none⟩=some v:=fun x hx i v hv=>by
  have:=hc i v hv
  have hx' : x.heap[B]?=Y.heap[B]?:=hx
  unfold World.cell? at this ⊢;dsimp only at this ⊢;rw [hx'];exact this
 have cN:∀ x,Nx Y x→C x:=fun x n=>n.block _ hB
 refine zbg C (by kernel_rfl) ?_
 change wpAnyC _ _ _ _ _ _ _ 6 #[false,false,false,false,false,false] _ _
 refine zah (i:=0) (oi:=⟨some 137,.load 31 (.tmp 8),_,_,_,none⟩) (v:=d.val r) (zaj (by kernel_rfl)) rfl (by kernel_rfl) (by kernel_rfl) (by kernel_rfl) (fun _ _ _ h=>by cases h.1) (zc8 rfl cC) ?_
 simp only [Act.put,List.setIfInBounds_toArray,List.set_cons_succ,List.set_cons_zero]
 refine zah (i:=1) (oi:=⟨some 138,.load 31 (.tmp 8),_,_,_,none⟩) (v:=d.val r) (zaj (by kernel_rfl)) rfl (by kernel_rfl) (by kernel_rfl) (by kernel_rfl) (fun _ _ _ h=>by cases h.1) (zc8 rfl cC) ?_
 simp only [Act.put,List.setIfInBounds_toArray,List.set_cons_succ,List.set_cons_zero]
 obtain⟨ah,hh,eh⟩:=hd.holders.cases
 obtain⟨at1,ht,et⟩:=hd.turns.cases
 obtain⟨af,hf,ef⟩:=hd.feasts.cases
 obtain⟨as1,hs,es⟩:=hd.swaps.cases
 obtain⟨al,hl,el⟩:=hd.loans.cases
 obtain⟨ap,hp,ep⟩:=hd.plots.cases
 have hval:d.val r=.agg #[r.h,r.t,num d.begin_,num d.week,num d.from_,num d.long,r.f,r.s,r.l,num d.flow.1,num d.flow.2,num d.loss.1,num d.loss.2,r.p]:=rfl
 have hcel:d.cellsA r=#[r.h,r.t,num d.begin_,num d.week,num d.from_,num d.long,r.f,r.s,r.l,num d.flow.1,num d.flow.2,num d.loss.1,num d.loss.2,r.p]:=rfl
 rw [hval,hcel]
 clear hval hcel hc hd cC
 rw [eh,et,ef,es,el,ep]
 generalize (d.holders.map fun s=>[str s]).length=nh at *
 generalize (d.turns.map two).length=nt at *
 generalize (d.feasts.map two).length=nf at *
 generalize (d.swaps.map three).length=ns at *
 generalize (d.loans.map three).length=nl at *
 generalize (d.plots.map Plot.cells).length=np at *
 clear eh et ef es el ep
 have n0:Nx Y Y.drew:=Below.drew (Below.refl _ _)
 change wpAnyC _ _ _ _ _ _ _ _ _ _ Y.drew
 generalize Y.drew=q at *
 have nq:=n0
 clear n0
 refine zhi (i:=2) (j:=3) (oi:=⟨some 24,.alloc 31,_,_,_,none⟩) (oj:=⟨some 25,.alloc 31,_,_,_,none⟩) (by kernel_rfl) rfl rfl rfl rfl (cN _ nq) ?_ ?_
 ·skip
  intro K hK
  refine yaj (v:=fun g=>.pointer (some ⟨g,0,none⟩)) (o:=.cells #[.slice none 0 0,.slice none 0 0,num 0,num 0,num 0,num 0,.slice none 0 0,.slice none 0 0,.slice none 0 0,num 0,num 0,num 0,num 0,.slice none 0 0] 31) rfl rfl (by simp [execOp,go_sem]) nq ?_
  intro gA w1 hgA nw1 zgA lgA kgA _
  simp only [Act.put,List.setIfInBounds_toArray,List.set_cons_succ,List.set_cons_zero]
  refine hK _ _ ?_
  refine zau (i:=3) (o:=⟨some 25,.alloc 31,_,_,_,none⟩) (by kernel_rfl) rfl rfl (cN _ nw1) ?_
  intro K hK
  refine yaj (v:=fun g=>.pointer (some ⟨g,0,none⟩)) (o:=.cells #[.slice none 0 0,.slice none 0 0,num 0,num 0,num 0,num 0,.slice none 0 0,.slice none 0 0,.slice none 0 0,num 0,num 0,num 0,num 0,.slice none 0 0] 31) rfl rfl (by simp [execOp,go_sem]) nw1 ?_
  intro gB w2 hgB nw2 zgB lgB kgB _
  simp only [Act.put,List.setIfInBounds_toArray,List.set_cons_succ,List.set_cons_zero]
  refine hK _ _ ?_
  have hAB:gA≠gB:=by have:=lt_of_some hgA;omega
  replace hgA:=(kgB gA (lt_of_some hgA)).trans hgA
  have hb12:gA≠gB:=by first | exact hAB | exact hAB.symm
  refine zau (i:=4) (o:=⟨none,.store 31 (.tmp 24) (.tmp 137),_,_,_,none⟩) (by kernel_rfl) rfl rfl (cN _ nw2) ?_
  intro K hK
  refine yap rfl rfl rfl rfl hgA ?_
  intro w3 bw3 qw3 zw3
  simp only [Act.put]
  refine hK _ _ ?_
  have dw3:=(qw3 gB hb12.symm).trans hgB
  have hBb:B≠gA:=by omega
  refine zau (i:=5) (o:=⟨none,.store 31 (.tmp 25) (.tmp 138),_,_,_,none⟩) (by kernel_rfl) rfl rfl ((qw3 _ hBb).trans (nw2.block _ hB)) ?_
  intro K hK
  refine yap rfl rfl rfl rfl dw3 ?_
  intro w4 bw4 qw4 zw4
  simp only [Act.put]
  refine hK _ _ ?_
  refine zbk (by kernel_rfl) ((qw4 B (by omega)).trans ((qw3 _ hBb).trans (nw2.block _ hB))) ⟨rfl,rfl,gA,gB,rfl,hb12,by omega,by omega,by rw [zw4,zw3];exact nw2.size,fun b hb=>(qw4 b (by omega)).trans ((qw3 b (by omega)).trans (nw2.block _ hb)),(qw4 _ hb12).trans bw3,bw4⟩
 ·skip
  intro K hK
  refine yaj (v:=fun g=>.pointer (some ⟨g,0,none⟩)) (o:=.cells #[.slice none 0 0,.slice none 0 0,num 0,num 0,num 0,num 0,.slice none 0 0,.slice none 0 0,.slice none 0 0,num 0,num 0,num 0,num 0,.slice none 0 0] 31) rfl rfl (by simp [execOp,go_sem]) nq ?_
  intro gA w1 hgA nw1 zgA lgA kgA _
  simp only [Act.put,List.setIfInBounds_toArray,List.set_cons_succ,List.set_cons_zero]
  refine hK _ _ ?_
  refine zau (i:=2) (o:=⟨some 24,.alloc 31,_,_,_,none⟩) (by kernel_rfl) rfl rfl (cN _ nw1) ?_
  intro K hK
  refine yaj (v:=fun g=>.pointer (some ⟨g,0,none⟩)) (o:=.cells #[.slice none 0 0,.slice none 0 0,num 0,num 0,num 0,num 0,.slice none 0 0,.slice none 0 0,.slice none 0 0,num 0,num 0,num 0,num 0,.slice none 0 0] 31) rfl rfl (by simp [execOp,go_sem]) nw1 ?_
  intro gB w2 hgB nw2 zgB lgB kgB _
  simp only [Act.put,List.setIfInBounds_toArray,List.set_cons_succ,List.set_cons_zero]
  refine hK _ _ ?_
  have hAB:gA≠gB:=by have:=lt_of_some hgA;omega
  replace hgA:=(kgB gA (lt_of_some hgA)).trans hgA
  have hb12:gB≠gA:=by first | exact hAB | exact hAB.symm
  refine zau (i:=4) (o:=⟨none,.store 31 (.tmp 24) (.tmp 137),_,_,_,none⟩) (by kernel_rfl) rfl rfl (cN _ nw2) ?_
  intro K hK
  refine yap rfl rfl rfl rfl hgB ?_
  intro w3 bw3 qw3 zw3
  simp only [Act.put]
  refine hK _ _ ?_
  have dw3:=(qw3 gA hb12.symm).trans hgA
  have hBb:B≠gB:=by omega
  refine zau (i:=5) (o:=⟨none,.store 31 (.tmp 25) (.tmp 138),_,_,_,none⟩) (by kernel_rfl) rfl rfl ((qw3 _ hBb).trans (nw2.block _ hB)) ?_
  intro K hK
  refine yap rfl rfl rfl rfl dw3 ?_
  intro w4 bw4 qw4 zw4
  simp only [Act.put]
  refine hK _ _ ?_
  refine zbk (by kernel_rfl) ((qw4 B (by omega)).trans ((qw3 _ hBb).trans (nw2.block _ hB))) ⟨rfl,rfl,gB,gA,rfl,hb12,by omega,by omega,by rw [zw4,zw3];exact nw2.size,fun b hb=>(qw4 b (by omega)).trans ((qw3 b (by omega)).trans (nw2.block _ hb)),(qw4 _ hb12).trans bw3,bw4⟩
end Go.Proofs.YtbbanmifdbeneaaDoor

namespace Go.Proofs.YtbbanmifdbeneaaDoor
open Go.RowKit Go.Con Go.Conc
local instance pnI11:Lone:=zcG
theorem ycb {v0 v1 v2 v3 v4 v5 v6 v7 v9 v10 v11 v12 v13 v14 v15 v16 v17 v18 v19 v20 v21 v22 v23 v24 v25 v26 v27 v28 v29 v30 v31 v32 v33 v34 v35 v36 v37 v38 v39 v40 v41 v42 v43 v44 v45 v46 v47 v48 v49 v50 v51 v52 v53 v54 v55 v56 v57 v58 v59 v60 v61 v62 v63 v64 v65 v66 v67 v68 v69 v70 v71 v72 v73 v74 v75 v76 v77 v78 v79 v80 v81 v82 v83 v84 v85 v86 v87 v88 v89 v90 v91 v92 v93 v94 v95 v96 v97 v98 v99 v100 v101 v102 v103 v104 v105 v106 v107 v108 v109 v110 v111 v112 v113 v114 v115 v116 v117 v118 v119 v120 v121 v122 v123 v124 v125 v126 v127 v128 v129 v130 v131 v132 v133 v134 v135 v136:Value} (d:Dit) (r:zaR) (B:Nat) (Wb:World) (hd:DitSl Wb d r) (cB:∀ i v,(d.cellsA r)[i]?=some v→Wb.cell? ⟨B,i,none⟩=some v) (hBl:B<Wb.heap.size) :
  zo0 Tryd.prog (FG 4) [sz13,yey] (fun t W2=>Old Wb W2∧∃ P Q:Nat,(Wb.heap.size≤P∧Wb.heap.size≤Q∧P≠Q∧W2.heap[P]?=some (.cells ((d.cellsA r).setIfInBounds 13 (.slice none 0 0)) 31 (0,0))∧W2.heap[Q]?=some (.cells ((d.cellsA r).setIfInBounds 13 (.slice none 0 0)) 31 (0,0)))∧∃ f:Nat→Value,t=#[v0,v1,v2,v3,v4,v5,v6,v7,.pointer (some ⟨B,0,none⟩),f 9,f 10,f 11,f 12,f 13,f 14,f 15,f 16,v17,f 18,f 19,v20,v21,v22,v23,.pointer (some ⟨P,0,none⟩),.pointer (some ⟨Q,0,none⟩),f 26,f 27,f 28,f 29,f 30,f 31,f 32,f 33,f 34,f 35,f 36,f 37,f 38,f 39,f 40,f 41,f 42,f 43,f 44,f 45,f 46,f 47,f 48,f 49,f 50,f 51,f 52,f 53,f 54,f 55,f 56,f 57,f 58,f 59,f 60,f 61,f 62,f 63,f 64,f 65,f 66,f 67,f 68,f 69,f 70,f 71,f 72,f 73,f 74,f 75,f 76,f 77,f 78,f 79,f 80,f 81,f 82,f 83,f 84,f 85,f 86,f 87,f 88,f 89,f 90,f 91,f 92,f 93,f 94,f 95,f 96,f 97,f 98,f 99,f 100,f 101,f 102,f 103,f 104,f 105,f 106,f 107,f 108,f 109,f 110,f 111,f 112,f 113,f 114,f 115,f 116,f 117,f 118,f 119,f 120,f 121,f 122,f 123,f 124,f 125,f 126,f 127,f 128,f 129,f 130,f 131,f 132,f 133,f 134,f 135,f 136,f 137,f 138,f 139,f 140,zu,zu,zu,zu,zu,zu,zu,zu,zu,zu,zu,zu,zu,zu,zu,zu,zu,zu,zu,zu,zu,zu,zu,zu,zu,zu,zu,zu,zu,zu,zu,zu,zu,zu,zu,zu,zu,zu,zu,zu,zu,zu,zu,zu,zu,zu,zu,zu,zu,zu,zu,zu,zu,zu,zu,zu,zu,zu,zu,zu,zu,zu,zu,zu,zu,zu,zu,zu,zu,zu,zu,zu,zu,zu,zu,zu,zu,zu,zu,zu,zu,zu,zu,zu,zu,zu,zu,zu,zu,zu,zu,zu,zu,zu,zu,zu,zu,zu,zu,zu,zu,zu,zu,zu,zu,zu,zu,zu,zu,zu,zu,zu,zu,zu,zu,zu,zu,zu,zu,zu,zu,zu,zu,zu,zu,zu,zu,zu,zu,zu,zu,zu,zu,zu,zu,zu,zu,zu,zu,zu,zu,zu,zu]) #[v0,v1,v2,v3,v4,v5,v6,v7,.pointer (some ⟨B,0,none⟩),v9,v10,v11,v12,v13,v14,v15,v16,v17,v18,v19,v20,v21,v22,v23,v24,v25,v26,v27,v28,v29,v30,v31,v32,v33,v34,v35,v36,v37,v38,v39,v40,v41,v42,v43,v44,v45,v46,v47,v48,v49,v50,v51,v52,v53,v54,v55,v56,v57,v58,v59,v60,v61,v62,v63,v64,v65,v66,v67,v68,v69,v70,v71,v72,v73,v74,v75,v76,v77,v78,v79,v80,v81,v82,v83,v84,v85,v86,v87,v88,v89,v90,v91,v92,v93,v94,v95,v96,v97,v98,v99,v100,v101,v102,v103,v104,v105,v106,v107,v108,v109,v110,v111,v112,v113,v114,v115,v116,v117,v118,v119,v120,v121,v122,v123,v124,v125,v126,v127,v128,v129,v130,v131,v132,v133,v134,v135,v136,zu,zu,zu,zu,zu,zu,zu,zu,zu,zu,zu,zu,zu,zu,zu,zu,zu,zu,zu,zu,zu,zu,zu,zu,zu,zu,zu,zu,zu,zu,zu,zu,zu,zu,zu,zu,zu,zu,zu,zu,zu,zu,zu,zu,zu,zu,zu,zu,zu,zu,zu,zu,zu,zu,zu,zu,zu,zu,zu,zu,zu,zu,zu,zu,zu,zu,zu,zu,zu,zu,zu,zu,zu,zu,zu,zu,zu,zu,zu,zu,zu,zu,zu,zu,zu,zu,zu,zu,zu,zu,zu,zu,zu,zu,zu,zu,zu,zu,zu,zu,zu,zu,zu,zu,zu,zu,zu,zu,zu,zu,zu,zu,zu,zu,zu,zu,zu,zu,zu,zu,zu,zu,zu,zu,zu,zu,zu,zu,zu,zu,zu,zu,zu,zu,zu,zu,zu,zu,zu,zu,zu,zu,zu,zu,zu,zu,zu] Wb:=by
 have CO:=Lib.hid (fun w2 (o:Old Wb w2) i v (h:(d.cellsA r)[i]?=some v)=>(o.cell ⟨B,i,none⟩ (by show B<_;omega)).trans (cB i v h))
 have hcd:(d.cellsA r).size=14:=rfl
 intro τ13
 generalize hq13:({ Wb with tape:=τ13 }:World)=u13
 have oA13:Old Wb u13:=(Old.refl Wb).trans (by rw [← hq13];exact .same rfl)
 have hh13:u13.heap=Wb.heap:=by rw [← hq13]
 clear hq13
 refine wpIn_mono (yc0 d r u13 B (hd.old oA13) (CO.out u13 oA13) (Nat.lt_of_lt_of_le hBl oA13.size)) ?_
 rintro e a w13 ⟨rfl,hdef,P,Q,ht,hPQ,hP,hQ,hs13,hold,gP,gQ⟩
 obtain⟨tm,df⟩:=a
 dsimp only at hdef ht
 subst hdef ht
 have oB13:Old Wb w13:=oA13.trans (.heap hs13 hold)
 have hP0:=Nat.le_trans oA13.size hP
 have hQ0:=Nat.le_trans oA13.size hQ
 refine⟨rfl,rfl,?_⟩
 intro τ14
 generalize hq14:({ w13 with tape:=τ14 }:World)=u14
 have oA14:Old Wb u14:=oB13.trans (by rw [← hq14];exact .same rfl)
 have hh14:u14.heap=w13.heap:=by rw [← hq14]
 clear hq14
 rw [← hh14] at gP gQ
 obtain⟨oc,hoc⟩:∃ oc,d.cellsA r=oc:=⟨_,rfl⟩
 have HOC:=Lib.hid hoc
 rw [hoc] at gP gQ hcd
 clear hoc
 obtain⟨z0,hz0⟩:∃ z,oc[13]?=some z:=⟨_,Array.getElem?_eq_getElem (by omega)⟩
 have p1:u14.cell? ⟨P,13,none⟩=some z0:=by unfold World.cell?;dsimp only;rw [gP];exact hz0
 have p2:u14.frozen? ⟨P,13,none⟩=false:=frozen_of_row _ _ _ _ _ gP
 have gQ2:(u14.setCell ⟨P,13,none⟩ (.slice none 0 0)).heap[Q]?=some (.cells oc 31 (0,0)):=(heap_setCell_other _ _ _ _ (by exact hPQ.symm)).trans gQ
 have p3:(u14.setCell ⟨P,13,none⟩ (.slice none 0 0)).cell? ⟨Q,13,none⟩=some z0:=by unfold World.cell?;dsimp only;rw [gQ2];exact hz0
 have p4:(u14.setCell ⟨P,13,none⟩ (.slice none 0 0)).frozen? ⟨Q,13,none⟩=false:=frozen_of_row _ _ _ _ _ gQ2
 have HH:=Lib.hid (And.intro gP gQ2)
 have HS:=Lib.hid (And.intro hP0 (And.intro hQ0 hPQ))
 clear gP gQ gQ2 hP hQ hP0 hQ0 hh14 hold hs13
 simp only [yey,yaz,yax,yaw,yav,yau,yat,yas,ycr,ycq,ycp,yco,ycn,ycm,ycl,yck,yb8,yai,seqL,seqR,Tryd.f4]
 gi_wp2
 obtain⟨hp0,hq0,hpq⟩:=HS.out
 refine⟨ybc (ybc oA14 (by simp) fun b hb=>heap_setCell_other _ _ _ _ (by show b≠P;omega)) (by simp) fun b hb=>heap_setCell_other _ _ _ _ (by show b≠Q;omega),P,Q,⟨hp0,hq0,hpq,?_,?_⟩,ye9 rfl⟩
 ·rw [heap_setCell_other _ _ _ _ (by exact hpq),heap_setCell_same u14 P 13 oc 31 _ HH.out.1,← HOC.out]
  rfl
 ·rw [heap_setCell_same _ Q 13 oc 31 _ HH.out.2,← HOC.out]
  rfl
end Go.Proofs.YtbbanmifdbeneaaDoor

namespace Go.Proofs.YtbbanmifdbeneaaDoor
open Go.RowKit Go.Con Go.Conc
local instance pnI12:Lone:=zcG
theorem yfc {w:World} {b:Nat} {x0 x1 x2 x3 x4 x5 v0 v1 v2 v3 v4 v5:Value} (h:w.heap[b]?=some (.cells #[x0,x1,x2,x3,x4,x5] 55 (0,0))) :
  ((((((w.setCell ⟨b,0,none⟩ v0).setCell ⟨b,1,none⟩ v1).setCell ⟨b,2,none⟩ v2).setCell ⟨b,3,none⟩ v3).setCell ⟨b,4,none⟩ v4).setCell ⟨b,5,none⟩ v5).heap[b]?=some (.cells #[v0,v1,v2,v3,v4,v5] 55 (0,0)):=by
 unfold World.setCell
 simp [Array.getElem?_modify,h]
theorem ye5 {w:World} {b k:Nat} {v0 v1 v2 v3 v4 v5:Value} (h:k≠b):((((((w.setCell ⟨b,0,none⟩ v0).setCell ⟨b,1,none⟩ v1).setCell ⟨b,2,none⟩ v2).setCell ⟨b,3,none⟩ v3).setCell ⟨b,4,none⟩ v4).setCell ⟨b,5,none⟩ v5).heap[k]?=w.heap[k]?:=by
 have h2:¬ b=k:=fun e=>h e.symm
 unfold World.setCell
 simp [Array.getElem?_modify,h2]
theorem yfb {w:World} {b:Nat} {v0 v1 v2 v3 v4 v5:Value}:((((((w.setCell ⟨b,0,none⟩ v0).setCell ⟨b,1,none⟩ v1).setCell ⟨b,2,none⟩ v2).setCell ⟨b,3,none⟩ v3).setCell ⟨b,4,none⟩ v4).setCell ⟨b,5,none⟩ v5).heap.size=w.heap.size:=by
 simp
theorem yc1 {e:Operand→Value} {w:World} {s t b:Nat} {dst:Option Nat} {ty:TypeId} {pos:String} {af:Array Edge} {x0 x1 x2 x3 x4 x5:Value} {nm:List UInt8} {z1 z2 z3 z4 z5:Int} (h:e (.tmp s)=.pointer (some ⟨b,0,none⟩)) (h2:e (.tmp t)=.agg #[str nm,.int .i64 z1,.int .i64 z2,.int .i64 z3,.int .i64 z4,.int .i64 z5]) (hb:w.heap[b]?=some (.cells #[x0,x1,x2,x3,x4,x5] 55 (0,0))) :
  (execOp e ⟨dst,.store 55 (.tmp s) (.tmp t),ty,pos,af,none⟩).run Tryd.prog w=.ok .skip ((((((w.setCell ⟨b,0,none⟩ (str nm)).setCell ⟨b,1,none⟩ (.int .i64 z1)).setCell ⟨b,2,none⟩ (.int .i64 z2)).setCell ⟨b,3,none⟩ (.int .i64 z3)).setCell ⟨b,4,none⟩ (.int .i64 z4)).setCell ⟨b,5,none⟩ (.int .i64 z5)):=by
 have cc:∀ i v,(#[x0,x1,x2,x3,x4,x5]:Array Value)[i]?=some v→w.cell? ⟨b,i,none⟩=some v∧w.frozen? ⟨b,i,none⟩=false:=fun i v hv=>⟨by unfold World.cell?;dsimp only;rw [hb];exact hv,frozen_of_row _ _ _ _ _ hb⟩
 obtain⟨e0,f0⟩:=cc 0 x0 rfl;obtain⟨e1,f1⟩:=cc 1 x1 rfl;obtain⟨e2,f2⟩:=cc 2 x2 rfl;obtain⟨e3,f3⟩:=cc 3 x3 rfl;obtain⟨e4,f4⟩:=cc 4 x4 rfl;obtain⟨e5,f5⟩:=cc 5 x5 rfl
 clear cc hb
 simp [execOp,go_sem,h,h2,e0,f0,e1,f1,e2,f2,e3,f3,e4,f4,e5,f5]
theorem yaq {F:Fence} {nF:Nat} {K:Act→World→Prop} {Q:Exit→Act→World→Prop} {dst:Option Nat} {ty:TypeId} {pos:String} {af:Array Edge} {a:Act} {w:World} {s t b:Nat} {x0 x1 x2 x3 x4 x5:Value} {nm:List UInt8} {z1 z2 z3 z4 z5:Int} (hro:F.round=none) (hab:(⟨dst,.store 55 (.tmp s) (.tmp t),ty,pos,af,none⟩:Oper).about Tryd.prog w a.eval=none) (h:a.eval (.tmp s)=.pointer (some ⟨b,0,none⟩))
  (h2:a.eval (.tmp t)=.agg #[str nm,.int .i64 z1,.int .i64 z2,.int .i64 z3,.int .i64 z4,.int .i64 z5]) (hb:w.heap[b]?=some (.cells #[x0,x1,x2,x3,x4,x5] 55 (0,0)))
  (H:∀ w',w'.heap[b]?=some (.cells #[str nm,.int .i64 z1,.int .i64 z2,.int .i64 z3,.int .i64 z4,.int .i64 z5] 55 (0,0))→(∀ k,k≠b→w'.heap[k]?=w.heap[k]?)→w'.heap.size=w.heap.size→K (a.put dst zu) w') :
  (⟨dst,.store 55 (.tmp s) (.tmp t),ty,pos,af,none⟩:Oper).wpIn F nF Tryd.prog a w K Q :=
 zb4 hro hab (yc1 h h2 hb) (H _ (yfc hb) (fun k hk=>ye5 hk) yfb)
end Go.Proofs.YtbbanmifdbeneaaDoor

namespace Go.Proofs.YtbbanmifdbeneaaDoor
open Go.RowKit Go.Con Go.Conc
local instance pnI13:Lone:=zcG
noncomputable def ybw (n:Nat):Code→Code
 | .region i o m=>if i=n then .region i o m else .skip
 | .seq a b=>match ybw n a with | .skip=>ybw n b | c=>c
 | .block _ c=>ybw n c
 | .loop c=>ybw n c
 | .cond _ a b=>match ybw n a with | .skip=>ybw n b | c=>c
 | _=>.skip
noncomputable def sz18:Code:=ybw 18 yai
noncomputable def ye6:Array Oper:=match sz18 with | .region _ ops _=>ops | _=>#[]
theorem yei:sz18=.region 18 ye6 true:=by kernel_rfl
theorem yc2 {v0 v1 v2 v3 v4 v5 v6 v7 v9 v10 v11 v12 v13 v14 v15 v16 v17 v18 v19 v20 v21 v22 v23 v24 v25 v27 v28 v29 v30 v31 v32 v33 v34 v35 v36 v37 v38 v39 v40 v41 v42 v43 v44 v45 v46 v47 v48 v49 v50 v51 v52 v53 v54 v55 v56 v57 v58 v59 v60 v61 v62 v63 v64 v65 v66 v67 v68 v69 v70 v71 v72 v73 v74 v75 v76 v77 v78 v79 v80 v81 v82 v83 v84 v85 v86 v87 v88 v89 v90 v91 v92 v93 v94 v95 v96 v97 v98 v99 v100 v101 v102 v103 v104 v105 v106 v107 v108 v109 v110 v111 v112 v113 v114 v115 v116 v117 v118 v119 v120 v121 v122 v123 v124 v125 v126 v127 v128 v129 v130 v131 v132 v133 v134 v135 v136 v137 v138 v139 v140 v141 v142 v143 v144 v145 v146 v147 v148 v149 v150 v151 v152 v153 v154 v155 v156 v157 v158 v159 v160 v161 v162 v163 v164 v165 v166 v167 v168 v169 v170 v171 v172 v173 v174 v175 v176 v177 v178 v179 v180 v181 v182 v183 v184 v185 v186 v187 v188 v189 v190 v191 v192 v193 v194 v195 v196 v197 v198 v199 v200 v201 v202 v203 v204:Value} (Y:World) (B pb po np cap k:Nat) (nm:List UInt8) (z1 z2 z3 z4 z5:Int) (hB:B<Y.heap.size) (hpb:pb<Y.heap.size) (hk:k<np) (c13:Y.cell? ⟨B,13,none⟩=some (.slice (some ⟨pb,po,none⟩) np cap))
  (cp:Y.cell? ⟨pb,po+k * 6,none⟩=some (str nm)∧Y.cell? ⟨pb,po+k * 6+1,none⟩=some (num z1)∧Y.cell? ⟨pb,po+k * 6+2,none⟩=some (num z2)∧Y.cell? ⟨pb,po+k * 6+3,none⟩=some (num z3)∧Y.cell? ⟨pb,po+k * 6+4,none⟩=some (num z4)∧Y.cell? ⟨pb,po+k * 6+5,none⟩=some (num z5)) :
  sz18.wpIn (FG 4) 0 Tryd.prog (fun e a w'=>e=.normal∧a.defers=[]∧∃ b1 b2:Nat,a.tmps=#[v0,v1,v2,v3,v4,v5,v6,v7,.pointer (some ⟨B,0,none⟩),v9,v10,v11,v12,v13,v14,v15,v16,v17,v18,v19,v20,v21,v22,v23,v24,v25,num (k:Int),.pointer (some ⟨b1,0,none⟩),.pointer (some ⟨b2,0,none⟩),v29,v30,v31,v32,v33,v34,v35,v36,v37,v38,v39,v40,v41,v42,v43,v44,v45,v46,v47,v48,v49,v50,v51,v52,v53,v54,v55,v56,v57,v58,v59,v60,v61,v62,v63,v64,v65,v66,v67,v68,v69,v70,v71,v72,v73,v74,v75,v76,v77,v78,v79,v80,v81,v82,v83,v84,v85,v86,v87,v88,v89,v90,v91,v92,v93,v94,v95,v96,v97,v98,v99,v100,v101,v102,v103,v104,v105,v106,v107,v108,v109,v110,v111,v112,v113,v114,v115,v116,v117,v118,v119,v120,v121,v122,v123,v124,v125,v126,v127,v128,v129,v130,v131,v132,v133,v134,v135,v136,v137,v138,v139,v140,v141,v142,v143,v144,v145,v146,v147,.pointer (some ⟨B,13,none⟩),.slice (some ⟨pb,po,none⟩) np cap,num (k:Int),.pointer (some ⟨pb,po+k * 6,none⟩),.agg #[str nm,num z1,num z2,num z3,num z4,num z5],.pointer (some ⟨B,13,none⟩),.slice (some ⟨pb,po,none⟩) np cap,num (k:Int),.pointer (some ⟨pb,po+k * 6,none⟩),.agg #[str nm,num z1,num z2,num z3,num z4,num z5],v158,v159,v160,v161,v162,v163,v164,v165,v166,v167,v168,v169,v170,v171,v172,v173,v174,v175,v176,v177,v178,v179,v180,v181,v182,v183,v184,v185,v186,v187,v188,v189,v190,v191,v192,v193,v194,v195,v196,v197,v198,v199,v200,v201,v202,v203,v204,zu,zu,zu,zu,zu,zu,zu,zu,zu,zu,zu,zu,zu,zu,zu,zu,zu,zu,zu,zu,zu,zu,zu,zu,zu,zu,zu,zu,zu,zu,zu,zu,zu,zu,zu,zu,zu,zu,zu,zu,zu,zu,zu,zu,zu,zu,zu,zu,zu,zu,zu,zu,zu,zu,zu,zu,zu,zu,zu,zu,zu,zu,zu,zu,zu,zu,zu,zu,zu,zu,zu,zu,zu,zu,zu,zu,zu,zu,zu]∧b1≠b2∧Y.heap.size≤b1∧Y.heap.size≤b2∧Y.heap.size≤w'.heap.size∧(∀ b,b<Y.heap.size→w'.heap[b]?=Y.heap[b]?) ∧
   w'.heap[b1]?=some (.cells #[str nm,num z1,num z2,num z3,num z4,num z5] 55 (0,0))∧w'.heap[b2]?=some (.cells #[str nm,num z1,num z2,num z3,num z4,num z5] 55 (0,0))) ⟨#[v0,v1,v2,v3,v4,v5,v6,v7,.pointer (some ⟨B,0,none⟩),v9,v10,v11,v12,v13,v14,v15,v16,v17,v18,v19,v20,v21,v22,v23,v24,v25,num (k:Int),v27,v28,v29,v30,v31,v32,v33,v34,v35,v36,v37,v38,v39,v40,v41,v42,v43,v44,v45,v46,v47,v48,v49,v50,v51,v52,v53,v54,v55,v56,v57,v58,v59,v60,v61,v62,v63,v64,v65,v66,v67,v68,v69,v70,v71,v72,v73,v74,v75,v76,v77,v78,v79,v80,v81,v82,v83,v84,v85,v86,v87,v88,v89,v90,v91,v92,v93,v94,v95,v96,v97,v98,v99,v100,v101,v102,v103,v104,v105,v106,v107,v108,v109,v110,v111,v112,v113,v114,v115,v116,v117,v118,v119,v120,v121,v122,v123,v124,v125,v126,v127,v128,v129,v130,v131,v132,v133,v134,v135,v136,v137,v138,v139,v140,v141,v142,v143,v144,v145,v146,v147,v148,v149,v150,v151,v152,v153,v154,v155,v156,v157,v158,v159,v160,v161,v162,v163,v164,v165,v166,v167,v168,v169,v170,v171,v172,v173,v174,v175,v176,v177,v178,v179,v180,v181,v182,v183,v184,v185,v186,v187,v188,v189,v190,v191,v192,v193,v194,v195,v196,v197,v198,v199,v200,v201,v202,v203,v204,zu,zu,zu,zu,zu,zu,zu,zu,zu,zu,zu,zu,zu,zu,zu,zu,zu,zu,zu,zu,zu,zu,zu,zu,zu,zu,zu,zu,zu,zu,zu,zu,zu,zu,zu,zu,zu,zu,zu,zu,zu,zu,zu,zu,zu,zu,zu,zu,zu,zu,zu,zu,zu,zu,zu,zu,zu,zu,zu,zu,zu,zu,zu,zu,zu,zu,zu,zu,zu,zu,zu,zu,zu,zu,zu,zu,zu,zu,zu],[]⟩ Y:=by
 rw [yei]
 let C:World→Prop:=fun x=>x.heap[B]?=Y.heap[B]?∧x.heap[pb]?=Y.heap[pb]?
 have cell_of:∀ (x:World) (b i:Nat),x.heap[b]?=Y.heap[b]?→x.cell? ⟨b,i,none⟩=Y.cell? ⟨b,i,none⟩:=fun x b i h=>by unfold World.cell?;dsimp only;rw [h]
 have C13:=Lib.hid (fun x (hx:C x)=>(cell_of x B 13 hx.1).trans c13)
 have CP:=Lib.hid (fun x (hx:C x)=>show _∧_∧_∧_∧_∧_ from ⟨(cell_of x pb _ hx.2).trans cp.1,(cell_of x pb _ hx.2).trans cp.2.1,(cell_of x pb _ hx.2).trans cp.2.2.1,(cell_of x pb _ hx.2).trans cp.2.2.2.1,(cell_of x pb _ hx.2).trans cp.2.2.2.2.1,(cell_of x pb _ hx.2).trans cp.2.2.2.2.2⟩)
 have cN:∀ x,Nx Y x→C x:=fun x n=>⟨n.block _ hB,n.block _ hpb⟩
 clear cell_of c13 cp
 refine zbg C (by kernel_rfl) ?_
 change wpAnyC _ _ _ _ _ _ _ 14 #[false,false,false,false,false,false,false,false,false,false,false,false,false,false] _ _
 refine zah (i:=0) (oi:=⟨some 148,.fieldAddr 31 (.tmp 8) 11,_,_,_,none⟩) (v:=.pointer (some ⟨B,13,none⟩)) (zaj (by kernel_rfl)) rfl (by kernel_rfl) (by kernel_rfl) (by kernel_rfl) (fun _ _ _ h=>by cases h.1) (yC rfl (fun _=>rfl) fun x hx=>by simp [execOp,go_sem]) ?_
 simp only [Act.put,List.setIfInBounds_toArray,List.set_cons_succ,List.set_cons_zero]
 refine zah (i:=1) (oi:=⟨some 149,.load 29 (.tmp 148),_,_,_,none⟩) (v:=.slice (some ⟨pb,po,none⟩) np cap) (zaj (by kernel_rfl)) rfl (by kernel_rfl) (by kernel_rfl) (by kernel_rfl) (fun _ _ _ h=>by cases h.1) (yC rfl (fun _=>rfl) fun x hx=>by have e:=C13.out x hx;clear C13 CP;simp [execOp,go_sem,e]) ?_
 simp only [Act.put,List.setIfInBounds_toArray,List.set_cons_succ,List.set_cons_zero]
 refine zah (i:=2) (oi:=⟨some 150,.move (.tmp 26),_,_,_,none⟩) (v:=num (k:Int)) (zaj (by kernel_rfl)) rfl (by kernel_rfl) (by kernel_rfl) (by kernel_rfl) (fun _ _ _ h=>by cases h.1) (zaN rfl) ?_
 simp only [Act.put,List.setIfInBounds_toArray,List.set_cons_succ,List.set_cons_zero]
 refine zah (i:=3) (oi:=⟨some 151,.indexAddr 29 (.tmp 149) (.tmp 150),_,_,_,none⟩) (v:=.pointer (some ⟨pb,po+k * 6,none⟩)) (zaj (by kernel_rfl)) rfl (by kernel_rfl) (by kernel_rfl) (by kernel_rfl) (fun _ _ _ h=>by cases h.1) (yC rfl (fun _=>rfl) fun x hx=>by clear C13 CP;simp [execOp,go_sem,hk]) ?_
 simp only [Act.put,List.setIfInBounds_toArray,List.set_cons_succ,List.set_cons_zero]
 refine zah (i:=4) (oi:=⟨some 152,.load 55 (.tmp 151),_,_,_,none⟩) (v:=.agg #[str nm,num z1,num z2,num z3,num z4,num z5]) (zaj (by kernel_rfl)) rfl (by kernel_rfl) (by kernel_rfl) (by kernel_rfl) (fun _ _ _ h=>by cases h.1) (yC rfl (fun _=>rfl) fun x hx=>by obtain⟨e0,e1,e2,e3,e4,e5⟩:=CP.out x hx;clear C13 CP;simp [execOp,go_sem,e0,e1,e2,e3,e4,e5]) ?_
 simp only [Act.put,List.setIfInBounds_toArray,List.set_cons_succ,List.set_cons_zero]
 refine zah (i:=5) (oi:=⟨some 153,.fieldAddr 31 (.tmp 8) 11,_,_,_,none⟩) (v:=.pointer (some ⟨B,13,none⟩)) (zaj (by kernel_rfl)) rfl (by kernel_rfl) (by kernel_rfl) (by kernel_rfl) (fun _ _ _ h=>by cases h.1) (yC rfl (fun _=>rfl) fun x hx=>by simp [execOp,go_sem]) ?_
 simp only [Act.put,List.setIfInBounds_toArray,List.set_cons_succ,List.set_cons_zero]
 refine zah (i:=6) (oi:=⟨some 154,.load 29 (.tmp 153),_,_,_,none⟩) (v:=.slice (some ⟨pb,po,none⟩) np cap) (zaj (by kernel_rfl)) rfl (by kernel_rfl) (by kernel_rfl) (by kernel_rfl) (fun _ _ _ h=>by cases h.1) (yC rfl (fun _=>rfl) fun x hx=>by have e:=C13.out x hx;clear C13 CP;simp [execOp,go_sem,e]) ?_
 simp only [Act.put,List.setIfInBounds_toArray,List.set_cons_succ,List.set_cons_zero]
 refine zah (i:=7) (oi:=⟨some 155,.move (.tmp 26),_,_,_,none⟩) (v:=num (k:Int)) (zaj (by kernel_rfl)) rfl (by kernel_rfl) (by kernel_rfl) (by kernel_rfl) (fun _ _ _ h=>by cases h.1) (zaN rfl) ?_
 simp only [Act.put,List.setIfInBounds_toArray,List.set_cons_succ,List.set_cons_zero]
 refine zah (i:=8) (oi:=⟨some 156,.indexAddr 29 (.tmp 154) (.tmp 155),_,_,_,none⟩) (v:=.pointer (some ⟨pb,po+k * 6,none⟩)) (zaj (by kernel_rfl)) rfl (by kernel_rfl) (by kernel_rfl) (by kernel_rfl) (fun _ _ _ h=>by cases h.1) (yC rfl (fun _=>rfl) fun x hx=>by clear C13 CP;simp [execOp,go_sem,hk]) ?_
 simp only [Act.put,List.setIfInBounds_toArray,List.set_cons_succ,List.set_cons_zero]
 refine zah (i:=9) (oi:=⟨some 157,.load 55 (.tmp 156),_,_,_,none⟩) (v:=.agg #[str nm,num z1,num z2,num z3,num z4,num z5]) (zaj (by kernel_rfl)) rfl (by kernel_rfl) (by kernel_rfl) (by kernel_rfl) (fun _ _ _ h=>by cases h.1) (yC rfl (fun _=>rfl) fun x hx=>by obtain⟨e0,e1,e2,e3,e4,e5⟩:=CP.out x hx;clear C13 CP;simp [execOp,go_sem,e0,e1,e2,e3,e4,e5]) ?_
 simp only [Act.put,List.setIfInBounds_toArray,List.set_cons_succ,List.set_cons_zero]
 clear C13 CP
 have n0:Nx Y Y.drew:=Below.drew (Below.refl _ _)
 change wpAnyC _ _ _ _ _ _ _ _ _ _ Y.drew
 generalize Y.drew=q at *
 have nq:=n0
 clear n0
 refine zhi (i:=10) (j:=11) (oi:=⟨some 27,.alloc 55,_,_,_,none⟩) (oj:=⟨some 28,.alloc 55,_,_,_,none⟩) (by kernel_rfl) rfl rfl rfl rfl (cN _ nq) ?_ ?_
 ·intro K hK
  refine yaj (v:=fun g=>.pointer (some ⟨g,0,none⟩)) (o:=.cells #[.string ⟨#[]⟩,num 0,num 0,num 0,num 0,num 0] 55) rfl rfl (by simp [execOp,go_sem]) nq ?_
  intro gA w1 hgA nw1 zgA lgA kgA _
  simp only [Act.put,List.setIfInBounds_toArray,List.set_cons_succ,List.set_cons_zero]
  refine hK _ _ ?_
  refine zau (i:=11) (o:=⟨some 28,.alloc 55,_,_,_,none⟩) (by kernel_rfl) rfl rfl (cN _ nw1) ?_
  intro K hK
  refine yaj (v:=fun g=>.pointer (some ⟨g,0,none⟩)) (o:=.cells #[.string ⟨#[]⟩,num 0,num 0,num 0,num 0,num 0] 55) rfl rfl (by simp [execOp,go_sem]) nw1 ?_
  intro gB w2 hgB nw2 zgB lgB kgB _
  simp only [Act.put,List.setIfInBounds_toArray,List.set_cons_succ,List.set_cons_zero]
  refine hK _ _ ?_
  have hAB:gA≠gB:=by have:=lt_of_some hgA;omega
  replace hgA:=(kgB gA (lt_of_some hgA)).trans hgA
  have hb12:gA≠gB:=by first | exact hAB | exact hAB.symm
  refine zau (i:=12) (o:=⟨none,.store 55 (.tmp 27) (.tmp 152),_,_,_,none⟩) (by kernel_rfl) rfl rfl (cN _ nw2) ?_
  intro K hK
  refine yaq rfl rfl rfl rfl hgA ?_
  intro w3 bw3 qw3 zw3
  simp only [Act.put]
  refine hK _ _ ?_
  have dw3:=(qw3 gB hb12.symm).trans hgB
  refine zau (i:=13) (o:=⟨none,.store 55 (.tmp 28) (.tmp 157),_,_,_,none⟩) (by kernel_rfl) rfl rfl ⟨(qw3 _ (by omega)).trans (nw2.block _ hB),(qw3 _ (by omega)).trans (nw2.block _ hpb)⟩ ?_
  intro K hK
  refine yaq rfl rfl rfl rfl dw3 ?_
  intro w4 bw4 qw4 zw4
  simp only [Act.put]
  refine hK _ _ ?_
  refine zbk (by kernel_rfl) ⟨(qw4 B (by omega)).trans ((qw3 _ (by omega)).trans (nw2.block _ hB)),(qw4 pb (by omega)).trans ((qw3 _ (by omega)).trans (nw2.block _ hpb))⟩ ⟨rfl,rfl,gA,gB,rfl,hb12,by omega,by omega,by rw [zw4,zw3];exact nw2.size,fun b hb=>(qw4 b (by omega)).trans ((qw3 b (by omega)).trans (nw2.block _ hb)),(qw4 _ hb12).trans bw3,bw4⟩
 ·intro K hK
  refine yaj (v:=fun g=>.pointer (some ⟨g,0,none⟩)) (o:=.cells #[.string ⟨#[]⟩,num 0,num 0,num 0,num 0,num 0] 55) rfl rfl (by simp [execOp,go_sem]) nq ?_
  intro gA w1 hgA nw1 zgA lgA kgA _
  simp only [Act.put,List.setIfInBounds_toArray,List.set_cons_succ,List.set_cons_zero]
  refine hK _ _ ?_
  refine zau (i:=10) (o:=⟨some 27,.alloc 55,_,_,_,none⟩) (by kernel_rfl) rfl rfl (cN _ nw1) ?_
  intro K hK
  refine yaj (v:=fun g=>.pointer (some ⟨g,0,none⟩)) (o:=.cells #[.string ⟨#[]⟩,num 0,num 0,num 0,num 0,num 0] 55) rfl rfl (by simp [execOp,go_sem]) nw1 ?_
  intro gB w2 hgB nw2 zgB lgB kgB _
  simp only [Act.put,List.setIfInBounds_toArray,List.set_cons_succ,List.set_cons_zero]
  refine hK _ _ ?_
  have hAB:gA≠gB:=by have:=lt_of_some hgA;omega
  replace hgA:=(kgB gA (lt_of_some hgA)).trans hgA
  have hb12:gB≠gA:=by first | exact hAB | exact hAB.symm
  refine zau (i:=12) (o:=⟨none,.store 55 (.tmp 27) (.tmp 152),_,_,_,none⟩) (by kernel_rfl) rfl rfl (cN _ nw2) ?_
  intro K hK
  refine yaq rfl rfl rfl rfl hgB ?_
  intro w3 bw3 qw3 zw3
  simp only [Act.put]
  refine hK _ _ ?_
  have dw3:=(qw3 gA hb12.symm).trans hgA
  refine zau (i:=13) (o:=⟨none,.store 55 (.tmp 28) (.tmp 157),_,_,_,none⟩) (by kernel_rfl) rfl rfl ⟨(qw3 _ (by omega)).trans (nw2.block _ hB),(qw3 _ (by omega)).trans (nw2.block _ hpb)⟩ ?_
  intro K hK
  refine yaq rfl rfl rfl rfl dw3 ?_
  intro w4 bw4 qw4 zw4
  simp only [Act.put]
  refine hK _ _ ?_
  refine zbk (by kernel_rfl) ⟨(qw4 B (by omega)).trans ((qw3 _ (by omega)).trans (nw2.block _ hB)),(qw4 pb (by omega)).trans ((qw3 _ (by omega)).trans (nw2.block _ hpb))⟩ ⟨rfl,rfl,gB,gA,rfl,hb12,by omega,by omega,by rw [zw4,zw3];exact nw2.size,fun b hb=>(qw4 b (by omega)).trans ((qw3 b (by omega)).trans (nw2.block _ hb)),(qw4 _ hb12).trans bw3,bw4⟩
end Go.Proofs.YtbbanmifdbeneaaDoor

namespace Go.Proofs.YtbbanmifdbeneaaDoor
open Go.RowKit Go.Con Go.Conc
local instance pnI14:Lone:=zcG
noncomputable def sz19:Code:=ybw 19 yai
noncomputable def ye7:Array Oper:=match sz19 with | .region _ ops _=>ops | _=>#[]
theorem yej:sz19=.region 19 ye7 true:=by kernel_rfl
theorem ycc {v0 v1 v2 v3 v4 v5 v6 v7 v8 v9 v10 v11 v12 v13 v14 v15 v16 v17 v18 v19 v21 v23 v24 v25 v29 v30 v31 v32 v33 v34 v35 v36 v37 v38 v39 v40 v41 v42 v43 v44 v45 v46 v47 v48 v49 v50 v51 v52 v53 v54 v55 v56 v57 v58 v59 v60 v61 v62 v63 v64 v65 v66 v67 v68 v69 v70 v71 v72 v73 v74 v75 v76 v77 v78 v79 v80 v81 v82 v83 v84 v85 v86 v87 v88 v89 v90 v91 v92 v93 v94 v95 v96 v97 v98 v99 v100 v101 v102 v103 v104 v105 v106 v107 v108 v109 v110 v111 v112 v113 v114 v115 v116 v117 v118 v119 v120 v121 v122 v123 v124 v125 v126 v127 v128 v129 v130 v131 v132 v133 v134 v135 v136 v137 v138 v139 v140 v141 v142 v143 v144 v145 v146 v147 v148 v149 v150 v151 v152 v153 v154 v155 v156 v157 v158 v159 v160 v161 v162 v163 v164 v165 v166 v167 v168 v169 v170 v171 v172 v173 v174 v175 v176 v177 v178 v179 v180 v181 v182 v183 v184 v185 v186 v187 v188 v189 v190 v191 v192 v193 v194 v195 v196 v197 v198 v199 v200 v201 v202 v203 v204:Value} (Y:World) (P Q ga gb n k m:Nat) (hm:k % (n+1)=m) (wa wb:Int) (hPQ:P≠Q) (hga:ga≠P∧ga≠Q) (hgb:gb≠P∧gb≠Q) (cp cq:Array Value) (gP:Y.heap[P]?=some (.cells cp 55 (0,0))) (gQ:Y.heap[Q]?=some (.cells cq 55 (0,0))) (hcp:cp.size=6) (hcq:cq.size=6) (hn:n≤1000) (hk:k≤1000)
  (ca:Y.cell? ⟨ga,m * 2,none⟩=some (num wa)) (cb:Y.cell? ⟨gb,m * 2,none⟩=some (num wb)) :
  sz19.wpIn (FG 4) 0 Tryd.prog (fun e a w'=>e=.normal∧a.defers=[]∧a.tmps=#[v0,v1,v2,v3,v4,v5,v6,v7,v8,v9,v10,v11,v12,v13,v14,v15,v16,v17,v18,v19,.slice (some ⟨ga,0,none⟩) (n+1) (n+1),v21,.slice (some ⟨gb,0,none⟩) (n+1) (n+1),v23,v24,v25,num (k:Int),.pointer (some ⟨P,0,none⟩),.pointer (some ⟨Q,0,none⟩),v29,v30,v31,v32,v33,v34,v35,v36,v37,v38,v39,v40,v41,v42,v43,v44,v45,v46,v47,v48,v49,v50,v51,v52,v53,v54,v55,v56,v57,v58,v59,v60,v61,v62,v63,v64,v65,v66,v67,v68,v69,v70,v71,v72,v73,v74,v75,v76,v77,v78,v79,v80,v81,v82,v83,v84,v85,v86,v87,v88,v89,v90,v91,v92,v93,v94,v95,v96,v97,v98,v99,v100,v101,v102,v103,v104,v105,v106,v107,v108,v109,v110,v111,v112,v113,v114,v115,v116,v117,v118,v119,v120,v121,v122,v123,v124,v125,v126,v127,v128,v129,v130,v131,v132,v133,v134,v135,v136,v137,v138,v139,v140,v141,v142,v143,v144,v145,v146,v147,v148,v149,v150,v151,v152,v153,v154,v155,v156,v157,.slice (some ⟨ga,0,none⟩) (n+1) (n+1),num (k:Int),.slice (some ⟨ga,0,none⟩) (n+1) (n+1),num ((n:Int)+1),num (m:Int),.pointer (some ⟨ga,m * 2,none⟩),.pointer (some ⟨ga,m * 2,none⟩),num wa,.slice (some ⟨gb,0,none⟩) (n+1) (n+1),num (k:Int),.slice (some ⟨gb,0,none⟩) (n+1) (n+1),num ((n:Int)+1),num (m:Int),.pointer (some ⟨gb,m * 2,none⟩),.pointer (some ⟨gb,m * 2,none⟩),num wb,.pointer (some ⟨P,5,none⟩),.pointer (some ⟨Q,5,none⟩),v176,v177,v178,v179,v180,v181,v182,v183,v184,v185,v186,v187,v188,v189,v190,v191,v192,v193,v194,v195,v196,v197,v198,v199,v200,v201,v202,v203,v204,zu,zu,zu,zu,zu,zu,zu,zu,zu,zu,zu,zu,zu,zu,zu,zu,zu,zu,zu,zu,zu,zu,zu,zu,zu,zu,zu,zu,zu,zu,zu,zu,zu,zu,zu,zu,zu,zu,zu,zu,zu,zu,zu,zu,zu,zu,zu,zu,zu,zu,zu,zu,zu,zu,zu,zu,zu,zu,zu,zu,zu,zu,zu,zu,zu,zu,zu,zu,zu,zu,zu,zu,zu,zu,zu,zu,zu,zu,zu]∧w'.heap[P]?=some (.cells (cp.setIfInBounds 5 (num wa)) 55 (0,0))∧w'.heap[Q]?=some (.cells (cq.setIfInBounds 5 (num wb)) 55 (0,0))∧(∀ b,b≠P→b≠Q→w'.heap[b]?=Y.heap[b]?)∧w'.heap.size=Y.heap.size) ⟨#[v0,v1,v2,v3,v4,v5,v6,v7,v8,v9,v10,v11,v12,v13,v14,v15,v16,v17,v18,v19,.slice (some ⟨ga,0,none⟩) (n+1) (n+1),v21,.slice (some ⟨gb,0,none⟩) (n+1) (n+1),v23,v24,v25,num (k:Int),.pointer (some ⟨P,0,none⟩),.pointer (some ⟨Q,0,none⟩),v29,v30,v31,v32,v33,v34,v35,v36,v37,v38,v39,v40,v41,v42,v43,v44,v45,v46,v47,v48,v49,v50,v51,v52,v53,v54,v55,v56,v57,v58,v59,v60,v61,v62,v63,v64,v65,v66,v67,v68,v69,v70,v71,v72,v73,v74,v75,v76,v77,v78,v79,v80,v81,v82,v83,v84,v85,v86,v87,v88,v89,v90,v91,v92,v93,v94,v95,v96,v97,v98,v99,v100,v101,v102,v103,v104,v105,v106,v107,v108,v109,v110,v111,v112,v113,v114,v115,v116,v117,v118,v119,v120,v121,v122,v123,v124,v125,v126,v127,v128,v129,v130,v131,v132,v133,v134,v135,v136,v137,v138,v139,v140,v141,v142,v143,v144,v145,v146,v147,v148,v149,v150,v151,v152,v153,v154,v155,v156,v157,v158,v159,v160,v161,v162,v163,v164,v165,v166,v167,v168,v169,v170,v171,v172,v173,v174,v175,v176,v177,v178,v179,v180,v181,v182,v183,v184,v185,v186,v187,v188,v189,v190,v191,v192,v193,v194,v195,v196,v197,v198,v199,v200,v201,v202,v203,v204,zu,zu,zu,zu,zu,zu,zu,zu,zu,zu,zu,zu,zu,zu,zu,zu,zu,zu,zu,zu,zu,zu,zu,zu,zu,zu,zu,zu,zu,zu,zu,zu,zu,zu,zu,zu,zu,zu,zu,zu,zu,zu,zu,zu,zu,zu,zu,zu,zu,zu,zu,zu,zu,zu,zu,zu,zu,zu,zu,zu,zu,zu,zu,zu,zu,zu,zu,zu,zu,zu,zu,zu,zu,zu,zu,zu,zu,zu,zu],[]⟩ Y:=by
 rw [yej]
 let C:World→Prop:=fun x=>x.heap[ga]?=Y.heap[ga]?∧x.heap[gb]?=Y.heap[gb]?
 have cell_of:∀ (x:World) (b i:Nat),x.heap[b]?=Y.heap[b]?→x.cell? ⟨b,i,none⟩=Y.cell? ⟨b,i,none⟩:=fun x b i h=>by unfold World.cell?;dsimp only;rw [h]
 have CA:=Lib.hid (fun x (hx:C x)=>(cell_of x ga _ hx.1).trans ca)
 have CB:=Lib.hid (fun x (hx:C x)=>(cell_of x gb _ hx.2).trans cb)
 clear cell_of ca cb
 have hlt:m<n+1:=by rw [← hm];exact Nat.mod_lt _ (by omega)
 have hrem:(k:Int).tmod ((n:Int)+1)=(m:Int):=by
  rw [show (n:Int)+1=((n+1:Nat):Int) by omega]
  rw [← hm]
  exact (Int.ofNat_tmod k (n+1)).symm
 have hnz:¬ (n:Int)+1=0:=by omega
 refine zbg C (by kernel_rfl) ?_
 change wpAnyC _ _ _ _ _ _ _ 20 #[false,false,false,false,false,false,false,false,false,false,false,false,false,false,false,false,false,false,false,false] _ _
 refine zah (i:=0) (oi:=⟨some 158,.move (.tmp 20),_,_,_,none⟩) (v:=.slice (some ⟨ga,0,none⟩) (n+1) (n+1)) (zaj (by kernel_rfl)) rfl (by kernel_rfl) (by kernel_rfl) (by kernel_rfl) (fun _ _ _ h=>by cases h.1) (zaN rfl) ?_
 simp only [Act.put,List.setIfInBounds_toArray,List.set_cons_succ,List.set_cons_zero]
 refine zah (i:=1) (oi:=⟨some 159,.move (.tmp 26),_,_,_,none⟩) (v:=num (k:Int)) (zaj (by kernel_rfl)) rfl (by kernel_rfl) (by kernel_rfl) (by kernel_rfl) (fun _ _ _ h=>by cases h.1) (zaN rfl) ?_
 simp only [Act.put,List.setIfInBounds_toArray,List.set_cons_succ,List.set_cons_zero]
 refine zah (i:=2) (oi:=⟨some 160,.move (.tmp 20),_,_,_,none⟩) (v:=.slice (some ⟨ga,0,none⟩) (n+1) (n+1)) (zaj (by kernel_rfl)) rfl (by kernel_rfl) (by kernel_rfl) (by kernel_rfl) (fun _ _ _ h=>by cases h.1) (zaN rfl) ?_
 simp only [Act.put,List.setIfInBounds_toArray,List.set_cons_succ,List.set_cons_zero]
 refine zah (i:=3) (oi:=⟨some 161,.call { callee:=.builtin .len,args:=#[.tmp 160],argTypes:=#[24] },_,_,_,none⟩) (v:=num ((n:Int)+1)) (zaj (by kernel_rfl)) rfl (by kernel_rfl) (by kernel_rfl) (by kernel_rfl) (fun _ _ _ h=>by cases h.1) (yC rfl (fun _=>rfl) fun x hx=>by clear CA CB;simp [execOp,go_sem]) ?_
 simp only [Act.put,List.setIfInBounds_toArray,List.set_cons_succ,List.set_cons_zero]
 refine zah (i:=4) (oi:=⟨some 162,.binOp .rem 3 (.tmp 159) (.tmp 161) 3,_,_,_,none⟩) (v:=num (m:Int)) (zaj (by kernel_rfl)) rfl (by kernel_rfl) (by kernel_rfl) (by kernel_rfl) (fun _ _ _ h=>by cases h.1) (yC rfl (fun _=>rfl) fun x hx=>by clear CA CB;simp [execOp,go_sem,hnz];first | (rw [hrem];simp;done) | (rw [hrem];done) | skip) ?_
 simp only [Act.put,List.setIfInBounds_toArray,List.set_cons_succ,List.set_cons_zero]
 refine zah (i:=5) (oi:=⟨some 163,.indexAddr 24 (.tmp 158) (.tmp 162),_,_,_,none⟩) (v:=.pointer (some ⟨ga,m * 2,none⟩)) (zaj (by kernel_rfl)) rfl (by kernel_rfl) (by kernel_rfl) (by kernel_rfl) (fun _ _ _ h=>by cases h.1) (yC rfl (fun _=>rfl) fun x hx=>by clear CA CB;simp [execOp,go_sem,hlt];intro h;omega) ?_
 simp only [Act.put,List.setIfInBounds_toArray,List.set_cons_succ,List.set_cons_zero]
 refine zah (i:=6) (oi:=⟨some 164,.fieldAddr 28 (.tmp 163) 0,_,_,_,none⟩) (v:=.pointer (some ⟨ga,m * 2,none⟩)) (zaj (by kernel_rfl)) rfl (by kernel_rfl) (by kernel_rfl) (by kernel_rfl) (fun _ _ _ h=>by cases h.1) (yC rfl (fun _=>rfl) fun x hx=>by clear CA CB;simp [execOp,go_sem]) ?_
 simp only [Act.put,List.setIfInBounds_toArray,List.set_cons_succ,List.set_cons_zero]
 refine zah (i:=7) (oi:=⟨some 165,.load 3 (.tmp 164),_,_,_,none⟩) (v:=num wa) (zaj (by kernel_rfl)) rfl (by kernel_rfl) (by kernel_rfl) (by kernel_rfl) (fun _ _ _ h=>by cases h.1) (yC rfl (fun _=>rfl) fun x hx=>by have e:=CA.out x hx;clear CA CB;simp [execOp,go_sem,e]) ?_
 simp only [Act.put,List.setIfInBounds_toArray,List.set_cons_succ,List.set_cons_zero]
 refine zah (i:=8) (oi:=⟨some 166,.move (.tmp 22),_,_,_,none⟩) (v:=.slice (some ⟨gb,0,none⟩) (n+1) (n+1)) (zaj (by kernel_rfl)) rfl (by kernel_rfl) (by kernel_rfl) (by kernel_rfl) (fun _ _ _ h=>by cases h.1) (zaN rfl) ?_
 simp only [Act.put,List.setIfInBounds_toArray,List.set_cons_succ,List.set_cons_zero]
 refine zah (i:=9) (oi:=⟨some 167,.move (.tmp 26),_,_,_,none⟩) (v:=num (k:Int)) (zaj (by kernel_rfl)) rfl (by kernel_rfl) (by kernel_rfl) (by kernel_rfl) (fun _ _ _ h=>by cases h.1) (zaN rfl) ?_
 simp only [Act.put,List.setIfInBounds_toArray,List.set_cons_succ,List.set_cons_zero]
 refine zah (i:=10) (oi:=⟨some 168,.move (.tmp 22),_,_,_,none⟩) (v:=.slice (some ⟨gb,0,none⟩) (n+1) (n+1)) (zaj (by kernel_rfl)) rfl (by kernel_rfl) (by kernel_rfl) (by kernel_rfl) (fun _ _ _ h=>by cases h.1) (zaN rfl) ?_
 simp only [Act.put,List.setIfInBounds_toArray,List.set_cons_succ,List.set_cons_zero]
 refine zah (i:=11) (oi:=⟨some 169,.call { callee:=.builtin .len,args:=#[.tmp 168],argTypes:=#[24] },_,_,_,none⟩) (v:=num ((n:Int)+1)) (zaj (by kernel_rfl)) rfl (by kernel_rfl) (by kernel_rfl) (by kernel_rfl) (fun _ _ _ h=>by cases h.1) (yC rfl (fun _=>rfl) fun x hx=>by clear CA CB;simp [execOp,go_sem]) ?_
 simp only [Act.put,List.setIfInBounds_toArray,List.set_cons_succ,List.set_cons_zero]
 refine zah (i:=12) (oi:=⟨some 170,.binOp .rem 3 (.tmp 167) (.tmp 169) 3,_,_,_,none⟩) (v:=num (m:Int)) (zaj (by kernel_rfl)) rfl (by kernel_rfl) (by kernel_rfl) (by kernel_rfl) (fun _ _ _ h=>by cases h.1) (yC rfl (fun _=>rfl) fun x hx=>by clear CA CB;simp [execOp,go_sem,hnz];first | (rw [hrem];simp;done) | (rw [hrem];done) | skip) ?_
 simp only [Act.put,List.setIfInBounds_toArray,List.set_cons_succ,List.set_cons_zero]
 refine zah (i:=13) (oi:=⟨some 171,.indexAddr 24 (.tmp 166) (.tmp 170),_,_,_,none⟩) (v:=.pointer (some ⟨gb,m * 2,none⟩)) (zaj (by kernel_rfl)) rfl (by kernel_rfl) (by kernel_rfl) (by kernel_rfl) (fun _ _ _ h=>by cases h.1) (yC rfl (fun _=>rfl) fun x hx=>by clear CA CB;simp [execOp,go_sem,hlt];intro h;omega) ?_
 simp only [Act.put,List.setIfInBounds_toArray,List.set_cons_succ,List.set_cons_zero]
 refine zah (i:=14) (oi:=⟨some 172,.fieldAddr 28 (.tmp 171) 0,_,_,_,none⟩) (v:=.pointer (some ⟨gb,m * 2,none⟩)) (zaj (by kernel_rfl)) rfl (by kernel_rfl) (by kernel_rfl) (by kernel_rfl) (fun _ _ _ h=>by cases h.1) (yC rfl (fun _=>rfl) fun x hx=>by clear CA CB;simp [execOp,go_sem]) ?_
 simp only [Act.put,List.setIfInBounds_toArray,List.set_cons_succ,List.set_cons_zero]
 refine zah (i:=15) (oi:=⟨some 173,.load 3 (.tmp 172),_,_,_,none⟩) (v:=num wb) (zaj (by kernel_rfl)) rfl (by kernel_rfl) (by kernel_rfl) (by kernel_rfl) (fun _ _ _ h=>by cases h.1) (yC rfl (fun _=>rfl) fun x hx=>by have e:=CB.out x hx;clear CA CB;simp [execOp,go_sem,e]) ?_
 simp only [Act.put,List.setIfInBounds_toArray,List.set_cons_succ,List.set_cons_zero]
 have hd:∀ b:Nat,Y.drew.heap[b]?=Y.heap[b]?:=fun b=>rfl
 change wpAnyC _ _ _ _ _ _ _ _ _ _ Y.drew
 generalize hqd:Y.drew=q at hd ⊢
 have hqs:q.heap.size=Y.heap.size:=by rw [← hqd];rfl
 clear hqd
 rw [← hd] at gP gQ
 refine zah (i:=16) (oi:=⟨some 174,.fieldAddr 55 (.tmp 27) 4,_,_,_,none⟩) (v:=.pointer (some ⟨P,5,none⟩)) (zaj (by kernel_rfl)) rfl (by kernel_rfl) (by kernel_rfl) (by kernel_rfl) (fun _ _ _ h=>by cases h.1) (yC rfl (fun _=>rfl) fun x hx=>by clear CA CB;simp [execOp,go_sem]) ?_
 simp only [Act.put,List.setIfInBounds_toArray,List.set_cons_succ,List.set_cons_zero]
 obtain⟨z0,hz0⟩:∃ z,cp[5]?=some z:=⟨_,Array.getElem?_eq_getElem (by omega)⟩
 obtain⟨z1,hz1⟩:∃ z,cq[5]?=some z:=⟨_,Array.getElem?_eq_getElem (by omega)⟩
 have p1:q.cell? ⟨P,5,none⟩=some z0:=by unfold World.cell?;dsimp only;rw [gP];exact hz0
 have p2:q.frozen? ⟨P,5,none⟩=false:=frozen_of_row _ _ _ _ _ gP
 refine zau (i:=17) (o:=⟨none,.store 3 (.tmp 174) (.tmp 165),_,_,_,none⟩) (by kernel_rfl) rfl rfl ⟨hd _,hd _⟩ ?_
 intro K hK
 refine zb4 (w1:=q.setCell ⟨P,5,none⟩ (num wa)) rfl rfl (by clear CA CB;simp [execOp,go_sem,p1,p2]) ?_
 simp only [Act.put]
 refine hK _ _ ?_
 have oth:∀ b,b≠P→(q.setCell ⟨P,5,none⟩ (num wa)).heap[b]?=q.heap[b]?:=fun b hb=>heap_setCell_other _ _ _ _ (by exact hb)
 have gP2:=heap_setCell_same q P 5 cp 55 (num wa) gP
 have gQ2:=(oth Q hPQ.symm).trans gQ
 have hs2:(q.setCell ⟨P,5,none⟩ (num wa)).heap.size=Y.heap.size:=by rw [← hqs];simp
 generalize q.setCell ⟨P,5,none⟩ (num wa)=yq2 at oth gP2 gQ2 hs2 ⊢
 refine zah (i:=18) (oi:=⟨some 175,.fieldAddr 55 (.tmp 28) 4,_,_,_,none⟩) (v:=.pointer (some ⟨Q,5,none⟩)) (zaj (by kernel_rfl)) rfl (by kernel_rfl) (by kernel_rfl) (by kernel_rfl) (fun _ _ _ h=>by cases h.1) (yC rfl (fun _=>rfl) fun x hx=>by clear CA CB;simp [execOp,go_sem]) ?_
 simp only [Act.put,List.setIfInBounds_toArray,List.set_cons_succ,List.set_cons_zero]
 have p3:yq2.cell? ⟨Q,5,none⟩=some z1:=by unfold World.cell?;dsimp only;rw [gQ2];exact hz1
 have p4:yq2.frozen? ⟨Q,5,none⟩=false:=frozen_of_row _ _ _ _ _ gQ2
 refine zau (i:=19) (o:=⟨none,.store 3 (.tmp 175) (.tmp 173),_,_,_,none⟩) (by kernel_rfl) rfl rfl ⟨(oth _ hga.1).trans (hd _),(oth _ hgb.1).trans (hd _)⟩ ?_
 intro K hK
 refine zb4 (w1:=yq2.setCell ⟨Q,5,none⟩ (num wb)) rfl rfl (by clear CA CB;simp [execOp,go_sem,p3,p4]) ?_
 simp only [Act.put]
 refine hK _ _ ?_
 have oth2:∀ b,b≠Q→(yq2.setCell ⟨Q,5,none⟩ (num wb)).heap[b]?=yq2.heap[b]?:=fun b hb=>heap_setCell_other _ _ _ _ (by exact hb)
 refine zbk (by kernel_rfl) ⟨(oth2 _ hga.2).trans ((oth _ hga.1).trans (hd _)),(oth2 _ hgb.2).trans ((oth _ hgb.1).trans (hd _))⟩ ⟨rfl,rfl,rfl,(oth2 P hPQ).trans gP2,heap_setCell_same yq2 Q 5 cq 55 (num wb) gQ2,fun b h1 h2=>(oth2 b h2).trans ((oth b h1).trans (hd b)),by rw [← hs2];simp⟩
end Go.Proofs.YtbbanmifdbeneaaDoor

namespace Go
section
variable {F:Fence} {n:Nat} {P:Program} {ops:Array Oper} {md:Region.Mode} {C:World→Prop} {s:Nat} {Q:Exit→Act→World→Prop}
def yag (F:Fence) (n:Nat) (P:Program) (md:Region.Mode) (ops:Array Oper) (C:World→Prop) (s:Nat) (Q:Exit→Act→World→Prop):Nat→Array Bool→Act→World→Prop
 | 0,listed,a,w=>(listed.getD s true=false→C w)∧Region.ready md ops listed=[]∧Q .normal a w
 | f+1,listed,a,w=>(listed.getD s true=false→C w)∧(Region.ready md ops listed=[]→Q .normal a w)∧∀ i∈Region.ready md ops listed,wpOpIn F n P ops Q i (yag F n P md ops C s Q f (listed.setIfInBounds i true)) a w
theorem ya8:∀ (f:Nat) (listed:Array Bool) (a:Act) (w:World),yag F n P md ops C s Q f listed a w→wpAnyIn F n P md ops Q f listed a w
 | 0,_,_,_,h=>h.2
 | f+1,_,_,_,h=>⟨h.2.1,fun i hi=>wpOpIn_mono (fun a' w' h'=>ya8 f _ a' w' h') (h.2.2 i hi)⟩
def ya3 (md:Region.Mode) (ops:Array Oper):Nat→Nat→Nat→Bool
 | 0,_,_=>false
 | f+1,s,i=>match ops[s]? with | some o=>o.after.any fun e=>Region.binds md e && (e.on == i || ya3 md ops f e.on i) | none=>false
def Closed (md:Region.Mode) (ops:Array Oper) (listed:Array Bool):Prop:=∀ j o,ops[j]?=some o→listed.getD j false=true→∀ e∈o.after,Region.binds md e=true→listed.getD e.on false=true
def yd1 (md:Region.Mode) (ops:Array Oper) (listed:Array Bool):Bool:=(List.range ops.size).all fun j=>!listed.getD j false || match ops[j]? with | some o=>o.after.all fun e=>!Region.binds md e || listed.getD e.on false | none=>true
theorem yd2 {listed:Array Bool} (h:yd1 md ops listed=true):Closed md ops listed:=by
 intro j o ho hl e he hb
 have hj:j<ops.size:=(Array.getElem?_eq_some_iff.1 ho).1
 have h1:=List.all_eq_true.1 h j (List.mem_range.2 hj)
 simp only [hl,Bool.not_true,Bool.false_or,ho] at h1
 have h2:=Array.all_eq_true_iff_forall_mem.1 h1 e he
 simpa [hb] using h2
theorem ya9 {listed:Array Bool} (hc:Closed md ops listed) {i:Nat}:∀ {f s:Nat},ya3 md ops f s i=true→(∀ o,ops[s]?=some o→∀ e∈o.after,Region.binds md e=true→listed.getD e.on false=true)→listed.getD i false=true
 | 0,_,h,_=>by cases h
 | f+1,s,h,ha=>by
  unfold ya3 at h
  cases ho:ops[s]? with
  | none=>rw [ho] at h;cases h
  | some o =>
   rw [ho] at h
   obtain⟨e,he,h2⟩:=Array.any_eq_true'.1 h
   simp only [Bool.and_eq_true,Bool.or_eq_true,beq_iff_eq] at h2
   have hl:=ha o ho e he h2.1
   rcases h2.2 with rfl | h3
   ·exact hl
   ·exact ya9 hc h3 fun o2 ho2=>hc _ o2 ho2 hl
theorem Closed.step {listed:Array Bool} (hc:Closed md ops listed) {i:Nat} (hi:i∈Region.ready md ops listed):Closed md ops (listed.setIfInBounds i true):=by
 have up:∀ k,listed.getD k false=true→(listed.setIfInBounds i true).getD k false=true:=by
  intro k hk
  by_cases hik:i=k
  ·subst hik
   have hlt:i<listed.size:=by
    rcases Nat.lt_or_ge i listed.size with h | h
    ·exact h
    ·simp [Array.getElem?_eq_none h] at hk
   simp [hlt]
  ·rw [getD_set_ne false hik];exact hk
 intro j o ho hl e he hb
 by_cases hji:i=j
 ·subst hji
  obtain⟨_,o2,ho2,hall⟩:=mem_ready.1 hi
  rw [ho] at ho2
  cases ho2
  exact up _ (hall e he hb)
 ·rw [getD_set_ne false hji] at hl
  exact up _ (hc j o ho hl e he hb)
theorem ycd {i f:Nat} {oi:Oper} {v:Value} (hro:∀ (j:Nat) (o:Oper),ops[j]?=some o→∀ e,Oper.semAt F.round e o=execOp e o) (hi:ops[i]?=some oi) (hsel:∀ (j:Nat) (o:Oper) cs b,ops[j]?=some o→o.op≠.select cs b)
  (hQ:∀ c a w,Q (.panic c) (a.put oi.dst v) w→Q (.panic c) a w) (hsi:ya3 md ops f s i=true) :
  ∀ (fuel:Nat) (listed:Array Bool) (a:Act) (w:World),listed.getD s true=false→Closed md ops listed →
   (∀ j oj,ops[j]?=some oj→j≠i→listed.getD j true=false→(∀ e∈oj.after,Region.binds md e=true→e.on≠i)→oi.apart ops oj=true) →
   i∈Region.ready md ops listed→YieldsC F n P ops C oi v a →
   yag F n P md ops C s Q fuel (listed.setIfInBounds i true) (a.put oi.dst v) w→yag F n P md ops C s Q (fuel+1) listed a w:=by
 have un:∀ {listed:Array Bool},i∈Region.ready md ops listed→listed.getD i false=false:=by
  intro listed hr
  have h0:=(mem_ready.1 hr).1
  rcases Nat.lt_or_ge i listed.size with h' | h'
  ·simp [h'] at h0 ⊢;exact h0
  ·simp [Array.getElem?_eq_none h']
 have get0:∀ {listed:Array Bool},i∈Region.ready md ops listed→∀ {oj:Oper},(∀ e∈oj.after,Region.binds md e=true→listed.getD e.on false=true)→∀ e∈oj.after,Region.binds md e=true→e.on≠i:=by
  intro listed hr oj hall e he hb heq
  have h1:=hall e he hb
  rw [heq,un hr] at h1
  cases h1
 have hns:∀ {listed:Array Bool},Closed md ops listed→i∈Region.ready md ops listed→∀ j∈Region.ready md ops listed,j≠s:=by
  rintro listed hc hr j hj rfl
  obtain⟨_,oj,hoj,hall⟩:=mem_ready.1 hj
  have:=ya9 hc hsi fun o ho=>by rw [hoj] at ho;cases ho;exact hall
  rw [un hr] at this
  cases this
 intro fuel
 induction fuel with
 | zero =>
  intro listed a w hs hcl _ hr hy H
  have his:i≠s:=hns hcl hr i hr
  have hC:C w:=H.1 (by rw [getD_set_ne true his];exact hs)
  refine⟨fun _=>hC,fun h=>(by rw [h] at hr;cases hr),fun j hj=>?_⟩
  by_cases hji:j=i
  ·subst hji;exact hy.wpOpIn (hro _ _ hi) hi hC H
  ·have:=ready_mono hj hji
   rw [H.2.1] at this
   cases this
 | succ fuel ih =>
  intro listed a w hs hcl hfree hr hy H
  have his:i≠s:=hns hcl hr i hr
  have hC:C w:=H.1 (by rw [getD_set_ne true his];exact hs)
  refine⟨fun _=>hC,fun h=>(by rw [h] at hr;cases hr),fun j hj=>?_⟩
  by_cases hji:j=i
  ·subst hji;exact hy.wpOpIn (hro _ _ hi) hi hC H
  ·have h1:=H.2.2 j (ready_mono hj hji)
   have hjs:=hns hcl hr j hj
   obtain⟨hjun,oj,hoj,hall⟩:=mem_ready.1 hj
   have h2:=zjP (hro _ _ hoj) hoj (hfree j oj hoj hji hjun (get0 hr hall)) (fun cs b=>hsel i oi cs b hi) (fun cs b=>hsel j oj cs b hoj) hQ hy h1
   have hfree' : ∀ k ok,ops[k]?=some ok→k≠i→(listed.setIfInBounds j true).getD k true=false →
     (∀ e∈ok.after,Region.binds md e=true→e.on≠i)→oi.apart ops ok=true:=fun k ok hk hki hun hno=>by
    refine hfree k ok hk hki ?_ hno
    by_cases hjk:j=k
    ·subst hjk;exact hjun
    ·rw [getD_set_ne true hjk] at hun;exact hun
   refine wpOpIn_mono (fun a' w' h3=>ih (listed.setIfInBounds j true) a' w' (by rw [getD_set_ne true hjs];exact hs) (hcl.step hj) hfree' (ready_mono hr (Ne.symm hji)) h3.1 ?_) h2
   rw [Array.setIfInBounds_comm _ _ hji]
   exact h3.2
theorem yab {i:Nat} {oi:Oper} {v:Value} {fuel:Nat} {listed:Array Bool} {a:Act} {w:World} (hro:∀ (j:Nat) (o:Oper),ops[j]?=some o→∀ e,Oper.semAt F.round e o=execOp e o) (hi:ops[i]?=some oi)
  (hs:Region.noSelect ops=true) (hf:Region.free md ops listed i=true) (hr:(Region.ready md ops listed).contains i=true) (hsi:ya3 md ops 4 s i=true) (hls:listed.getD s true=false) (hcl:yd1 md ops listed=true)
  (hQ:∀ c a w,Q (.panic c) (a.put oi.dst v) w→Q (.panic c) a w) (hy:YieldsC F n P ops C oi v a)
  (h:yag F n P md ops C s Q fuel (listed.setIfInBounds i true) (a.put oi.dst v) w):yag F n P md ops C s Q (fuel+1) listed a w :=
 ycd hro hi (Region.noSelect_spec hs) hQ hsi fuel listed a w hls (yd2 hcl) (Region.free_spec hi hf) (by simpa using hr) hy h
theorem yac {i:Nat} {o:Oper} {fuel:Nat} {listed:Array Bool} {a:Act} {w:World} (hr:Region.ready md ops listed=[i]) (ho:ops[i]?=some o) (hw:Region.wanted o (yielded ops a.tmps)=true) (hC:listed.getD s true=false→C w)
  (h:∀ K:Act→World→Prop,(∀ a w,yag F n P md ops C s Q fuel (listed.setIfInBounds i true) a w→K a w)→o.wpIn F n P a w K Q):yag F n P md ops C s Q (fuel+1) listed a w:=by
 refine⟨hC,fun h0=>(by rw [hr] at h0;cases h0),fun j hj=>?_⟩
 rw [hr] at hj
 have:j=i:=by simpa using hj
 subst this
 unfold wpOpIn
 simp only [ho,hw,if_true]
 exact h _ fun _ _ h=>h
theorem ybn {i j:Nat} {oi oj:Oper} {fuel:Nat} {listed:Array Bool} {a:Act} {w:World} (hr:Region.ready md ops listed=[i,j]) (hoi:ops[i]?=some oi) (hoj:ops[j]?=some oj)
  (hwi:Region.wanted oi (yielded ops a.tmps)=true) (hwj:Region.wanted oj (yielded ops a.tmps)=true) (hC:listed.getD s true=false→C w)
  (hi:∀ K:Act→World→Prop,(∀ a w,yag F n P md ops C s Q fuel (listed.setIfInBounds i true) a w→K a w)→oi.wpIn F n P a w K Q)
  (hj:∀ K:Act→World→Prop,(∀ a w,yag F n P md ops C s Q fuel (listed.setIfInBounds j true) a w→K a w)→oj.wpIn F n P a w K Q):yag F n P md ops C s Q (fuel+1) listed a w:=by
 refine⟨hC,fun h0=>(by rw [hr] at h0;cases h0),fun k hk=>?_⟩
 rw [hr] at hk
 simp only [List.mem_cons,List.not_mem_nil,or_false] at hk
 rcases hk with rfl | rfl
 ·unfold wpOpIn
  simp only [hoi,hwi,if_true]
  exact hi _ fun _ _ h=>h
 ·unfold wpOpIn
  simp only [hoj,hwj,if_true]
  exact hj _ fun _ _ h=>h
theorem yc3 {fuel:Nat} {listed:Array Bool} {a:Act} {w:World} (hr:Region.ready md ops listed=[]) (hC:listed.getD s true=false→C w) (h:Q .normal a w):yag F n P md ops C s Q fuel listed a w:=by
 cases fuel with
 | zero=>exact⟨hC,hr,h⟩
 | succ f=>exact⟨hC,fun _=>h,by rw [hr];simp⟩
theorem ybx {id:Nat} {a:Act} {w:World} (C:World→Prop) (s:Nat) (hm:P.follows .mixedOrders=true) (h:yag F n P .any ops C s Q ops.size (Array.replicate ops.size false) a { w with drawn:=w.drawn+1 }):(Code.region id ops true).wpIn F n P Q a w :=
 wpIn_region_any hm (ya8 _ _ _ _ h)
end
end Go
namespace Go.Proofs.YtbbanmifdbeneaaDoor
open Go.RowKit Go.Con Go.Conc
local instance pnI15:Lone:=zcG
theorem yaf {w w' : World} {base e sz n:Nat} {v:Value} {xs:List Value} (h:w.ownsRow base e sz v n xs) (hk:∀ g,v.ownBlock=some g→w'.heap[g]?=w.heap[g]?):w'.ownsRow base e sz v n xs:=by
 obtain⟨h1,h2⟩:=h
 refine⟨h1,h2.imp id ?_⟩
 rintro ⟨g,cap,cur,rfl,hb,hg,r⟩
 exact⟨g,cap,cur,rfl,hb,(hk g rfl).trans hg,r⟩
theorem yce {t e:TypeId} {z:Value} {sz by_:Nat} (T:ElemT t e z sz by_) (base:Nat) (w:World) (v:Value) (rows:List (List Value)) (hown:w.ownsRow base e sz v rows.length rows.flatten) (g1:Nat) (x:List Value) (hx:x.length=sz) (hg:w.heap[g1]?=some (.cells x.toArray e (0,0)))
  (h1:∀ y∈x,y.oneCell'=true) (hl:(rows.length+1) * by_≤140737488355328) (hm:rows.length≤281474976710656) (hb:base≤w.heap.size) :
  ∃ v' w',(Builtin.append_ #[t,t] t #[v,.slice (some ⟨g1,0,none⟩) 1 1]).run Tryd.prog w=.ok v' w'∧w'.ownsRow base e sz v' (rows++[x]).length (rows++[x]).flatten∧w.grownBy w' v.ownBlock∧(v'.ownBlock=v.ownBlock∨v'.ownBlock=some w.heap.size):=by
 obtain⟨i,hi,hz,hs,hby⟩:=T.info
 obtain⟨v',w',r1,r2,r3,_,r5⟩:=run_append_own_at (P:=Tryd.prog) w base t t e i z sz by_ T.und hi hz hs hby T.zs T.pos v rows.length rows.flatten hown ⟨g1,0,none⟩ 1 1 x (by omega) (fun j y hj=>by
  rw [yc9]
  unfold World.cell?
  dsimp only
  rw [hg]
  simpa using hj) h1 (by unfold maxLen;omega) hl hb
 exact⟨v',w',r1,by rw [List.flatten_append,List.length_append];simpa using r2,r3,r5⟩
structure ApK (base:Nat) (pp qq:Value) (rp rq:List (List Value)) (w:World):Prop where
 op:w.ownsRow base 55 6 pp rp.length rp.flatten
 oq:w.ownsRow base 55 6 qq rq.length rq.flatten
 ap:∀ b,pp.ownBlock=some b→qq.ownBlock≠some b
structure ApW (Y:World) (base:Nat) (vp vq pp qq:Value) (rp rq:List (List Value)) (w:World):Prop where
 keep:∀ b,b<Y.heap.size→vp.ownBlock≠some b→vq.ownBlock≠some b→w.heap[b]?=Y.heap[b]?
 size:Y.heap.size≤w.heap.size
 kk:ApK base pp qq rp rq w
theorem ApW.grow {Y w w' : World} {base:Nat} {vp vq pp qq:Value} {rp rq:List (List Value)} (h:ApW Y base vp vq pp qq rp rq w) (hb:∀ b,b<w.heap.size→w'.heap[b]?=w.heap[b]?) (hs:w.heap.size≤w'.heap.size):ApW Y base vp vq pp qq rp rq w' :=
 ⟨fun b h1 h2 h3=>(hb b (Nat.lt_of_lt_of_le h1 h.size)).trans (h.keep b h1 h2 h3),Nat.le_trans h.size hs,yaf h.kk.op fun g hg=>hb g (h.kk.op.lt g hg).2,yaf h.kk.oq fun g hg=>hb g (h.kk.oq.lt g hg).2,h.kk.ap⟩
theorem ApW.moreP {Y w:World} {base:Nat} {vp vq qq:Value} {rp rp0 rq rq0:List (List Value)} (h:ApW Y base vp vq vp qq rp rq w) (hY:ApK base vp vq rp0 rq0 Y) {x:List Value} (hx:x.length=6) (h1:∀ y∈x,y.oneCell'=true) (_hr:∀ y∈rp,y.length=6) (hl:rp.length≤1000) (g:Nat) (hgY:Y.heap.size≤g) (hg:w.heap[g]?=some (.cells x.toArray 55 (0,0))) (hb:base≤Y.heap.size) :
  ∃ v' w',(Builtin.append_ #[29,29] 29 #[vp,.slice (some ⟨g,0,none⟩) 1 1]).run Tryd.prog w=.ok v' w'∧ApW Y base vp vq v' qq (rp++[x]) rq w'∧∀ b,Y.heap.size≤b→b<w.heap.size→w'.heap[b]?=w.heap[b]?:=by
 obtain⟨v',w',r1,r2,r3,r4⟩:=yce T29 base w vp rp h.kk.op g x hx hg h1 (by omega) (by omega) (Nat.le_trans hb h.size)
 refine⟨v',w',r1,⟨fun b j1 j2 j3=>(r3.block b (Nat.lt_of_lt_of_le j1 h.size) fun e=>j2 e.symm).trans (h.keep b j1 j2 j3),Nat.le_trans h.size r3.size,r2,yaf h.kk.oq fun b hb=>r3.block b (h.kk.oq.lt b hb).2 fun e=>h.kk.ap b e.symm hb,fun b e1 e2=>?_⟩,fun b j1 j2=>r3.block b j2 fun e=>?_⟩
 ·rcases r4 with e | e
  ·exact h.kk.ap b (e.symm.trans e1) e2
  ·have:=(h.kk.oq.lt b e2).2
   rw [e] at e1
   cases e1
   omega
 ·have:=(hY.op.lt b e.symm).2
  omega
theorem ApW.moreQ {Y w:World} {base:Nat} {vp vq pp:Value} {rp rp0 rq rq0:List (List Value)} (h:ApW Y base vp vq pp vq rp rq w) (hY:ApK base vp vq rp0 rq0 Y) {x:List Value} (hx:x.length=6) (h1:∀ y∈x,y.oneCell'=true) (_hr:∀ y∈rq,y.length=6) (hl:rq.length≤1000) (g:Nat) (hgY:Y.heap.size≤g) (hg:w.heap[g]?=some (.cells x.toArray 55 (0,0))) (hb:base≤Y.heap.size) :
  ∃ v' w',(Builtin.append_ #[29,29] 29 #[vq,.slice (some ⟨g,0,none⟩) 1 1]).run Tryd.prog w=.ok v' w'∧ApW Y base vp vq pp v' rp (rq++[x]) w'∧∀ b,Y.heap.size≤b→b<w.heap.size→w'.heap[b]?=w.heap[b]?:=by
 obtain⟨v',w',r1,r2,r3,r4⟩:=yce T29 base w vq rq h.kk.oq g x hx hg h1 (by omega) (by omega) (Nat.le_trans hb h.size)
 refine⟨v',w',r1,⟨fun b j1 j2 j3=>(r3.block b (Nat.lt_of_lt_of_le j1 h.size) fun e=>j3 e.symm).trans (h.keep b j1 j2 j3),Nat.le_trans h.size r3.size,yaf h.kk.op fun b hb=>r3.block b (h.kk.op.lt b hb).2 fun e=>h.kk.ap b hb e.symm,r2,fun b e1 e2=>?_⟩,fun b j1 j2=>r3.block b j2 fun e=>?_⟩
 ·rcases r4 with e | e
  ·exact h.kk.ap b e1 (e.symm.trans e2)
  ·have:=(h.kk.op.lt b e1).2
   rw [e] at e2
   cases e2
   omega
 ·have:=(hY.oq.lt b e.symm).2
  omega
theorem ye8 {dst:Option Nat} {ty:TypeId} {pos:String} {af:Array Edge} {x y:Nat} {w:World} (e:Operand→Value) {a:Addr} {u:Value} {s:Option Addr} {n c:Nat} (h:e (.tmp x)=.pointer (some a)) (h2:e (.tmp y)=.slice s n c) (hc:w.cell? a=some u) (hf:w.frozen? a=false) :
  (execOp e ⟨dst,.store 29 (.tmp x) (.tmp y),ty,pos,af,none⟩).run Tryd.prog w=.ok .skip (w.setCell a (.slice s n c)):=by
 simp [execOp,go_sem,h,h2,hc,hf]
noncomputable def sz22:Code:=ybw 22 yai
noncomputable def yew:Array Oper:=match sz22 with | .region _ ops _=>ops | _=>#[]
theorem yek:sz22=.region 22 yew true:=by kernel_rfl
theorem yd3 {v0 v1 v2 v3 v4 v5 v6 v7 v8 v9 v10 v11 v12 v13 v14 v15 v16 v17 v18 v19 v20 v21 v22 v23 v26 v29 v30 v31 v32 v33 v34 v35 v36 v37 v38 v39 v40 v41 v42 v43 v44 v45 v46 v47 v48 v49 v50 v51 v52 v53 v54 v55 v56 v57 v58 v59 v60 v61 v62 v63 v64 v65 v66 v67 v68 v69 v70 v71 v72 v73 v74 v75 v76 v77 v78 v79 v80 v81 v82 v83 v84 v85 v86 v87 v88 v89 v90 v91 v92 v93 v94 v95 v96 v97 v98 v99 v100 v101 v102 v103 v104 v105 v106 v107 v108 v109 v110 v111 v112 v113 v114 v115 v116 v117 v118 v119 v120 v121 v122 v123 v124 v125 v126 v127 v128 v129 v130 v131 v132 v133 v134 v135 v136 v137 v138 v139 v140 v141 v142 v143 v144 v145 v146 v147 v148 v149 v150 v151 v152 v153 v154 v155 v156 v157 v158 v159 v160 v161 v162 v163 v164 v165 v166 v167 v168 v169 v170 v171 v172 v173 v174 v175 v176 v177 v178 v179 v180 v181 v182 v183 v184 v185 v186 v187 v188 v189 v190 v191 v192 v193 v194 v195 v196 v197 v198 v199 v200 v201 v202 v203 v204:Value} (Y:World) (base P Q gx gz:Nat) (vp vq:Value) (rp rq:List (List Value)) (nm:List UInt8) (z1 z2 z3 z4 wa wb:Int) (cp cq:Array Value) (gP:Y.heap[P]?=some (.cells cp 31 (0,0))) (gQ:Y.heap[Q]?=some (.cells cq 31 (0,0))) (ep:cp[13]?=some vp) (eq1:cq[13]?=some vq)
  (gX:Y.heap[gx]?=some (.cells #[str nm,num z1,num z2,num z3,num z4,num wa] 55 (0,0))) (gZ:Y.heap[gz]?=some (.cells #[str nm,num z1,num z2,num z3,num z4,num wb] 55 (0,0))) (hk:ApK base vp vq rp rq Y) (hxo:∀ b,vp.ownBlock=some b∨vq.ownBlock=some b→b≠gx∧b≠gz) (hrp:∀ y∈rp,y.length=6) (hrq:∀ y∈rq,y.length=6) (hlp:rp.length≤1000) (hlq:rq.length≤1000)
  (hbP:P<base) (hbQ:Q<base) (hPQ:P≠Q) (hbY:base≤Y.heap.size) :
  sz22.wpIn (FG 4) 0 Tryd.prog (fun e a w'=>e=.normal∧a.defers=[]∧∃ (y3 y8 vp1 vq1:Value),a.tmps=#[v0,v1,v2,v3,v4,v5,v6,v7,v8,v9,v10,v11,v12,v13,v14,v15,v16,v17,v18,v19,v20,v21,v22,v23,.pointer (some ⟨P,0,none⟩),.pointer (some ⟨Q,0,none⟩),v26,.pointer (some ⟨gx,0,none⟩),.pointer (some ⟨gz,0,none⟩),v29,v30,v31,v32,v33,v34,v35,v36,v37,v38,v39,v40,v41,v42,v43,v44,v45,v46,v47,v48,v49,v50,v51,v52,v53,v54,v55,v56,v57,v58,v59,v60,v61,v62,v63,v64,v65,v66,v67,v68,v69,v70,v71,v72,v73,v74,v75,v76,v77,v78,v79,v80,v81,v82,v83,v84,v85,v86,v87,v88,v89,v90,v91,v92,v93,v94,v95,v96,v97,v98,v99,v100,v101,v102,v103,v104,v105,v106,v107,v108,v109,v110,v111,v112,v113,v114,v115,v116,v117,v118,v119,v120,v121,v122,v123,v124,v125,v126,v127,v128,v129,v130,v131,v132,v133,v134,v135,v136,v137,v138,v139,v140,v141,v142,v143,v144,v145,v146,v147,v148,v149,v150,v151,v152,v153,v154,v155,v156,v157,v158,v159,v160,v161,v162,v163,v164,v165,v166,v167,v168,v169,v170,v171,v172,v173,v174,v175,v176,v177,v178,v179,v180,v181,v182,v183,v184,v185,v186,v187,v188,v189,v190,v191,v192,.pointer (some ⟨P,13,none⟩),vp,.agg #[str nm,num z1,num z2,num z3,num z4,num wa],y3,vp1,.pointer (some ⟨Q,13,none⟩),vq,.agg #[str nm,num z1,num z2,num z3,num z4,num wb],y8,vq1,.pointer (some ⟨P,13,none⟩),.pointer (some ⟨Q,13,none⟩),zu,zu,zu,zu,zu,zu,zu,zu,zu,zu,zu,zu,zu,zu,zu,zu,zu,zu,zu,zu,zu,zu,zu,zu,zu,zu,zu,zu,zu,zu,zu,zu,zu,zu,zu,zu,zu,zu,zu,zu,zu,zu,zu,zu,zu,zu,zu,zu,zu,zu,zu,zu,zu,zu,zu,zu,zu,zu,zu,zu,zu,zu,zu,zu,zu,zu,zu,zu,zu,zu,zu,zu,zu,zu,zu,zu,zu,zu,zu]∧w'.heap[P]?=some (.cells (cp.setIfInBounds 13 vp1) 31 (0,0))∧w'.heap[Q]?=some (.cells (cq.setIfInBounds 13 vq1) 31 (0,0))∧ApK base vp1 vq1 (rp++[[str nm,num z1,num z2,num z3,num z4,num wa]]) (rq++[[str nm,num z1,num z2,num z3,num z4,num wb]]) w'∧(∀ b,b<base→b≠P→b≠Q→w'.heap[b]?=Y.heap[b]?)∧Y.heap.size≤w'.heap.size) ⟨#[v0,v1,v2,v3,v4,v5,v6,v7,v8,v9,v10,v11,v12,v13,v14,v15,v16,v17,v18,v19,v20,v21,v22,v23,.pointer (some ⟨P,0,none⟩),.pointer (some ⟨Q,0,none⟩),v26,.pointer (some ⟨gx,0,none⟩),.pointer (some ⟨gz,0,none⟩),v29,v30,v31,v32,v33,v34,v35,v36,v37,v38,v39,v40,v41,v42,v43,v44,v45,v46,v47,v48,v49,v50,v51,v52,v53,v54,v55,v56,v57,v58,v59,v60,v61,v62,v63,v64,v65,v66,v67,v68,v69,v70,v71,v72,v73,v74,v75,v76,v77,v78,v79,v80,v81,v82,v83,v84,v85,v86,v87,v88,v89,v90,v91,v92,v93,v94,v95,v96,v97,v98,v99,v100,v101,v102,v103,v104,v105,v106,v107,v108,v109,v110,v111,v112,v113,v114,v115,v116,v117,v118,v119,v120,v121,v122,v123,v124,v125,v126,v127,v128,v129,v130,v131,v132,v133,v134,v135,v136,v137,v138,v139,v140,v141,v142,v143,v144,v145,v146,v147,v148,v149,v150,v151,v152,v153,v154,v155,v156,v157,v158,v159,v160,v161,v162,v163,v164,v165,v166,v167,v168,v169,v170,v171,v172,v173,v174,v175,v176,v177,v178,v179,v180,v181,v182,v183,v184,v185,v186,v187,v188,v189,v190,v191,v192,v193,v194,v195,v196,v197,v198,v199,v200,v201,v202,v203,v204,zu,zu,zu,zu,zu,zu,zu,zu,zu,zu,zu,zu,zu,zu,zu,zu,zu,zu,zu,zu,zu,zu,zu,zu,zu,zu,zu,zu,zu,zu,zu,zu,zu,zu,zu,zu,zu,zu,zu,zu,zu,zu,zu,zu,zu,zu,zu,zu,zu,zu,zu,zu,zu,zu,zu,zu,zu,zu,zu,zu,zu,zu,zu,zu,zu,zu,zu,zu,zu,zu,zu,zu,zu,zu,zu,zu,zu,zu,zu],[]⟩ Y:=by
 rw [yek]
 let C:World→Prop:=fun x=>x.heap[P]?=Y.heap[P]?∧x.heap[Q]?=Y.heap[Q]?∧x.heap[gx]?=Y.heap[gx]?∧x.heap[gz]?=Y.heap[gz]?
 have row_of:∀ (x:World) (b i:Nat) (cs:Array Value) (T:TypeId) (u:Value),x.heap[b]?=Y.heap[b]?→Y.heap[b]?=some (.cells cs T (0,0))→cs[i]?=some u→x.cell? ⟨b,i,none⟩=some u:=fun x b i cs T u h g hu=>by unfold World.cell?;dsimp only;rw [h,g];exact hu
 have CP:=Lib.hid (fun x (hx:C x)=>row_of x P 13 _ _ _ hx.1 gP ep)
 have CQ:=Lib.hid (fun x (hx:C x)=>row_of x Q 13 _ _ _ hx.2.1 gQ eq1)
 have CX:=Lib.hid (fun x (hx:C x)=>show _∧_∧_∧_∧_∧_ from ⟨row_of x gx 0 _ _ _ hx.2.2.1 gX rfl,row_of x gx 1 _ _ _ hx.2.2.1 gX rfl,row_of x gx 2 _ _ _ hx.2.2.1 gX rfl,row_of x gx 3 _ _ _ hx.2.2.1 gX rfl,row_of x gx 4 _ _ _ hx.2.2.1 gX rfl,row_of x gx 5 _ _ _ hx.2.2.1 gX rfl⟩)
 have CZ:=Lib.hid (fun x (hx:C x)=>show _∧_∧_∧_∧_∧_ from ⟨row_of x gz 0 _ _ _ hx.2.2.2 gZ rfl,row_of x gz 1 _ _ _ hx.2.2.2 gZ rfl,row_of x gz 2 _ _ _ hx.2.2.2 gZ rfl,row_of x gz 3 _ _ _ hx.2.2.2 gZ rfl,row_of x gz 4 _ _ _ hx.2.2.2 gZ rfl,row_of x gz 5 _ _ _ hx.2.2.2 gZ rfl⟩)
 have cC:∀ (x:World) (pp qq:Value) (r1 r2:List (List Value)),ApW Y base vp vq pp qq r1 r2 x→C x:=fun x pp qq r1 r2 k=>by
  have own:∀ b,vp.ownBlock=some b∨vq.ownBlock=some b→base≤b:=fun b h=>h.elim (fun h=>(hk.op.lt b h).1) fun h=>(hk.oq.lt b h).1
  refine⟨k.keep P (by omega) (fun e=>?_) fun e=>?_,k.keep Q (by omega) (fun e=>?_) fun e=>?_,k.keep gx (lt_of_some gX) (fun e=>?_) fun e=>?_,k.keep gz (lt_of_some gZ) (fun e=>?_) fun e=>?_⟩
  ·have:=own P (.inl e);omega
  ·have:=own P (.inr e);omega
  ·have:=own Q (.inl e);omega
  ·have:=own Q (.inr e);omega
  ·exact (hxo gx (.inl e)).1 rfl
  ·exact (hxo gx (.inr e)).1 rfl
  ·exact (hxo gz (.inl e)).2 rfl
  ·exact (hxo gz (.inr e)).2 rfl
 clear row_of
 refine ybx C 11 (by kernel_rfl) ?_
 change yag _ _ _ _ _ _ _ _ 14 #[false,false,false,false,false,false,false,false,false,false,false,false,false,false] _ _
 refine yab (i:=0) (oi:=⟨some 193,.fieldAddr 31 (.tmp 24) 11,_,_,_,none⟩) (v:=.pointer (some ⟨P,13,none⟩)) (zaj (by kernel_rfl)) rfl (by kernel_rfl) (by kernel_rfl) (by kernel_rfl) (by kernel_rfl) (by kernel_rfl) (by kernel_rfl) (fun _ _ _ h=>by cases h.1) (yC rfl (fun _=>rfl) fun x hx=>by clear CP CQ CX CZ;simp [execOp,go_sem]) ?_
 simp only [Act.put,List.setIfInBounds_toArray,List.set_cons_succ,List.set_cons_zero]
 refine yab (i:=1) (oi:=⟨some 194,.load 29 (.tmp 193),_,_,_,none⟩) (v:=vp) (zaj (by kernel_rfl)) rfl (by kernel_rfl) (by kernel_rfl) (by kernel_rfl) (by kernel_rfl) (by kernel_rfl) (by kernel_rfl) (fun _ _ _ h=>by cases h.1) (zma rfl fun x hx=>CP.out x hx) ?_
 simp only [Act.put,List.setIfInBounds_toArray,List.set_cons_succ,List.set_cons_zero]
 refine yab (i:=2) (oi:=⟨some 195,.load 55 (.tmp 27),_,_,_,none⟩) (v:=.agg #[str nm,num z1,num z2,num z3,num z4,num wa]) (zaj (by kernel_rfl)) rfl (by kernel_rfl) (by kernel_rfl) (by kernel_rfl) (by kernel_rfl) (by kernel_rfl) (by kernel_rfl) (fun _ _ _ h=>by cases h.1) (yC rfl (fun _=>rfl) fun x hx=>by obtain⟨e0,e1,e2,e3,e4,e5⟩:=CX.out x hx;clear CP CQ CX CZ;simp [execOp,go_sem,e0,e1,e2,e3,e4,e5]) ?_
 simp only [Act.put,List.setIfInBounds_toArray,List.set_cons_succ,List.set_cons_zero]
 refine yab (i:=5) (oi:=⟨some 198,.fieldAddr 31 (.tmp 25) 11,_,_,_,none⟩) (v:=.pointer (some ⟨Q,13,none⟩)) (zaj (by kernel_rfl)) rfl (by kernel_rfl) (by kernel_rfl) (by kernel_rfl) (by kernel_rfl) (by kernel_rfl) (by kernel_rfl) (fun _ _ _ h=>by cases h.1) (yC rfl (fun _=>rfl) fun x hx=>by clear CP CQ CX CZ;simp [execOp,go_sem]) ?_
 simp only [Act.put,List.setIfInBounds_toArray,List.set_cons_succ,List.set_cons_zero]
 refine yab (i:=6) (oi:=⟨some 199,.load 29 (.tmp 198),_,_,_,none⟩) (v:=vq) (zaj (by kernel_rfl)) rfl (by kernel_rfl) (by kernel_rfl) (by kernel_rfl) (by kernel_rfl) (by kernel_rfl) (by kernel_rfl) (fun _ _ _ h=>by cases h.1) (zma rfl fun x hx=>CQ.out x hx) ?_
 simp only [Act.put,List.setIfInBounds_toArray,List.set_cons_succ,List.set_cons_zero]
 refine yab (i:=7) (oi:=⟨some 200,.load 55 (.tmp 28),_,_,_,none⟩) (v:=.agg #[str nm,num z1,num z2,num z3,num z4,num wb]) (zaj (by kernel_rfl)) rfl (by kernel_rfl) (by kernel_rfl) (by kernel_rfl) (by kernel_rfl) (by kernel_rfl) (by kernel_rfl) (fun _ _ _ h=>by cases h.1) (yC rfl (fun _=>rfl) fun x hx=>by obtain⟨e0,e1,e2,e3,e4,e5⟩:=CZ.out x hx;clear CP CQ CX CZ;simp [execOp,go_sem,e0,e1,e2,e3,e4,e5]) ?_
 simp only [Act.put,List.setIfInBounds_toArray,List.set_cons_succ,List.set_cons_zero]
 have k0:ApW Y base vp vq vp vq rp rq Y.drew:=⟨fun b _ _ _=>rfl,Nat.le_refl _,⟨yaf hk.op fun _ _=>rfl,yaf hk.oq fun _ _=>rfl,hk.ap⟩⟩
 change yag _ _ _ _ _ _ _ _ _ _ _ Y.drew
 generalize Y.drew=q at k0 ⊢
 have fin:∀ (y3 y8 vp1 vq1:Value) (w4:World),ApW Y base vp vq vp1 vq1 (rp++[[str nm,num z1,num z2,num z3,num z4,num wa]]) (rq++[[str nm,num z1,num z2,num z3,num z4,num wb]]) w4→yag (FG 4) 0 Tryd.prog .any yew C 11 (fun e a w'=>e=.normal∧a.defers=[]∧∃ (y3 y8 vp1 vq1:Value),a.tmps=#[v0,v1,v2,v3,v4,v5,v6,v7,v8,v9,v10,v11,v12,v13,v14,v15,v16,v17,v18,v19,v20,v21,v22,v23,.pointer (some ⟨P,0,none⟩),.pointer (some ⟨Q,0,none⟩),v26,.pointer (some ⟨gx,0,none⟩),.pointer (some ⟨gz,0,none⟩),v29,v30,v31,v32,v33,v34,v35,v36,v37,v38,v39,v40,v41,v42,v43,v44,v45,v46,v47,v48,v49,v50,v51,v52,v53,v54,v55,v56,v57,v58,v59,v60,v61,v62,v63,v64,v65,v66,v67,v68,v69,v70,v71,v72,v73,v74,v75,v76,v77,v78,v79,v80,v81,v82,v83,v84,v85,v86,v87,v88,v89,v90,v91,v92,v93,v94,v95,v96,v97,v98,v99,v100,v101,v102,v103,v104,v105,v106,v107,v108,v109,v110,v111,v112,v113,v114,v115,v116,v117,v118,v119,v120,v121,v122,v123,v124,v125,v126,v127,v128,v129,v130,v131,v132,v133,v134,v135,v136,v137,v138,v139,v140,v141,v142,v143,v144,v145,v146,v147,v148,v149,v150,v151,v152,v153,v154,v155,v156,v157,v158,v159,v160,v161,v162,v163,v164,v165,v166,v167,v168,v169,v170,v171,v172,v173,v174,v175,v176,v177,v178,v179,v180,v181,v182,v183,v184,v185,v186,v187,v188,v189,v190,v191,v192,.pointer (some ⟨P,13,none⟩),vp,.agg #[str nm,num z1,num z2,num z3,num z4,num wa],y3,vp1,.pointer (some ⟨Q,13,none⟩),vq,.agg #[str nm,num z1,num z2,num z3,num z4,num wb],y8,vq1,.pointer (some ⟨P,13,none⟩),.pointer (some ⟨Q,13,none⟩),zu,zu,zu,zu,zu,zu,zu,zu,zu,zu,zu,zu,zu,zu,zu,zu,zu,zu,zu,zu,zu,zu,zu,zu,zu,zu,zu,zu,zu,zu,zu,zu,zu,zu,zu,zu,zu,zu,zu,zu,zu,zu,zu,zu,zu,zu,zu,zu,zu,zu,zu,zu,zu,zu,zu,zu,zu,zu,zu,zu,zu,zu,zu,zu,zu,zu,zu,zu,zu,zu,zu,zu,zu,zu,zu,zu,zu,zu,zu]∧w'.heap[P]?=some (.cells (cp.setIfInBounds 13 vp1) 31 (0,0))∧w'.heap[Q]?=some (.cells (cq.setIfInBounds 13 vq1) 31 (0,0))∧ApK base vp1 vq1 (rp++[[str nm,num z1,num z2,num z3,num z4,num wa]]) (rq++[[str nm,num z1,num z2,num z3,num z4,num wb]]) w'∧(∀ b,b<base→b≠P→b≠Q→w'.heap[b]?=Y.heap[b]?)∧Y.heap.size≤w'.heap.size) 3 #[true,true,true,true,true,true,true,true,true,true,true,false,false,false] ⟨#[v0,v1,v2,v3,v4,v5,v6,v7,v8,v9,v10,v11,v12,v13,v14,v15,v16,v17,v18,v19,v20,v21,v22,v23,.pointer (some ⟨P,0,none⟩),.pointer (some ⟨Q,0,none⟩),v26,.pointer (some ⟨gx,0,none⟩),.pointer (some ⟨gz,0,none⟩),v29,v30,v31,v32,v33,v34,v35,v36,v37,v38,v39,v40,v41,v42,v43,v44,v45,v46,v47,v48,v49,v50,v51,v52,v53,v54,v55,v56,v57,v58,v59,v60,v61,v62,v63,v64,v65,v66,v67,v68,v69,v70,v71,v72,v73,v74,v75,v76,v77,v78,v79,v80,v81,v82,v83,v84,v85,v86,v87,v88,v89,v90,v91,v92,v93,v94,v95,v96,v97,v98,v99,v100,v101,v102,v103,v104,v105,v106,v107,v108,v109,v110,v111,v112,v113,v114,v115,v116,v117,v118,v119,v120,v121,v122,v123,v124,v125,v126,v127,v128,v129,v130,v131,v132,v133,v134,v135,v136,v137,v138,v139,v140,v141,v142,v143,v144,v145,v146,v147,v148,v149,v150,v151,v152,v153,v154,v155,v156,v157,v158,v159,v160,v161,v162,v163,v164,v165,v166,v167,v168,v169,v170,v171,v172,v173,v174,v175,v176,v177,v178,v179,v180,v181,v182,v183,v184,v185,v186,v187,v188,v189,v190,v191,v192,.pointer (some ⟨P,13,none⟩),vp,.agg #[str nm,num z1,num z2,num z3,num z4,num wa],y3,vp1,.pointer (some ⟨Q,13,none⟩),vq,.agg #[str nm,num z1,num z2,num z3,num z4,num wb],y8,vq1,.pointer (some ⟨P,13,none⟩),v204,zu,zu,zu,zu,zu,zu,zu,zu,zu,zu,zu,zu,zu,zu,zu,zu,zu,zu,zu,zu,zu,zu,zu,zu,zu,zu,zu,zu,zu,zu,zu,zu,zu,zu,zu,zu,zu,zu,zu,zu,zu,zu,zu,zu,zu,zu,zu,zu,zu,zu,zu,zu,zu,zu,zu,zu,zu,zu,zu,zu,zu,zu,zu,zu,zu,zu,zu,zu,zu,zu,zu,zu,zu,zu,zu,zu,zu,zu,zu],[]⟩ w4:=by
  intro y3 y8 vp1 vq1 w4 k4
  obtain⟨g1,c1,rfl,hg1,hl1,_,_⟩:=yb0 (by simp) k4.kk.op
  obtain⟨g2,c2,rfl,hg2,hl2,_,_⟩:=yb0 (by simp) k4.kk.oq
  have c4:=cC _ _ _ _ _ k4
  have gP4:=c4.1.trans gP
  have gQ4:=c4.2.1.trans gQ
  have p1:w4.cell? ⟨P,13,none⟩=some vp:=by unfold World.cell?;dsimp only;rw [gP4];exact ep
  have p2:w4.frozen? ⟨P,13,none⟩=false:=frozen_of_row _ _ _ _ _ gP4
  refine yac (i:=11) (o:=⟨none,.store 29 (.tmp 203) (.tmp 197),_,_,_,none⟩) (by kernel_rfl) rfl rfl (fun _=>c4) ?_
  intro K hK
  refine zb4 rfl rfl (ye8 _ rfl rfl p1 p2) ?_
  simp only [Act.put]
  refine hK _ _ ?_
  have oth:∀ b,b≠P→(w4.setCell ⟨P,13,none⟩ (.slice (some ⟨g1,0,none⟩) (rp++[[str nm,num z1,num z2,num z3,num z4,num wa]]).length c1)).heap[b]?=w4.heap[b]?:=fun b hb=>heap_setCell_other _ _ _ _ (by exact hb)
  have gP5:=heap_setCell_same w4 P 13 cp 31 (.slice (some ⟨g1,0,none⟩) (rp++[[str nm,num z1,num z2,num z3,num z4,num wa]]).length c1) gP4
  have hs5:(w4.setCell ⟨P,13,none⟩ (.slice (some ⟨g1,0,none⟩) (rp++[[str nm,num z1,num z2,num z3,num z4,num wa]]).length c1)).heap.size=w4.heap.size:=by simp
  generalize w4.setCell ⟨P,13,none⟩ (.slice (some ⟨g1,0,none⟩) (rp++[[str nm,num z1,num z2,num z3,num z4,num wa]]).length c1)=w5 at oth gP5 hs5 ⊢
  have gQ5:=(oth Q hPQ.symm).trans gQ4
  have p3:w5.cell? ⟨Q,13,none⟩=some vq:=by unfold World.cell?;dsimp only;rw [gQ5];exact eq1
  have p4:w5.frozen? ⟨Q,13,none⟩=false:=frozen_of_row _ _ _ _ _ gQ5
  refine yac (i:=12) (o:=⟨some 204,.fieldAddr 31 (.tmp 25) 11,_,_,_,none⟩) (by kernel_rfl) rfl rfl (fun h=>absurd h (by decide)) ?_
  intro K hK
  refine yaa (v:=.pointer (some ⟨Q,13,none⟩)) (w1:=w5) rfl rfl (by clear CP CQ CX CZ;simp [execOp,go_sem]) ?_
  simp only [Act.put,List.setIfInBounds_toArray,List.set_cons_succ,List.set_cons_zero]
  refine hK _ _ ?_
  refine yac (i:=13) (o:=⟨none,.store 29 (.tmp 204) (.tmp 202),_,_,_,none⟩) (by kernel_rfl) rfl rfl (fun h=>absurd h (by decide)) ?_
  intro K hK
  refine zb4 rfl rfl (ye8 _ rfl rfl p3 p4) ?_
  simp only [Act.put]
  refine hK _ _ ?_
  have oth2:∀ b,b≠Q→(w5.setCell ⟨Q,13,none⟩ (.slice (some ⟨g2,0,none⟩) (rq++[[str nm,num z1,num z2,num z3,num z4,num wb]]).length c2)).heap[b]?=w5.heap[b]?:=fun b hb=>heap_setCell_other _ _ _ _ (by exact hb)
  refine yc3 (by kernel_rfl) (fun h=>absurd h (by decide)) ⟨rfl,rfl,y3,y8,_,_,rfl,(oth2 P hPQ).trans gP5,heap_setCell_same w5 Q 13 cq 31 _ gQ5,⟨yaf k4.kk.op fun g hg=>?_,yaf k4.kk.oq fun g hg=>?_,k4.kk.ap⟩,fun b hb h1 h2=>?_,?_⟩
  ·have:=(k4.kk.op.lt g hg).1
   exact (oth2 g (by omega)).trans (oth g (by omega))
  ·have:=(k4.kk.oq.lt g hg).1
   exact (oth2 g (by omega)).trans (oth g (by omega))
  ·refine (oth2 b h2).trans ((oth b h1).trans (k4.keep b (by omega) (fun e=>?_) fun e=>?_))
   ·have:=(hk.op.lt b e).1;omega
   ·have:=(hk.oq.lt b e).1;omega
  ·have:=k4.size;simp only [World.setCell,Array.size_modify];omega
 refine ybn (i:=3) (j:=8) (oi:=⟨some 196,.buildSlice 29 1 #[(0,.tmp 195)],_,_,_,none⟩) (oj:=⟨some 201,.buildSlice 29 1 #[(0,.tmp 200)],_,_,_,none⟩) (by kernel_rfl) rfl rfl rfl rfl (fun _=>cC _ _ _ _ _ k0) ?_ ?_
 ·intro K hK
  refine yaj (Y:=q) (v:=fun g=>.slice (some ⟨g,0,none⟩) 1 1) (o:=.cells #[str nm,num z1,num z2,num z3,num z4,num wa] 55) rfl rfl (by clear CP CQ CX CZ;simp [execOp,go_sem]) (Below.refl _ _) ?_
  intro g3 w1 hg3 nw1 qqg3 lg3 kg3 _
  simp only [Act.put,List.setIfInBounds_toArray,List.set_cons_succ,List.set_cons_zero]
  refine hK _ _ ?_
  have w1k:=k0.grow kg3 nw1.size
  have yg3:Y.heap.size≤g3:=Nat.le_trans k0.size lg3
  refine ybn (i:=4) (j:=8) (oi:=⟨some 197,.call { callee:=.builtin .append,args:=#[.tmp 194,.tmp 196],argTypes:=#[29,29] },_,_,_,none⟩) (oj:=⟨some 201,.buildSlice 29 1 #[(0,.tmp 200)],_,_,_,none⟩) (by kernel_rfl) rfl rfl rfl rfl (fun _=>cC _ _ _ _ _ w1k) ?_ ?_
  ·intro K hK
   obtain⟨vp1,w2,hr4,w2k,b4⟩:=w1k.moreP hk (x:=[str nm,num z1,num z2,num z3,num z4,num wa]) rfl (by simp [Value.oneCell']) hrp hlp g3 yg3 hg3 hbY
   refine yaa rfl rfl (ya6 _ rfl rfl hr4) ?_
   simp only [Act.put,List.setIfInBounds_toArray,List.set_cons_succ,List.set_cons_zero]
   refine hK _ _ ?_
   refine yab (i:=10) (oi:=⟨some 203,.fieldAddr 31 (.tmp 24) 11,_,_,_,none⟩) (v:=.pointer (some ⟨P,13,none⟩)) (zaj (by kernel_rfl)) rfl (by kernel_rfl) (by kernel_rfl) (by kernel_rfl) (by kernel_rfl) (by kernel_rfl) (by kernel_rfl) (fun _ _ _ h=>by cases h.1) (yC rfl (fun _=>rfl) fun x hx=>by clear CP CQ CX CZ;simp [execOp,go_sem]) ?_
   simp only [Act.put,List.setIfInBounds_toArray,List.set_cons_succ,List.set_cons_zero]
   refine yac (i:=8) (o:=⟨some 201,.buildSlice 29 1 #[(0,.tmp 200)],_,_,_,none⟩) (by kernel_rfl) rfl rfl (fun _=>cC _ _ _ _ _ w2k) ?_
   intro K hK
   refine yaj (Y:=w2) (v:=fun g=>.slice (some ⟨g,0,none⟩) 1 1) (o:=.cells #[str nm,num z1,num z2,num z3,num z4,num wb] 55) rfl rfl (by clear CP CQ CX CZ;simp [execOp,go_sem]) (Below.refl _ _) ?_
   intro g8 w3 hg8 nw3 qqg8 lg8 kg8 _
   simp only [Act.put,List.setIfInBounds_toArray,List.set_cons_succ,List.set_cons_zero]
   refine hK _ _ ?_
   have w3k:=w2k.grow kg8 nw3.size
   have yg8:Y.heap.size≤g8:=Nat.le_trans w2k.size lg8
   refine yac (i:=9) (o:=⟨some 202,.call { callee:=.builtin .append,args:=#[.tmp 199,.tmp 201],argTypes:=#[29,29] },_,_,_,none⟩) (by kernel_rfl) rfl rfl (fun _=>cC _ _ _ _ _ w3k) ?_
   intro K hK
   obtain⟨vq1,w4,hr9,w4k,b9⟩:=w3k.moreQ hk (x:=[str nm,num z1,num z2,num z3,num z4,num wb]) rfl (by simp [Value.oneCell']) hrq hlq g8 yg8 hg8 hbY
   refine yaa rfl rfl (ya6 _ rfl rfl hr9) ?_
   simp only [Act.put,List.setIfInBounds_toArray,List.set_cons_succ,List.set_cons_zero]
   refine hK _ _ ?_
   exact fin _ _ _ _ _ w4k
  ·intro K hK
   refine yaj (Y:=w1) (v:=fun g=>.slice (some ⟨g,0,none⟩) 1 1) (o:=.cells #[str nm,num z1,num z2,num z3,num z4,num wb] 55) rfl rfl (by clear CP CQ CX CZ;simp [execOp,go_sem]) (Below.refl _ _) ?_
   intro g8 w2 hg8 nw2 qqg8 lg8 kg8 _
   simp only [Act.put,List.setIfInBounds_toArray,List.set_cons_succ,List.set_cons_zero]
   refine hK _ _ ?_
   have w2k:=w1k.grow kg8 nw2.size
   have yg8:Y.heap.size≤g8:=Nat.le_trans w1k.size lg8
   replace hg3:=(kg8 g3 (lt_of_some hg3)).trans hg3
   refine yac (i:=4) (o:=⟨some 197,.call { callee:=.builtin .append,args:=#[.tmp 194,.tmp 196],argTypes:=#[29,29] },_,_,_,none⟩) (by kernel_rfl) rfl rfl (fun _=>cC _ _ _ _ _ w2k) ?_
   intro K hK
   obtain⟨vp1,w3,hr4,w3k,b4⟩:=w2k.moreP hk (x:=[str nm,num z1,num z2,num z3,num z4,num wa]) rfl (by simp [Value.oneCell']) hrp hlp g3 yg3 hg3 hbY
   refine yaa rfl rfl (ya6 _ rfl rfl hr4) ?_
   simp only [Act.put,List.setIfInBounds_toArray,List.set_cons_succ,List.set_cons_zero]
   refine hK _ _ ?_
   replace hg8:=(b4 g8 yg8 (lt_of_some hg8)).trans hg8
   refine yab (i:=10) (oi:=⟨some 203,.fieldAddr 31 (.tmp 24) 11,_,_,_,none⟩) (v:=.pointer (some ⟨P,13,none⟩)) (zaj (by kernel_rfl)) rfl (by kernel_rfl) (by kernel_rfl) (by kernel_rfl) (by kernel_rfl) (by kernel_rfl) (by kernel_rfl) (fun _ _ _ h=>by cases h.1) (yC rfl (fun _=>rfl) fun x hx=>by clear CP CQ CX CZ;simp [execOp,go_sem]) ?_
   simp only [Act.put,List.setIfInBounds_toArray,List.set_cons_succ,List.set_cons_zero]
   refine yac (i:=9) (o:=⟨some 202,.call { callee:=.builtin .append,args:=#[.tmp 199,.tmp 201],argTypes:=#[29,29] },_,_,_,none⟩) (by kernel_rfl) rfl rfl (fun _=>cC _ _ _ _ _ w3k) ?_
   intro K hK
   obtain⟨vq1,w4,hr9,w4k,b9⟩:=w3k.moreQ hk (x:=[str nm,num z1,num z2,num z3,num z4,num wb]) rfl (by simp [Value.oneCell']) hrq hlq g8 yg8 hg8 hbY
   refine yaa rfl rfl (ya6 _ rfl rfl hr9) ?_
   simp only [Act.put,List.setIfInBounds_toArray,List.set_cons_succ,List.set_cons_zero]
   refine hK _ _ ?_
   exact fin _ _ _ _ _ w4k
 ·intro K hK
  refine yaj (Y:=q) (v:=fun g=>.slice (some ⟨g,0,none⟩) 1 1) (o:=.cells #[str nm,num z1,num z2,num z3,num z4,num wb] 55) rfl rfl (by clear CP CQ CX CZ;simp [execOp,go_sem]) (Below.refl _ _) ?_
  intro g8 w1 hg8 nw1 qqg8 lg8 kg8 _
  simp only [Act.put,List.setIfInBounds_toArray,List.set_cons_succ,List.set_cons_zero]
  refine hK _ _ ?_
  have w1k:=k0.grow kg8 nw1.size
  have yg8:Y.heap.size≤g8:=Nat.le_trans k0.size lg8
  refine yac (i:=3) (o:=⟨some 196,.buildSlice 29 1 #[(0,.tmp 195)],_,_,_,none⟩) (by kernel_rfl) rfl rfl (fun _=>cC _ _ _ _ _ w1k) ?_
  intro K hK
  refine yaj (Y:=w1) (v:=fun g=>.slice (some ⟨g,0,none⟩) 1 1) (o:=.cells #[str nm,num z1,num z2,num z3,num z4,num wa] 55) rfl rfl (by clear CP CQ CX CZ;simp [execOp,go_sem]) (Below.refl _ _) ?_
  intro g3 w2 hg3 nw2 qqg3 lg3 kg3 _
  simp only [Act.put,List.setIfInBounds_toArray,List.set_cons_succ,List.set_cons_zero]
  refine hK _ _ ?_
  have w2k:=w1k.grow kg3 nw2.size
  have yg3:Y.heap.size≤g3:=Nat.le_trans w1k.size lg3
  replace hg8:=(kg3 g8 (lt_of_some hg8)).trans hg8
  refine yac (i:=4) (o:=⟨some 197,.call { callee:=.builtin .append,args:=#[.tmp 194,.tmp 196],argTypes:=#[29,29] },_,_,_,none⟩) (by kernel_rfl) rfl rfl (fun _=>cC _ _ _ _ _ w2k) ?_
  intro K hK
  obtain⟨vp1,w3,hr4,w3k,b4⟩:=w2k.moreP hk (x:=[str nm,num z1,num z2,num z3,num z4,num wa]) rfl (by simp [Value.oneCell']) hrp hlp g3 yg3 hg3 hbY
  refine yaa rfl rfl (ya6 _ rfl rfl hr4) ?_
  simp only [Act.put,List.setIfInBounds_toArray,List.set_cons_succ,List.set_cons_zero]
  refine hK _ _ ?_
  replace hg8:=(b4 g8 yg8 (lt_of_some hg8)).trans hg8
  refine yab (i:=10) (oi:=⟨some 203,.fieldAddr 31 (.tmp 24) 11,_,_,_,none⟩) (v:=.pointer (some ⟨P,13,none⟩)) (zaj (by kernel_rfl)) rfl (by kernel_rfl) (by kernel_rfl) (by kernel_rfl) (by kernel_rfl) (by kernel_rfl) (by kernel_rfl) (fun _ _ _ h=>by cases h.1) (yC rfl (fun _=>rfl) fun x hx=>by clear CP CQ CX CZ;simp [execOp,go_sem]) ?_
  simp only [Act.put,List.setIfInBounds_toArray,List.set_cons_succ,List.set_cons_zero]
  refine yac (i:=9) (o:=⟨some 202,.call { callee:=.builtin .append,args:=#[.tmp 199,.tmp 201],argTypes:=#[29,29] },_,_,_,none⟩) (by kernel_rfl) rfl rfl (fun _=>cC _ _ _ _ _ w3k) ?_
  intro K hK
  obtain⟨vq1,w4,hr9,w4k,b9⟩:=w3k.moreQ hk (x:=[str nm,num z1,num z2,num z3,num z4,num wb]) rfl (by simp [Value.oneCell']) hrq hlq g8 yg8 hg8 hbY
  refine yaa rfl rfl (ya6 _ rfl rfl hr9) ?_
  simp only [Act.put,List.setIfInBounds_toArray,List.set_cons_succ,List.set_cons_zero]
  refine hK _ _ ?_
  exact fin _ _ _ _ _ w4k
end Go.Proofs.YtbbanmifdbeneaaDoor

namespace Go.Proofs.YtbbanmifdbeneaaDoor
open Go.RowKit Go.Con Go.Conc
local instance pnI16:Lone:=zcG
def ya4 (f:Nat→Int) (l:List Plot) (k:Nat):List (List Value):=((yen f l).take k).map Plot.cells
theorem ybi {f:Nat→Int} {l:List Plot} {k:Nat} (h:k≤l.length):(ya4 f l k).length=k:=by
 simp only [ya4,yen,List.length_map,List.length_take,List.length_mapIdx];omega
theorem ybj {f:Nat→Int} {l:List Plot} {k:Nat}:∀ y∈ya4 f l k,y.length=6:=fun y hy=>by
 obtain⟨z,_,rfl⟩:=List.mem_map.1 hy;rfl
theorem ybo {f:Nat→Int} {l:List Plot} {k:Nat} {p:Plot} (h:l[k]?=some p):ya4 f l (k+1)=ya4 f l k++[[str p.name,num p.holder,num p.far,num p.low,num p.high,num (f k)]]:=by
 have h1:(yen f l)[k]?=some { p with worth:=f k }:=by simp [yen,h]
 unfold ya4
 rw [List.take_add_one,h1,List.map_append]
 rfl
structure SzL (d:Dit) (r:zaR) (f g:Nat→Int) (P Q base:Nat) (Wb:World) (k:Nat) (vp vq:Value) (wr:World):Prop where
 hP:wr.heap[P]?=some (.cells ((d.cellsA r).setIfInBounds 13 vp) 31 (0,0))
 hQ:wr.heap[Q]?=some (.cells ((d.cellsA r).setIfInBounds 13 vq) 31 (0,0))
 kk:ApK base vp vq (ya4 f d.plots k) (ya4 g d.plots k) wr
 keep:∀ b,b<base→b≠P→b≠Q→wr.heap[b]?=Wb.heap[b]?
 size:base≤wr.heap.size
theorem SzL.heap {d:Dit} {r:zaR} {f g:Nat→Int} {P Q base k:Nat} {Wb w w' : World} {vp vq:Value} (h:SzL d r f g P Q base Wb k vp vq w) (e:w'.heap=w.heap):SzL d r f g P Q base Wb k vp vq w' :=
 ⟨by rw [e];exact h.hP,by rw [e];exact h.hQ,⟨yaf h.kk.op fun b _=>by rw [e],yaf h.kk.oq fun b _=>by rw [e],h.kk.ap⟩,fun b h1 h2 h3=>by rw [e];exact h.keep b h1 h2 h3,by rw [e];exact h.size⟩
theorem SzL.old {d:Dit} {r:zaR} {f g:Nat→Int} {P Q k:Nat} {W0 Wb w:World} {vp vq:Value} (h:SzL d r f g P Q Wb.heap.size Wb k vp vq w) (o:Old W0 Wb) (hP:W0.heap.size≤P) (hQ:W0.heap.size≤Q):Old W0 w :=
 ybc o h.size fun b hb=>h.keep b (Nat.lt_of_lt_of_le hb o.size) (by omega) (by omega)
theorem ydl {v0 v1 v3 v4 v5 v6 v7 v9 v10 v11 v12 v13 v14 v15 v16 v17 v18 v19 v21 v23 v26 v27 v28 v29 v30 v31 v32 v33 v34 v35 v36 v37 v38 v39 v40 v41 v42 v43 v44 v45 v46 v47 v48 v49 v50 v51 v52 v53 v54 v55 v56 v57 v58 v59 v60 v61 v62 v63 v64 v65 v66 v67 v68 v69 v70 v71 v72 v73 v74 v75 v76 v77 v78 v79 v80 v81 v82 v83 v84 v85 v86 v87 v88 v89 v90 v91 v92 v93 v94 v95 v96 v97 v98 v99 v100 v101 v102 v103 v104 v105 v106 v107 v108 v109 v110 v111 v112 v113 v114 v115 v116 v117 v118 v119 v120 v121 v122 v123 v124 v125 v126 v127 v128 v129 v130 v131 v132 v133 v134 v135 v136 v137 v138 v139 v140:Value} (d:Dit) (r:zaR) (f g:Nat→Int) (sa sb:List (Int×Int)) (av:Option Addr) (B P Q ga gb n m capv:Nat) (W0 Wb:World) (hO:Old W0 Wb) (hd:DitSl W0 d r) (cB:∀ i v,(d.cellsA r)[i]?=some v→W0.cell? ⟨B,i,none⟩=some v) (hB:B<W0.heap.size) (hP:W0.heap.size≤P) (hQ:W0.heap.size≤Q) (hPQ:P≠Q)
  (gP:Wb.heap[P]?=some (.cells ((d.cellsA r).setIfInBounds 13 (.slice none 0 0)) 31 (0,0))) (gQ:Wb.heap[Q]?=some (.cells ((d.cellsA r).setIfInBounds 13 (.slice none 0 0)) 31 (0,0))) (hga:Sl W0 (.slice (some ⟨ga,0,none⟩) (n+1) (n+1)) 2 (sa.map two)) (hgb:Sl W0 (.slice (some ⟨gb,0,none⟩) (n+1) (n+1)) 2 (sb.map two))
  (hna:sa.length=n+1) (hnb:sb.length=n+1) (hfa:∀ k y,sa[k % (n+1)]?=some y→y.1=f k) (hfb:∀ k y,sb[k % (n+1)]?=some y→y.1=g k) (hle:∀ k,f k≤g k) (hf0:∀ k,0≤f k) (hgs:∀ k,g k≤(m:Int)) (hn:n≤1000) (hpl:d.plots.length≤1000) :
  zo0 Tryd.prog (FG 4) [yeo] (fun t W2=>∃ vp vq:Value,SzL d r f g P Q Wb.heap.size Wb d.plots.length vp vq W2∧∃ e:Nat→Value,t=#[v0,v1,.slice av m capv,v3,v4,v5,v6,v7,.pointer (some ⟨B,0,none⟩),e 9,e 10,e 11,e 12,e 13,e 14,e 15,e 16,e 17,e 18,e 19,e 20,e 21,e 22,e 23,.pointer (some ⟨P,0,none⟩),.pointer (some ⟨Q,0,none⟩),e 26,e 27,e 28,e 29,e 30,e 31,e 32,e 33,e 34,e 35,e 36,e 37,e 38,e 39,e 40,e 41,e 42,e 43,e 44,e 45,e 46,e 47,e 48,e 49,e 50,e 51,e 52,e 53,e 54,e 55,e 56,e 57,e 58,e 59,e 60,e 61,e 62,e 63,e 64,e 65,e 66,e 67,e 68,e 69,e 70,e 71,e 72,e 73,e 74,e 75,e 76,e 77,e 78,e 79,e 80,e 81,e 82,e 83,e 84,e 85,e 86,e 87,e 88,e 89,e 90,e 91,e 92,e 93,e 94,e 95,e 96,e 97,e 98,e 99,e 100,e 101,e 102,e 103,e 104,e 105,e 106,e 107,e 108,e 109,e 110,e 111,e 112,e 113,e 114,e 115,e 116,e 117,e 118,e 119,e 120,e 121,e 122,e 123,e 124,e 125,e 126,e 127,e 128,e 129,e 130,e 131,e 132,e 133,e 134,e 135,e 136,e 137,e 138,e 139,e 140,e 141,e 142,e 143,e 144,e 145,e 146,e 147,e 148,e 149,e 150,e 151,e 152,e 153,e 154,e 155,e 156,e 157,e 158,e 159,e 160,e 161,e 162,e 163,e 164,e 165,e 166,e 167,e 168,e 169,e 170,e 171,e 172,e 173,e 174,e 175,e 176,e 177,e 178,e 179,e 180,e 181,e 182,e 183,e 184,e 185,e 186,e 187,e 188,e 189,e 190,e 191,e 192,e 193,e 194,e 195,e 196,e 197,e 198,e 199,e 200,e 201,e 202,e 203,e 204,zu,zu,zu,zu,zu,zu,zu,zu,zu,zu,zu,zu,zu,zu,zu,zu,zu,zu,zu,zu,zu,zu,zu,zu,zu,zu,zu,zu,zu,zu,zu,zu,zu,zu,zu,zu,zu,zu,zu,zu,zu,zu,zu,zu,zu,zu,zu,zu,zu,zu,zu,zu,zu,zu,zu,zu,zu,zu,zu,zu,zu,zu,zu,zu,zu,zu,zu,zu,zu,zu,zu,zu,zu,zu,zu,zu,zu,zu,zu]) #[v0,v1,.slice av m capv,v3,v4,v5,v6,v7,.pointer (some ⟨B,0,none⟩),v9,v10,v11,v12,v13,v14,v15,v16,v17,v18,v19,.slice (some ⟨ga,0,none⟩) (n+1) (n+1),v21,.slice (some ⟨gb,0,none⟩) (n+1) (n+1),v23,.pointer (some ⟨P,0,none⟩),.pointer (some ⟨Q,0,none⟩),v26,v27,v28,v29,v30,v31,v32,v33,v34,v35,v36,v37,v38,v39,v40,v41,v42,v43,v44,v45,v46,v47,v48,v49,v50,v51,v52,v53,v54,v55,v56,v57,v58,v59,v60,v61,v62,v63,v64,v65,v66,v67,v68,v69,v70,v71,v72,v73,v74,v75,v76,v77,v78,v79,v80,v81,v82,v83,v84,v85,v86,v87,v88,v89,v90,v91,v92,v93,v94,v95,v96,v97,v98,v99,v100,v101,v102,v103,v104,v105,v106,v107,v108,v109,v110,v111,v112,v113,v114,v115,v116,v117,v118,v119,v120,v121,v122,v123,v124,v125,v126,v127,v128,v129,v130,v131,v132,v133,v134,v135,v136,v137,v138,v139,v140,zu,zu,zu,zu,zu,zu,zu,zu,zu,zu,zu,zu,zu,zu,zu,zu,zu,zu,zu,zu,zu,zu,zu,zu,zu,zu,zu,zu,zu,zu,zu,zu,zu,zu,zu,zu,zu,zu,zu,zu,zu,zu,zu,zu,zu,zu,zu,zu,zu,zu,zu,zu,zu,zu,zu,zu,zu,zu,zu,zu,zu,zu,zu,zu,zu,zu,zu,zu,zu,zu,zu,zu,zu,zu,zu,zu,zu,zu,zu,zu,zu,zu,zu,zu,zu,zu,zu,zu,zu,zu,zu,zu,zu,zu,zu,zu,zu,zu,zu,zu,zu,zu,zu,zu,zu,zu,zu,zu,zu,zu,zu,zu,zu,zu,zu,zu,zu,zu,zu,zu,zu,zu,zu,zu,zu,zu,zu,zu,zu,zu,zu,zu,zu,zu,zu,zu,zu,zu,zu,zu,zu,zu,zu] Wb:=by
 have HD:=Lib.hid hd
 have HCB:=Lib.hid cB
 obtain⟨pa,pcap,ep⟩:=hd.plots.cases
 rw [List.length_map] at ep
 have hps:=hd.plots
 rw [ep] at hps
 have HPS:=Lib.hid hps
 have HC13:=Lib.hid (show ∀ w2,Old W0 w2→w2.cell? ⟨B,13,none⟩=some (.slice pa d.plots.length pcap) from fun w2 o=>(o.cell ⟨B,13,none⟩ hB).trans ((cB 13 r.p rfl).trans (by rw [ep])))
 have HGA:=Lib.hid hga
 have HGB:=Lib.hid hgb
 have HFA:=Lib.hid hfa
 have HFB:=Lib.hid hfb
 have HLE:=Lib.hid (fun k=>And.intro (hle k) (And.intro (hf0 k) (hgs k)))
 have HN:=Lib.hid (And.intro hna hnb)
 clear hd cB ep hps hga hgb hfa hfb hle hf0 hgs hna hnb
 have HP0:=Lib.hid (show SzL d r f g P Q Wb.heap.size Wb 0 (.slice none 0 0) (.slice none 0 0) Wb from ⟨gP,gQ,⟨⟨rfl,.inl ⟨rfl,rfl⟩⟩,⟨rfl,.inl ⟨rfl,rfl⟩⟩,fun _ h=>by cases h⟩,fun _ _ _ _=>rfl,Nat.le_refl _⟩)
 have hPl:=lt_of_some gP
 have hQl:=lt_of_some gQ
 clear gP gQ
 intro τ15
 generalize hq15:({ Wb with tape:=τ15 }:World)=u15
 have hh15:u15.heap=Wb.heap:=by rw [← hq15]
 clear hq15
 simp only [yeo,yaz,yax,yaw,yav,yau,yat,yas,ycr,ycq,ycp,yco,ycn,ycm,ycl,yck,yb8,yai,seqL,seqR,Tryd.f4]
 gi_wp2
 gi_loopw [26] (fun vi wr=>∃ (k:Nat) (vp vq:Value),k≤d.plots.length∧vi=num k∧SzL d r f g P Q Wb.heap.size Wb k vp vq wr) (fun vi _=>d.plots.length-(intOf vi).toNat)
 case atStart=>exact⟨0,_,_,Nat.zero_le _,rfl,HP0.out.heap hh15⟩
 case round =>
  obtain⟨k,vp,vq,hk,rfl,hL⟩:=hrel
  have oR:Old W0 wr:=hL.old hO hP hQ
  have HL:=Lib.hid hL
  clear hL
  have c13:=HC13.out wr oR
  by_cases hlt:k<d.plots.length
  ·obtain⟨pb,off,ha,hbz,hcl⟩:=HPS.out.get (by simp;omega)
   subst ha
   have hp:d.plots[k]?=some d.plots[k]:=List.getElem?_eq_getElem hlt
   have HPK:=Lib.hid hp
   generalize d.plots[k]=p at hp HPK
   have cp0:=Sl.at6 hcl (Below.refl _ W0) hbz hp
   have CP:=Lib.hid (show wr.cell? ⟨pb,off+k * 6,none⟩=some (str p.name)∧wr.cell? ⟨pb,off+k * 6+1,none⟩=some (num p.holder)∧wr.cell? ⟨pb,off+k * 6+2,none⟩=some (num p.far)∧wr.cell? ⟨pb,off+k * 6+3,none⟩=some (num p.low)∧wr.cell? ⟨pb,off+k * 6+4,none⟩=some (num p.high)∧wr.cell? ⟨pb,off+k * 6+5,none⟩=some (num p.worth) from
    ⟨(oR.cell _ hbz).trans cp0.1,(oR.cell _ hbz).trans cp0.2.1,(oR.cell _ hbz).trans cp0.2.2.1,(oR.cell _ hbz).trans cp0.2.2.2.1,(oR.cell _ hbz).trans cp0.2.2.2.2.1,(oR.cell _ hbz).trans cp0.2.2.2.2.2⟩)
   clear hcl hp cp0
   gi_upto_region 18 with fail
   have C13:=c13
   clear c13
   have hrs:=oR.size
   refine yan (c':=sz18) (by kernel_rfl) ?_
   refine wpIn_mono (yc2 wr B pb off d.plots.length pcap k p.name p.holder p.far p.low p.high p.worth (by omega) (by omega) hlt C13 CP.out) ?_
   rintro e a w18 ⟨rfl,hdf,b1,b2,hta,hb12,hb1,hb2,hs18,hold18,g1,g2⟩
   obtain⟨ta,df⟩:=a
   dsimp only at hdf hta
   subst hta hdf
   have HG1:=Lib.hid g1
   have HG2:=Lib.hid g2
   have HOLD:=Lib.hid hold18
   clear g1 g2 hold18 C13
   gi_upto_region 19 with fail
   refine yan (c':=sz19) (by kernel_rfl) ?_
   have hm:k % (n+1)<n+1:=Nat.mod_lt _ (by omega)
   have cell_a:∀ (gx:Nat) (sx:List (Int×Int)) (fx:Nat→Int),Sl W0 (.slice (some ⟨gx,0,none⟩) (n+1) (n+1)) 2 (sx.map two)→sx.length=n+1→(∀ k y,sx[k % (n+1)]?=some y→y.1=fx k)→gx<W0.heap.size∧w18.cell? ⟨gx,k % (n+1) * 2,none⟩=some (num (fx k)):=by
    intro gx sx fx hs hl hfx
    obtain⟨bx,ox,hax,hbx,hcx⟩:=hs.get (by simp;omega)
    cases hax
    have hy:sx[k % (n+1)]?=some sx[k % (n+1)]:=List.getElem?_eq_getElem (by omega)
    have h1:=(Sl.at2 hcx (Below.refl _ W0) hbx (x:=sx[k % (n+1)].1) (y:=sx[k % (n+1)].2) hy).1
    rw [hfx k _ hy,Nat.zero_add] at h1
    refine⟨hbx,?_⟩
    rw [← h1,← oR.cell ⟨gx,k % (n+1) * 2,none⟩ hbx]
    unfold World.cell?
    dsimp only
    rw [HOLD.out gx (by omega)]
   obtain⟨gal,ca⟩:=cell_a ga sa f HGA.out HN.out.1 HFA.out
   obtain⟨gbl,cb⟩:=cell_a gb sb g HGB.out HN.out.2 HFB.out
   clear cell_a
   refine wpIn_mono (ycc w18 b1 b2 ga gb n k (k % (n+1)) rfl (f k) (g k) hb12 (by omega) (by omega) _ _ HG1.out HG2.out rfl rfl hn (by omega) ca cb) ?_
   rintro e a w19 ⟨rfl,hdf,hta,x1,x2,x3,x4⟩
   obtain⟨ta,df⟩:=a
   dsimp only at hdf hta
   subst hta hdf
   simp only [List.setIfInBounds_toArray,List.set_cons_succ,List.set_cons_zero] at x1 x2
   have k19:∀ b,b<wr.heap.size→w19.heap[b]?=wr.heap[b]?:=fun b hb=>(x3 b (by omega) (by omega)).trans (HOLD.out b hb)
   have e1:w19.cell? ⟨b1,5,none⟩=some (num (f k)):=by unfold World.cell?;dsimp only;rw [x1];rfl
   have e2:w19.cell? ⟨b2,5,none⟩=some (num (g k)):=by unfold World.cell?;dsimp only;rw [x2];rfl
   have hfg:=HLE.out k
   have d1:decide (g k<f k)=false:=decide_eq_false (by omega)
   have d2:decide (f k<0)=false:=decide_eq_false (by omega)
   have d3:decide (g k > (m:Int))=false:=decide_eq_false (by omega)
   have HX1:=Lib.hid x1
   have HX2:=Lib.hid x2
   have HK19:=Lib.hid k19
   have HX4:=Lib.hid x4
   clear ca cb x1 x2 x3 x4 k19 hfg
   gi_upto_region 22 with fail
   clear e1 e2 d1 d2 d3
   refine yan (c':=sz22) (by kernel_rfl) ?_
   have hl:=HL.out
   have hws:=HX4.out
   have own:∀ b,vp.ownBlock=some b∨vq.ownBlock=some b→b<wr.heap.size:=fun b h=>h.elim (fun h=>(hl.kk.op.lt b h).2) fun h=>(hl.kk.oq.lt b h).2
   have hrl:∀ fx:Nat→Int,(ya4 fx d.plots k).length=k:=fun fx=>ybi hk
   refine wpIn_mono (yd3 w19 Wb.heap.size P Q b1 b2 vp vq (ya4 f d.plots k) (ya4 g d.plots k) p.name p.holder p.far p.low p.high (f k) (g k) _ _ ((HK19.out P (by have:=hl.size;omega)).trans hl.hP) ((HK19.out Q (by have:=hl.size;omega)).trans hl.hQ) rfl rfl HX1.out HX2.out
    ⟨yaf hl.kk.op fun b hb=>HK19.out b (own b (.inl hb)),yaf hl.kk.oq fun b hb=>HK19.out b (own b (.inr hb)),hl.kk.ap⟩ (fun b hb=>by have:=own b hb;omega) ybj ybj (by rw [hrl];omega) (by rw [hrl];omega) hPl hQl hPQ (by have:=hl.size;omega)) ?_
   rintro e a w22 ⟨rfl,hdf,y3,y8,vp1,vq1,hta,x1,x2,x3,x4,x5⟩
   obtain⟨ta,df⟩:=a
   dsimp only at hdf hta
   subst hta hdf
   rw [← ybo HPK.out,← ybo HPK.out] at x3
   have HNEW:=Lib.hid (show SzL d r f g P Q Wb.heap.size Wb (k+1) vp1 vq1 w22 from ⟨x1,x2,x3,fun b h1 h2 h3=>(x4 b h1 h2 h3).trans ((HK19.out b (by have:=hl.size;omega)).trans (hl.keep b h1 h2 h3)),by have:=hl.size;omega⟩)
   clear x1 x2 x3 x4 x5 hl hws own hrl
   gi_wp2
   exact⟨⟨k+1,vp1,vq1,hlt,by simp,HNEW.out⟩,by simp [intOf];omega⟩
  ·obtain rfl:k=d.plots.length:=by omega
   gi_wp2
   exact⟨⟨vp,vq,HL.out⟩,ye9 rfl⟩
end Go.Proofs.YtbbanmifdbeneaaDoor

namespace Go.Proofs.YtbbanmifdbeneaaDoor
open Go.RowKit Go.Con Go.Conc
local instance pnI17:Lone:=zcG
theorem yak {P:Program} {F:Fence} {l2:List Code} {R1 R2:Array Value→World→Prop}:∀ {l1:List Code} {t:Array Value} {W:World},zo0 P F l1 R1 t W→(∀ t W1,R1 t W1→zo0 P F l2 R2 t W1)→zo0 P F (l1++l2) R2 t W
 | [],_,_,h,k=>k _ _ h
 | _ :: _,_,_,h,k=>fun τ=>wpIn_mono (h τ) fun _ _ _ ⟨h1,h2,h3⟩=>⟨h1,h2,yak h3 k⟩
theorem ycf {d:Dit} (h:d.Small) (f:Nat→Int):(d.wor f).Small :=
 ⟨h.h,h.t,h.f,h.s,h.l,by rw [ydu];exact h.p,h.hn,fun p hp=>by
  obtain⟨i,hi,rfl⟩:=List.mem_mapIdx.1 hp
  exact h.pn d.plots[i] (List.getElem_mem hi)⟩
theorem ycg {d:Dit} {r:zaR} {f:Nat→Int} {w:World} {base:Nat} {vp:Value} (h:DitSl w d r) (ho:w.ownsRow base 55 6 vp d.plots.length (ya4 f d.plots d.plots.length).flatten):DitSl w (d.wor f) { r with p:=vp }:=by
 have hw:ya4 f d.plots d.plots.length=(d.wor f).plots.map Plot.cells:=by
  unfold ya4 Dit.wor
  rw [List.take_of_length_le (by simp [yen])]
 have hs:=yem ybj (ybi (Nat.le_refl _)) ho
 rw [hw] at hs
 refine⟨h.holders,h.turns,h.feasts,h.swaps,h.loans,hs,h.cap0,fun a n cap e=>?_,fun v hv=>?_⟩
 ·change vp=_ at e
  obtain⟨_,⟨e1,e2⟩ | ⟨g,c,cur,e1,_,_,hc,_⟩⟩:=ho
  ·rw [e1] at e;cases e;exact Nat.le_refl _
  ·rw [e1] at e;cases e;exact hc
 ·simp only [List.mem_cons,List.not_mem_nil,or_false] at hv
  rcases hv with rfl | rfl | rfl | rfl | rfl | rfl
  ·exact h.kinds _ (by simp)
  ·exact h.kinds _ (by simp)
  ·exact h.kinds _ (by simp)
  ·exact h.kinds _ (by simp)
  ·exact h.kinds _ (by simp)
  ·intro a n c e
   change v=_ at e
   obtain⟨_,⟨e1,e2⟩ | ⟨g,c2,cur,e1,_,hg,_⟩⟩:=ho
   ·rw [e1] at e;cases e
   ·rw [e1] at e;cases e;exact⟨_,_,_,hg⟩
theorem ych {d:Dit} {r:zaR} {f:Nat→Int} {w:World} {P:Nat} {vp:Value} (h:w.heap[P]?=some (.cells ((d.cellsA r).setIfInBounds 13 vp) 31 (0,0))) (i:Nat) (v:Value) (hv:((d.wor f).cellsA { r with p:=vp })[i]?=some v):w.cell? ⟨P,i,none⟩=some v:=by
 unfold World.cell?
 dsimp only
 rw [h]
 exact hv
theorem ydm (d:Dit) (r:zaR) (l:List Int) (s:List (Int×Int)) (x y z pr:Int) (u v pv:Value) (ps:List Int) (W:World) (hd:DitSl W d r) (hb:d.Big) (hg:Glob W) (hx:0≤x∧x≤255) (hy:0≤y∧y≤4294967295) (hz:0≤z∧z≤4294967295) (hpr:0≤pr∧pr≤65535) (hu:Sl W u 1 (l.map fun x=>[num x])) (hv:Sl W v 2 (s.map two)) (hul:l.length≤281474976710656) (hvl:s.length≤281474976710656) (hps:Sl W pv 1 (ps.map fun x=>[Value.int .u16 x])) (hpb:∀ x∈ps,0≤x∧x≤65535) (hpl:ps.length≤281474976710656) :
  zo0 Tryd.prog (FG 4) [sz0,sz1] (fun t W1=>Old W W1∧t.size=284∧(t[69]?=some (.bool true)∨(t[69]?=some (.bool false)∧zo0 Tryd.prog (FG 4) [sz3,sz4,sz9,ye0,ye1,sz13,yey,yeo,yep,yeq,yer,yes,yet,yeu] (yev W) t W1)))
   #[d.val r,u,v,.int .u8 x,.int .u32 y,.int .u32 z,.int .u16 pr,pv,zu,zu,zu,zu,zu,zu,zu,zu,zu,zu,zu,zu,zu,zu,zu,zu,zu,zu,zu,zu,zu,zu,zu,zu,zu,zu,zu,zu,zu,zu,zu,zu,zu,zu,zu,zu,zu,zu,zu,zu,zu,zu,zu,zu,zu,zu,zu,zu,zu,zu,zu,zu,zu,zu,zu,zu,zu,zu,zu,zu,zu,zu,zu,zu,zu,zu,zu,zu,zu,zu,zu,zu,zu,zu,zu,zu,zu,zu,zu,zu,zu,zu,zu,zu,zu,zu,zu,zu,zu,zu,zu,zu,zu,zu,zu,zu,zu,zu,zu,zu,zu,zu,zu,zu,zu,zu,zu,zu,zu,zu,zu,zu,zu,zu,zu,zu,zu,zu,zu,zu,zu,zu,zu,zu,zu,zu,zu,zu,zu,zu,zu,zu,zu,zu,zu,zu,zu,zu,zu,zu,zu,zu,zu,zu,zu,zu,zu,zu,zu,zu,zu,zu,zu,zu,zu,zu,zu,zu,zu,zu,zu,zu,zu,zu,zu,zu,zu,zu,zu,zu,zu,zu,zu,zu,zu,zu,zu,zu,zu,zu,zu,zu,zu,zu,zu,zu,zu,zu,zu,zu,zu,zu,zu,zu,zu,zu,zu,zu,zu,zu,zu,zu,zu,zu,zu,zu,zu,zu,zu,zu,zu,zu,zu,zu,zu,zu,zu,zu,zu,zu,zu,zu,zu,zu,zu,zu,zu,zu,zu,zu,zu,zu,zu,zu,zu,zu,zu,zu,zu,zu,zu,zu,zu,zu,zu,zu,zu,zu,zu,zu,zu,zu,zu,zu,zu,zu,zu,zu,zu,zu,zu,zu,zu,zu,zu,zu,zu,zu,zu,zu,zu,zu,zu,zu,zu,zu] W:=by
 intro τ
 generalize hw0:({ W with tape:=τ }:World)=w0
 have hO0:Old W w0:=by rw [← hw0];exact .same rfl
 clear hw0
 obtain⟨al,capl,rfl⟩:=hu.cases
 obtain⟨av,capv,rfl⟩:=hv.cases
 rw [List.length_map] at hu hv ⊢
 rw [List.length_map]
 obtain⟨V,hV,nV,hVs,cV⟩:=boxed w0 d r
 have nVV:Nx V V:=Below.refl _ _
 simp only [sz0,yai,seqL,seqR,Tryd.f4]
 gi_wp2
 intro τ1
 generalize hw1:({ V with tape:=τ1 }:World)=w1
 have hO1:Old V w1:=by rw [← hw1];exact .same rfl
 have hOw:Old W w1:=hO0.trans ((Old.nx nV).trans hO1)
 have cO:∀ w2,Old w1 w2→∀ i v,(d.cellsA r)[i]?=some v→w2.cell? ⟨w0.heap.size,i,none⟩=some v:=fun w2 o i v h=>((hO1.trans o).cell ⟨w0.heap.size,i,none⟩ (by show w0.heap.size<_;omega)).trans (cV _ nVV i v h)
 have hBl:w0.heap.size<w1.heap.size:=Nat.lt_of_lt_of_le (by omega) hO1.size
 clear hw1
 obtain⟨ah,caph,eh⟩:=hd.holders.cases
 rw [List.length_map] at eh
 obtain⟨c0,c1,c2,c3,c4,c5,c6,c7,c8,c9,c10,c11,c12,c13⟩:=zaS (cO w1 (Old.refl _))
 have CH:=Lib.hid (show ∀ w2,Old w1 w2→w2.cell? ⟨w0.heap.size,0,none⟩=some (.slice ah d.holders.length caph) from fun w2 o=>(cO w2 o 0 r.h rfl).trans (by rw [eh]))
 have CO:=Lib.hid cO
 have HD:=Lib.hid hd
 have HG:=Lib.hid hg
 have HU:=Lib.hid (fun w2 (o:Old w1 w2)=>hu.old (hOw.trans o))
 have HV:=Lib.hid (fun w2 (o:Old w1 w2)=>hv.old (hOw.trans o))
 have HPS:=Lib.hid (fun w2 (o:Old w1 w2)=>hps.old (hOw.trans o))
 have HPB:=Lib.hid (And.intro hpb hpl)
 have HBL:=Lib.hid hBl
 have k5:=toFG 4 (m:=0) (zlS d r 0 0 (.slice none 0 0) [] w1 (hd.old hOw) hb ⟨0,.inl ⟨rfl,rfl⟩⟩ (Nat.zero_le _))
 clear cO cV hd hg hV nV eh hu hv hps hpb hpl hBl
 simp only [sz1,yaz,yax,yaw,yav,yau,yat,yas,ycr,ycq,ycp,yco,ycn,ycm,ycl,yck,yb8,yai,seqL,seqR,Tryd.f4]
 cases hgr:zbG d 0 with
 | true =>
  rw [show ([]:List (List Value)).length=0 from rfl,hgr] at k5
  gi_wp2_with (first
   | (gi_at_call 5;refine CallsIn.mono k5 ?_;rintro e w2 ⟨rfl,x2⟩)
   | gi_in)
  all_goals (first | exact absurd ‹some zu=some (Value.bool _)› (by unfold zu;simp) | skip)
  first | exact⟨hOw.trans (.nx x2),rfl,.inl rfl⟩ | exact⟨hOw.trans (.nx x2),rfl,rfl⟩
 | false =>
 rw [show ([]:List (List Value)).length=0 from rfl,hgr] at k5
 have hs:=zgU hgr
 have k6:=Lib.hid (fun w2 (o:Old w1 w2)=>toFG 4 (m:=0) (zgI d r w2 (HD.out.old (hOw.trans o)) hs))
 clear hgr
 rcases (Decidable.em (zaF d=0)).symm with hc | hc
 ·have b1:(zaF d != 0)=true:=by simpa using hc
  generalize zaF d=g at *
  gi_wp2_with (first
   | (gi_at_call 5;refine CallsIn.mono k5 ?_;rintro e w2 ⟨rfl,x2⟩;clear c0 c1 c2 c3 c4 c5 c6 c7 c8 c9 c10 c11 c12 c13;obtain⟨c0,c1,c2,c3,c4,c5,c6,c7,c8,c9,c10,c11,c12,c13⟩:=zaS (CO.out w2 (.nx x2));have kk:=k6.out w2 (.nx x2))
   | (gi_at_call 6;refine CallsIn.mono kk ?_;rintro e w3 ⟨rfl,x3⟩)
   | gi_in)
  all_goals (first | exact absurd ‹some zu=some (Value.bool _)› (by unfold zu;simp) | skip)
  first | exact⟨hOw.trans (.trans (.nx x2) (.nx x3)),rfl,.inl rfl⟩ | exact⟨hOw.trans (.trans (.nx x2) (.nx x3)),rfl,rfl⟩
 have HC:=Lib.hid hc
 rw [hc] at k6
 clear hc
 by_cases hz0:d.holders.length=0
 ·have b2:((d.holders.length:Int) == 0)=true:=by simp [hz0]
  clear hz0
  gi_wp2_with (first
   | (gi_at_call 5;refine CallsIn.mono k5 ?_;rintro e w2 ⟨rfl,x2⟩;clear c0 c1 c2 c3 c4 c5 c6 c7 c8 c9 c10 c11 c12 c13;obtain⟨c0,c1,c2,c3,c4,c5,c6,c7,c8,c9,c10,c11,c12,c13⟩:=zaS (CO.out w2 (.nx x2));have kk:=k6.out w2 (.nx x2))
   | (gi_at_call 6;refine CallsIn.mono kk ?_;rintro e w3 ⟨rfl,x3⟩;clear c0 c1 c2 c3 c4 c5 c6 c7 c8 c9 c10 c11 c12 c13;have ch:=CH.out w3 (.trans (.nx x2) (.nx x3)))
   | gi_in)
  all_goals (first | exact absurd ‹some zu=some (Value.bool _)› (by unfold zu;simp) | skip)
  first | exact⟨hOw.trans (.trans (.nx x2) (.nx x3)),rfl,.inl rfl⟩ | exact⟨hOw.trans (.trans (.nx x2) (.nx x3)),rfl,rfl⟩
 have b2:((d.holders.length:Int) == 0)=false:=beq_false_of_ne (by omega)
 have HZ:=Lib.hid (show 0<d.holders.length by omega)
 clear hz0
 by_cases hl40:l.length > 40
 ·have b3:decide ((l.length:Int) > 40)=true:=decide_eq_true (by omega)
  clear hl40
  gi_wp2_with (first
   | (gi_at_call 5;refine CallsIn.mono k5 ?_;rintro e w2 ⟨rfl,x2⟩;clear c0 c1 c2 c3 c4 c5 c6 c7 c8 c9 c10 c11 c12 c13;obtain⟨c0,c1,c2,c3,c4,c5,c6,c7,c8,c9,c10,c11,c12,c13⟩:=zaS (CO.out w2 (.nx x2));have kk:=k6.out w2 (.nx x2))
   | (gi_at_call 6;refine CallsIn.mono kk ?_;rintro e w3 ⟨rfl,x3⟩;clear c0 c1 c2 c3 c4 c5 c6 c7 c8 c9 c10 c11 c12 c13;have ch:=CH.out w3 (.trans (.nx x2) (.nx x3)))
   | gi_in)
  all_goals (first | exact absurd ‹some zu=some (Value.bool _)› (by unfold zu;simp) | skip)
  first | exact⟨hOw.trans (.trans (.nx x2) (.nx x3)),rfl,.inl rfl⟩ | exact⟨hOw.trans (.trans (.nx x2) (.nx x3)),rfl,rfl⟩
 have b3:decide ((l.length:Int) > 40)=false:=decide_eq_false (by omega)
 have HL40:=Lib.hid hl40
 by_cases hs100:s.length > 100
 ·have b4:decide ((s.length:Int) > 100)=true:=decide_eq_true (by omega)
  clear hs100 hl40
  gi_wp2_with (first
   | (gi_at_call 5;refine CallsIn.mono k5 ?_;rintro e w2 ⟨rfl,x2⟩;clear c0 c1 c2 c3 c4 c5 c6 c7 c8 c9 c10 c11 c12 c13;obtain⟨c0,c1,c2,c3,c4,c5,c6,c7,c8,c9,c10,c11,c12,c13⟩:=zaS (CO.out w2 (.nx x2));have kk:=k6.out w2 (.nx x2))
   | (gi_at_call 6;refine CallsIn.mono kk ?_;rintro e w3 ⟨rfl,x3⟩;clear c0 c1 c2 c3 c4 c5 c6 c7 c8 c9 c10 c11 c12 c13;have ch:=CH.out w3 (.trans (.nx x2) (.nx x3)))
   | gi_in)
  all_goals (first | exact absurd ‹some zu=some (Value.bool _)› (by unfold zu;simp) | skip)
  first | exact⟨hOw.trans (.trans (.nx x2) (.nx x3)),rfl,.inl rfl⟩ | exact⟨hOw.trans (.trans (.nx x2) (.nx x3)),rfl,rfl⟩
 have b4:decide ((s.length:Int) > 100)=false:=decide_eq_false (by omega)
 have HS100:=Lib.hid hs100
 have K12:=Lib.hid (fun w2 (o:Old w1 w2)=>toFG 4 (m:=0) (ycw _ _ l s w2 (HU.out w2 o) (HV.out w2 o) (by omega) (by omega)))
 clear hs100 hl40
 rcases (Decidable.em (yae l s=0)).symm with hsz | hsz
 ·have b5:(yae l s != 0)=true:=by simpa using hsz
  generalize yae l s=g at *
  gi_wp2_with (first
   | (gi_at_call 5;refine CallsIn.mono k5 ?_;rintro e w2 ⟨rfl,x2⟩;clear c0 c1 c2 c3 c4 c5 c6 c7 c8 c9 c10 c11 c12 c13;obtain⟨c0,c1,c2,c3,c4,c5,c6,c7,c8,c9,c10,c11,c12,c13⟩:=zaS (CO.out w2 (.nx x2));have kk:=k6.out w2 (.nx x2))
   | (gi_at_call 6;refine CallsIn.mono kk ?_;rintro e w3 ⟨rfl,x3⟩;clear c0 c1 c2 c3 c4 c5 c6 c7 c8 c9 c10 c11 c12 c13;have ch:=CH.out w3 (.trans (.nx x2) (.nx x3));have k12:=K12.out w3 (.trans (.nx x2) (.nx x3)))
   | (gi_at_call 12;refine CallsIn.mono k12 ?_;rintro e w4 ⟨rfl,x4⟩)
   | gi_in)
  all_goals (first | exact absurd ‹some zu=some (Value.bool _)› (by unfold zu;simp) | skip)
  first | exact⟨hOw.trans (.trans (.nx x2) (.trans (.nx x3) (.nx x4))),rfl,.inl rfl⟩ | exact⟨hOw.trans (.trans (.nx x2) (.trans (.nx x3) (.nx x4))),rfl,rfl⟩
 have HSZ:=Lib.hid hsz
 rw [hsz] at K12
 clear hsz
 gi_wp2_with (first
  | (gi_at_call 5;refine CallsIn.mono k5 ?_;rintro e w2 ⟨rfl,x2⟩;clear c0 c1 c2 c3 c4 c5 c6 c7 c8 c9 c10 c11 c12 c13;obtain⟨c0,c1,c2,c3,c4,c5,c6,c7,c8,c9,c10,c11,c12,c13⟩:=zaS (CO.out w2 (.nx x2));have kk:=k6.out w2 (.nx x2))
  | (gi_at_call 6;refine CallsIn.mono kk ?_;rintro e w3 ⟨rfl,x3⟩;clear c0 c1 c2 c3 c4 c5 c6 c7 c8 c9 c10 c11 c12 c13;have ch:=CH.out w3 (.trans (.nx x2) (.nx x3));have k12:=K12.out w3 (.trans (.nx x2) (.nx x3)))
  | (gi_at_call 12;refine CallsIn.mono k12 ?_;rintro e w4 ⟨rfl,x4⟩)
  | gi_in)
 all_goals (first | exact absurd ‹some zu=some (Value.bool _)› (by unfold zu;simp) | skip)
 have oB:Old w1 w4:=(.trans (.nx x2) (.trans (.nx x3) (.nx x4)))
 refine⟨hOw.trans oB,rfl,.inr ⟨rfl,?_⟩⟩
 clear k5 k6 kk ch b2 b3 b4 k12 K12
 obtain⟨hl3,hs20,hsk⟩:=ybs HSZ.out
 refine yak (l1:=[sz3,sz4]) (l2:=[sz9,ye0,ye1,sz13,yey,yeo,yep,yeq,yer,yes,yet,yeu]) (yb9 s d x y z pr pv ps av capv w0.heap.size w4 (HPS.out w4 oB) HPB.out.1 HPB.out.2 (HV.out w4 oB) (by omega) hsk) ?_
 rintro t5 w5 ⟨o5,bs,vo,hbl,hbo,hown,f5,rfl⟩
 have oW5:=oB.trans o5
 have hsb:=yem (fun y hy=>by obtain⟨q,_,rfl⟩:=List.mem_map.1 hy;rfl) (List.length_map ..) hown
 obtain⟨ab,capb,rfl⟩:=hsb.cases
 rw [List.length_map,hbl] at hsb
 rw [List.length_map,hbl]
 refine yak (l1:=[sz9,ye0,ye1]) (l2:=[sz13,yey,yeo,yep,yeq,yer,yes,yet,yeu]) (yca l s bs x y z pr pv al av ab capl capv capb w0.heap.size w5 (by have:=HL40.out;omega) (by have:=HS100.out;omega) (HU.out w5 oW5) (HV.out w5 oW5) hsb hbl hbo HSZ.out) ?_
 rintro t6 w6 ⟨o6,ga,gb,hga,hgb,f6,rfl⟩
 have oW6:=oW5.trans o6
 refine yak (l1:=[sz13,yey]) (l2:=[yeo,yep,yeq,yer,yes,yet,yeu]) (ycb d r w0.heap.size w6 (HD.out.old (hOw.trans oW6)) (CO.out w6 oW6) (by have:=oW6.size;have:=HBL.out;omega)) ?_
 rintro t7 w7 ⟨o7,P,Q,⟨hP,hQ,hPQ,gP,gQ⟩,f7,rfl⟩
 have hO:=zco HC.out
 have hm:∀ k:Nat,k % (l.length+1)<l.length+1:=fun k=>Nat.mod_lt _ (by omega)
 have hat:∀ (sx:List (Int×Int)) (k:Nat) (y:Int×Int),(ya5 l sx)[k % (l.length+1)]?=some y→y.1=yam (ybl l (k % (l.length+1))) sx:=by
  intro sx k y hy
  unfold ya5 at hy
  rw [List.getElem?_map,List.getElem?_range (hm k)] at hy
  cases hy
  rfl
 have hsl:∀ sx:List (Int×Int),(ya5 l sx).length=l.length+1:=fun sx=>by simp [ya5]
 have hfg:∀ k:Nat,yam (ybl l (k % (l.length+1))) s≤yam (ybl l (k % (l.length+1))) bs:=fun k=>yea hbl.symm hbo _
 have hfb:∀ k:Nat,0≤yam (ybl l (k % (l.length+1))) s∧yam (ybl l (k % (l.length+1))) s≤10000:=fun k=>by have:=ybr (ybl l (k % (l.length+1))) s;omega
 have hgb2:∀ k:Nat,0≤yam (ybl l (k % (l.length+1))) bs∧yam (ybl l (k % (l.length+1))) bs≤(s.length:Int):=fun k=>by have:=ybr (ybl l (k % (l.length+1))) bs;omega
 refine yak (l1:=[yeo]) (l2:=[yep,yeq,yer,yes,yet,yeu]) (ydl d r (fun k=>yam (ybl l (k % (l.length+1))) s) (fun k=>yam (ybl l (k % (l.length+1))) bs) (ya5 l s) (ya5 l bs) av w0.heap.size P Q ga gb l.length s.length capv w6 w7 o7 (HD.out.old (hOw.trans oW6)) (CO.out w6 oW6) (by have:=oW6.size;have:=HBL.out;omega) hP hQ hPQ gP gQ hga hgb
  (hsl _) (hsl _) (hat s) (hat bs) hfg (fun k=>(hfb k).1) (fun k=>(hgb2 k).2) (by omega) (by have:=hO.p8;omega)) ?_
 rintro t8 w8 ⟨vp,vq,hL,f8,rfl⟩
 have o8:Old w6 w8:=hL.old o7 hP hQ
 have oW8:=oW6.trans o8
 have hd8:=HD.out.old (hOw.trans oW8)
 have hkp:=hL.kk.op
 have hkq:=hL.kk.oq
 rw [ybi (Nat.le_refl _)] at hkp hkq
 have hPl:P<w8.heap.size:=lt_of_some hL.hP
 have hQl:Q<w8.heap.size:=lt_of_some hL.hQ
 exact ydj d r { r with p:=vp } { r with p:=vq } (fun k=>yam (ybl l (k % (l.length+1))) s) (fun k=>yam (ybl l (k % (l.length+1))) bs) x y z pr w0.heap.size P Q W w8 (hOw.trans oW8) hd8 (ycg hd8 hkp) (ycg hd8 hkq) (ycf hs _) (ycf hs _) (HG.out.old (hOw.trans oW8)) HC.out hfb (fun k=>⟨(hgb2 k).1,by have:=(hgb2 k).2;omega⟩) hfg (by have:=HZ.out;omega) (CO.out w8 oW8)
  (ych hL.hP) (ych hL.hQ) (by have:=oW8.size;have:=HBL.out;omega) hPl hQl hx hy hz hpr
end Go.Proofs.YtbbanmifdbeneaaDoor

namespace Go.Proofs.YtbbanmifdbeneaaDoor
open Go.RowKit Go.Con Go.Conc
local instance pnI18:Lone:=zcG
theorem ydc (v:Value) (t:Array Value) (h:t[16]?=some v) (σ:Rn):ResultsC Tryd.prog Tryd.f4 (t.map (ren σ)) (ren σ v):=by
 have:=resultsC_tmp (P:=Tryd.prog) (fn:=Tryd.f4) (t:=16) rfl (t.map (ren σ))
 simp only [Array.getD_eq_getD_getElem?,Array.getElem?_map,h,Option.map_some,Option.getD_some] at this
 exact this
theorem yel (E Fz Arg:Nat→Prop) (W0:World) (hArg:∀ x,Arg x↔x<W0.heap.size) (Post:Value→World→Prop) (φ:Ph) (d:Dit) (r:zaR) (l:List Int) (s:List (Int×Int)) (x y z pr:Int) (u v pv:Value) (ps:List Int) (W:World) (hd:DitSl W d r) (hb:d.Big) (hg:Glob W) (hx:0≤x∧x≤255) (hy:0≤y∧y≤4294967295) (hz:0≤z∧z≤4294967295) (hpr:0≤pr∧pr≤65535) (hu:Sl W u 1 (l.map fun x=>[num x])) (hv:Sl W v 2 (s.map two)) (hul:l.length≤281474976710656) (hvl:s.length≤281474976710656) (hps:Sl W pv 1 (ps.map fun x=>[Value.int .u16 x])) (hpb:∀ x∈ps,0≤x∧x≤65535) (hpl:ps.length≤281474976710656)
  (hPost:∀ Fz1 ρ D own A fr W1 W',Here Tryd.prog true E Fz1 Arg W0 ρ D own A fr [] W1 W'→Post (ren ρ (.bool true)) W') :
  GoM Tryd.prog true E Fz Arg W0 (AtEnd Tryd.prog Post) φ [] (Fr 4 #[d.val r,u,v,.int .u8 x,.int .u32 y,.int .u32 z,.int .u16 pr,pv,zu,zu,zu,zu,zu,zu,zu,zu,zu,zu,zu,zu,zu,zu,zu,zu,zu,zu,zu,zu,zu,zu,zu,zu,zu,zu,zu,zu,zu,zu,zu,zu,zu,zu,zu,zu,zu,zu,zu,zu,zu,zu,zu,zu,zu,zu,zu,zu,zu,zu,zu,zu,zu,zu,zu,zu,zu,zu,zu,zu,zu,zu,zu,zu,zu,zu,zu,zu,zu,zu,zu,zu,zu,zu,zu,zu,zu,zu,zu,zu,zu,zu,zu,zu,zu,zu,zu,zu,zu,zu,zu,zu,zu,zu,zu,zu,zu,zu,zu,zu,zu,zu,zu,zu,zu,zu,zu,zu,zu,zu,zu,zu,zu,zu,zu,zu,zu,zu,zu,zu,zu,zu,zu,zu,zu,zu,zu,zu,zu,zu,zu,zu,zu,zu,zu,zu,zu,zu,zu,zu,zu,zu,zu,zu,zu,zu,zu,zu,zu,zu,zu,zu,zu,zu,zu,zu,zu,zu,zu,zu,zu,zu,zu,zu,zu,zu,zu,zu,zu,zu,zu,zu,zu,zu,zu,zu,zu,zu,zu,zu,zu,zu,zu,zu,zu,zu,zu,zu,zu,zu,zu,zu,zu,zu,zu,zu,zu,zu,zu,zu,zu,zu,zu,zu,zu,zu,zu,zu,zu,zu,zu,zu,zu,zu,zu,zu,zu,zu,zu,zu,zu,zu,zu,zu,zu,zu,zu,zu,zu,zu,zu,zu,zu,zu,zu,zu,zu,zu,zu,zu,zu,zu,zu,zu,zu,zu,zu,zu,zu,zu,zu,zu,zu,zu,zu,zu,zu,zu,zu,zu,zu,zu,zu,zu,zu,zu,zu,zu,zu,zu,zu,zu,zu,zu,zu,zu] [.code yai]) [] W:=by
 have hgood:zaL Tryd.prog (.func 4)=false:=by kernel_rfl
 have hL:=ydm d r l s x y z pr u v pv ps W hd hb hg hx hy hz hpr hu hv hul hvl hps hpb hpl
 rw [yec]
 refine Gm.seq ?_
 refine Gm.lone (F:=FG 4) _ rfl rfl rfl (List.mem_cons_self ..) (zdr 4 hgood) (by kernel_rfl) (by kernel_rfl) hL ?_
 clear hL
 intro t0 V0 hL
 refine Gm.seq (Gm.seq ?_)
 refine Gm.lone (F:=FG 4) _ rfl rfl rfl (List.mem_cons_self ..) (zdr 4 hgood) (by kernel_rfl) (by kernel_rfl) hL ?_
 clear hL
 rintro t W1 ⟨hO1,hs,h69 | ⟨h69,hL⟩⟩
 ·refine Gm.cond (b:=true) (zaf h69) rfl ?_
  refine Gm.seq ?_
  rw [ye2]
  refine Gm.region ?_
  rw [show List.range opsz2.size=[0,1] by kernel_rfl]
  refine Gm.enter (o:=⟨some 70,.call { callee:=.value (.func 7),args:=#[],argTypes:=#[] },_,_,_,none⟩) (c:={ callee:=.value (.func 7),args:=#[],argTypes:=#[] }) rfl rfl rfl rfl (by kernel_rfl) Tryd.func7 ziv (by kernel_rfl) ?_
  rw [fr20]
  refine zka E _ Arg W0 hArg _ _ _ _ _ (hg.old hO1) ?_
  intro WL FzL φL hOL
  rw [zbs (o:=⟨some 70,.call { callee:=.value (.func 7),args:=#[],argTypes:=#[] },_,_,_,none⟩) rfl]
  refine Gm.op (o:=⟨some 16,.assign (.tmp 70),_,_,_,none⟩) (.bool true) WL rfl rfl (by kernel_rfl) rfl (zl7 _ (zaf (by simp only [zaC,zay,zax,hs,ne_eq,Nat.reduceEqDiff,not_false_eq_true,Nat.reduceLT]))) id ?_
  refine Gm.regionEnd ?_
  refine Gm.done Tryd.func4 (by kernel_rfl) (ydc (.bool true) _ (by simp only [zaC,zay,zax,hs,ne_eq,Nat.reduceEqDiff,not_false_eq_true,Nat.reduceLT])) ?_
  exact fun ρ D own A fr W' h=>hPost _ ρ D own A fr _ W' h
 ·refine Gm.cond (b:=false) (zaf h69) rfl ?_
  refine Gm.skip ?_
  refine Gm.seq ?_
  refine Gm.lone (F:=FG 4) _ rfl rfl rfl (List.mem_cons_self ..) (zdr 4 hgood) (by kernel_rfl) (by kernel_rfl) hL ?_
  clear hL
  intro t3 V3 hL
  refine Gm.seq ?_
  refine Gm.lone (F:=FG 4) _ rfl rfl rfl (List.mem_cons_self ..) (zdr 4 hgood) (by kernel_rfl) (by kernel_rfl) hL ?_
  clear hL
  intro t4 V4 hL
  refine Gm.seq ?_
  refine Gm.lone (F:=FG 4) _ rfl rfl rfl (List.mem_cons_self ..) (zdr 4 hgood) (by kernel_rfl) (by kernel_rfl) hL ?_
  clear hL
  intro t9 V9 hL
  refine Gm.seq ?_
  refine Gm.lone (F:=FG 4) _ rfl rfl rfl (List.mem_cons_self ..) (zdr 4 hgood) (by kernel_rfl) (by kernel_rfl) hL ?_
  clear hL
  intro t10 V10 hL
  refine Gm.seq ?_
  refine Gm.lone (F:=FG 4) _ rfl rfl rfl (List.mem_cons_self ..) (zdr 4 hgood) (by kernel_rfl) (by kernel_rfl) hL ?_
  clear hL
  intro t11 V11 hL
  refine Gm.seq ?_
  refine Gm.lone (F:=FG 4) _ rfl rfl rfl (List.mem_cons_self ..) (zdr 4 hgood) (by kernel_rfl) (by kernel_rfl) hL ?_
  clear hL
  intro t13 V13 hL
  refine Gm.seq ?_
  refine Gm.lone (F:=FG 4) _ rfl rfl rfl (List.mem_cons_self ..) (zdr 4 hgood) (by kernel_rfl) (by kernel_rfl) hL ?_
  clear hL
  intro t14 V14 hL
  refine Gm.seq ?_
  refine Gm.lone (F:=FG 4) _ rfl rfl rfl (List.mem_cons_self ..) (zdr 4 hgood) (by kernel_rfl) (by kernel_rfl) hL ?_
  clear hL
  intro t15 V15 hL
  refine Gm.seq ?_
  refine Gm.lone (F:=FG 4) _ rfl rfl rfl (List.mem_cons_self ..) (zdr 4 hgood) (by kernel_rfl) (by kernel_rfl) hL ?_
  clear hL
  intro t23 V23 hL
  refine Gm.seq ?_
  refine Gm.lone (F:=FG 4) _ rfl rfl rfl (List.mem_cons_self ..) (zdr 4 hgood) (by kernel_rfl) (by kernel_rfl) hL ?_
  clear hL
  intro t24 V24 hL
  refine Gm.seq ?_
  refine Gm.lone (F:=FG 4) _ rfl rfl rfl (List.mem_cons_self ..) (zdr 4 hgood) (by kernel_rfl) (by kernel_rfl) hL ?_
  clear hL
  intro t25 V25 hL
  refine Gm.seq ?_
  refine Gm.lone (F:=FG 4) _ rfl rfl rfl (List.mem_cons_self ..) (zdr 4 hgood) (by kernel_rfl) (by kernel_rfl) hL ?_
  clear hL
  intro t26 V26 hL
  refine Gm.seq ?_
  refine Gm.lone (F:=FG 4) _ rfl rfl rfl (List.mem_cons_self ..) (zdr 4 hgood) (by kernel_rfl) (by kernel_rfl) hL ?_
  clear hL
  intro t27 V27 hL
  refine Gm.seq ?_
  refine Gm.lone (F:=FG 4) _ rfl rfl rfl (List.mem_cons_self ..) (zdr 4 hgood) (by kernel_rfl) (by kernel_rfl) hL ?_
  clear hL
  clear hO1 hs h69
  rintro t W2 ⟨hO2,wa,va,na,ma,⟨q1,q2⟩,hs,k21,k23,k37,k39,k33,k35,k36,k38⟩
  refine Gm.seq ?_
  rw [yez]
  refine Gm.region ?_
  rw [show List.range opsz29.size=[0,1,2,3,4,5,6,7,8,9,10,11,12,13,14,15,16,17,18,19,20,21,22,23,24,25,26,27] by kernel_rfl]
  refine Gm.op (o:=⟨some 257,.move (.tmp 21),_,_,_,none⟩) (num 0) W2 rfl rfl (by kernel_rfl) rfl (zdB _ (zaf (by simp only [zaC,zay,zax,hs,k21,k23,k37,k39,k33,k35,k36,k38,ne_eq,Nat.reduceEqDiff,not_false_eq_true,Nat.reduceLT]))) id ?_
  refine Gm.op (o:=⟨some 258,.binOp .eql 38 (.tmp 257) (.const (.int .i64 0)) 38,_,_,_,none⟩) (.bool true) W2 rfl rfl (by kernel_rfl) rfl (yao (n:=0) _ (zaf (by simp only [zaC,zay,zax,hs,k21,k23,k37,k39,k33,k35,k36,k38,ne_eq,Nat.reduceEqDiff,not_false_eq_true,Nat.reduceLT])) rfl) id ?_
  refine Gm.op (o:=⟨some 259,.move (.tmp 258),_,_,_,none⟩) (.bool true) W2 rfl rfl (by kernel_rfl) rfl (zdB _ (zaf (by simp only [zaC,zay,zax,hs,k21,k23,k37,k39,k33,k35,k36,k38,ne_eq,Nat.reduceEqDiff,not_false_eq_true,Nat.reduceLT]))) id ?_
  refine Gm.op (o:=⟨some 260,.move (.tmp 23),_,_,_,some (2,true)⟩) (num 0) W2 rfl (zbI (i:=2) (b:=true) (d:=259) rfl rfl (by simp only [zaC,zay,zax,hs,k21,k23,k37,k39,k33,k35,k36,k38,ne_eq,Nat.reduceEqDiff,not_false_eq_true,Nat.reduceLT])) (by kernel_rfl) rfl (zdB _ (zaf (by simp only [zaC,zay,zax,hs,k21,k23,k37,k39,k33,k35,k36,k38,ne_eq,Nat.reduceEqDiff,not_false_eq_true,Nat.reduceLT]))) id ?_
  refine Gm.op (o:=⟨some 261,.binOp .eql 38 (.tmp 260) (.const (.int .i64 0)) 38,_,_,_,some (2,true)⟩) (.bool true) W2 rfl (zbI (i:=2) (b:=true) (d:=259) rfl rfl (by simp only [zaC,zay,zax,hs,k21,k23,k37,k39,k33,k35,k36,k38,ne_eq,Nat.reduceEqDiff,not_false_eq_true,Nat.reduceLT])) (by kernel_rfl) rfl (yao (n:=0) _ (zaf (by simp only [zaC,zay,zax,hs,k21,k23,k37,k39,k33,k35,k36,k38,ne_eq,Nat.reduceEqDiff,not_false_eq_true,Nat.reduceLT])) rfl) id ?_
  refine Gm.op (o:=⟨some 262,.pick (.tmp 259) (.tmp 261) (.const (.bool false)),_,_,_,none⟩) (.bool true) W2 rfl rfl (by kernel_rfl) rfl (zhJ _ (zaf (by simp only [zaC,zay,zax,hs,k21,k23,k37,k39,k33,k35,k36,k38,ne_eq,Nat.reduceEqDiff,not_false_eq_true,Nat.reduceLT])) (zaf (by simp only [zaC,zay,zax,hs,k21,k23,k37,k39,k33,k35,k36,k38,ne_eq,Nat.reduceEqDiff,not_false_eq_true,Nat.reduceLT]))) id ?_
  refine Gm.op (o:=⟨some 263,.move (.tmp 262),_,_,_,none⟩) (.bool true) W2 rfl rfl (by kernel_rfl) rfl (zdB _ (zaf (by simp only [zaC,zay,zax,hs,k21,k23,k37,k39,k33,k35,k36,k38,ne_eq,Nat.reduceEqDiff,not_false_eq_true,Nat.reduceLT]))) id ?_
  refine Gm.op (o:=⟨some 264,.move (.tmp 37),_,_,_,some (6,true)⟩) (num 0) W2 rfl (zbI (i:=6) (b:=true) (d:=263) rfl rfl (by simp only [zaC,zay,zax,hs,k21,k23,k37,k39,k33,k35,k36,k38,ne_eq,Nat.reduceEqDiff,not_false_eq_true,Nat.reduceLT])) (by kernel_rfl) rfl (zdB _ (zaf (by simp only [zaC,zay,zax,hs,k21,k23,k37,k39,k33,k35,k36,k38,ne_eq,Nat.reduceEqDiff,not_false_eq_true,Nat.reduceLT]))) id ?_
  refine Gm.op (o:=⟨some 265,.binOp .eql 38 (.tmp 264) (.const (.int .i64 0)) 38,_,_,_,some (6,true)⟩) (.bool true) W2 rfl (zbI (i:=6) (b:=true) (d:=263) rfl rfl (by simp only [zaC,zay,zax,hs,k21,k23,k37,k39,k33,k35,k36,k38,ne_eq,Nat.reduceEqDiff,not_false_eq_true,Nat.reduceLT])) (by kernel_rfl) rfl (yao (n:=0) _ (zaf (by simp only [zaC,zay,zax,hs,k21,k23,k37,k39,k33,k35,k36,k38,ne_eq,Nat.reduceEqDiff,not_false_eq_true,Nat.reduceLT])) rfl) id ?_
  refine Gm.op (o:=⟨some 266,.pick (.tmp 263) (.tmp 265) (.const (.bool false)),_,_,_,none⟩) (.bool true) W2 rfl rfl (by kernel_rfl) rfl (zhJ _ (zaf (by simp only [zaC,zay,zax,hs,k21,k23,k37,k39,k33,k35,k36,k38,ne_eq,Nat.reduceEqDiff,not_false_eq_true,Nat.reduceLT])) (zaf (by simp only [zaC,zay,zax,hs,k21,k23,k37,k39,k33,k35,k36,k38,ne_eq,Nat.reduceEqDiff,not_false_eq_true,Nat.reduceLT]))) id ?_
  refine Gm.op (o:=⟨some 267,.move (.tmp 266),_,_,_,none⟩) (.bool true) W2 rfl rfl (by kernel_rfl) rfl (zdB _ (zaf (by simp only [zaC,zay,zax,hs,k21,k23,k37,k39,k33,k35,k36,k38,ne_eq,Nat.reduceEqDiff,not_false_eq_true,Nat.reduceLT]))) id ?_
  refine Gm.op (o:=⟨some 268,.move (.tmp 39),_,_,_,some (10,true)⟩) (num 0) W2 rfl (zbI (i:=10) (b:=true) (d:=267) rfl rfl (by simp only [zaC,zay,zax,hs,k21,k23,k37,k39,k33,k35,k36,k38,ne_eq,Nat.reduceEqDiff,not_false_eq_true,Nat.reduceLT])) (by kernel_rfl) rfl (zdB _ (zaf (by simp only [zaC,zay,zax,hs,k21,k23,k37,k39,k33,k35,k36,k38,ne_eq,Nat.reduceEqDiff,not_false_eq_true,Nat.reduceLT]))) id ?_
  refine Gm.op (o:=⟨some 269,.binOp .eql 38 (.tmp 268) (.const (.int .i64 0)) 38,_,_,_,some (10,true)⟩) (.bool true) W2 rfl (zbI (i:=10) (b:=true) (d:=267) rfl rfl (by simp only [zaC,zay,zax,hs,k21,k23,k37,k39,k33,k35,k36,k38,ne_eq,Nat.reduceEqDiff,not_false_eq_true,Nat.reduceLT])) (by kernel_rfl) rfl (yao (n:=0) _ (zaf (by simp only [zaC,zay,zax,hs,k21,k23,k37,k39,k33,k35,k36,k38,ne_eq,Nat.reduceEqDiff,not_false_eq_true,Nat.reduceLT])) rfl) id ?_
  refine Gm.op (o:=⟨some 270,.pick (.tmp 267) (.tmp 269) (.const (.bool false)),_,_,_,none⟩) (.bool true) W2 rfl rfl (by kernel_rfl) rfl (zhJ _ (zaf (by simp only [zaC,zay,zax,hs,k21,k23,k37,k39,k33,k35,k36,k38,ne_eq,Nat.reduceEqDiff,not_false_eq_true,Nat.reduceLT])) (zaf (by simp only [zaC,zay,zax,hs,k21,k23,k37,k39,k33,k35,k36,k38,ne_eq,Nat.reduceEqDiff,not_false_eq_true,Nat.reduceLT]))) id ?_
  refine Gm.op (o:=⟨some 271,.move (.tmp 270),_,_,_,none⟩) (.bool true) W2 rfl rfl (by kernel_rfl) rfl (zdB _ (zaf (by simp only [zaC,zay,zax,hs,k21,k23,k37,k39,k33,k35,k36,k38,ne_eq,Nat.reduceEqDiff,not_false_eq_true,Nat.reduceLT]))) id ?_
  refine Gm.op (o:=⟨some 272,.move (.tmp 35),_,_,_,some (14,true)⟩) (num va) W2 rfl (zbI (i:=14) (b:=true) (d:=271) rfl rfl (by simp only [zaC,zay,zax,hs,k21,k23,k37,k39,k33,k35,k36,k38,ne_eq,Nat.reduceEqDiff,not_false_eq_true,Nat.reduceLT])) (by kernel_rfl) rfl (zdB _ (zaf (by simp only [zaC,zay,zax,hs,k21,k23,k37,k39,k33,k35,k36,k38,ne_eq,Nat.reduceEqDiff,not_false_eq_true,Nat.reduceLT]))) id ?_
  refine Gm.op (o:=⟨some 273,.move (.tmp 33),_,_,_,some (14,true)⟩) (num wa) W2 rfl (zbI (i:=14) (b:=true) (d:=271) rfl rfl (by simp only [zaC,zay,zax,hs,k21,k23,k37,k39,k33,k35,k36,k38,ne_eq,Nat.reduceEqDiff,not_false_eq_true,Nat.reduceLT])) (by kernel_rfl) rfl (zdB _ (zaf (by simp only [zaC,zay,zax,hs,k21,k23,k37,k39,k33,k35,k36,k38,ne_eq,Nat.reduceEqDiff,not_false_eq_true,Nat.reduceLT]))) id ?_
  refine Gm.op (o:=⟨some 274,.binOp .geq 3 (.tmp 272) (.tmp 273) 3,_,_,_,some (14,true)⟩) (.bool true) W2 rfl (zbI (i:=14) (b:=true) (d:=271) rfl rfl (by simp only [zaC,zay,zax,hs,k21,k23,k37,k39,k33,k35,k36,k38,ne_eq,Nat.reduceEqDiff,not_false_eq_true,Nat.reduceLT])) (by kernel_rfl) rfl (ydb (n:=va) (m:=wa) _ (zaf (by simp only [zaC,zay,zax,hs,k21,k23,k37,k39,k33,k35,k36,k38,ne_eq,Nat.reduceEqDiff,not_false_eq_true,Nat.reduceLT])) (zaf (by simp only [zaC,zay,zax,hs,k21,k23,k37,k39,k33,k35,k36,k38,ne_eq,Nat.reduceEqDiff,not_false_eq_true,Nat.reduceLT])) (by omega)) id ?_
  refine Gm.op (o:=⟨some 275,.pick (.tmp 271) (.tmp 274) (.const (.bool false)),_,_,_,none⟩) (.bool true) W2 rfl rfl (by kernel_rfl) rfl (zhJ _ (zaf (by simp only [zaC,zay,zax,hs,k21,k23,k37,k39,k33,k35,k36,k38,ne_eq,Nat.reduceEqDiff,not_false_eq_true,Nat.reduceLT])) (zaf (by simp only [zaC,zay,zax,hs,k21,k23,k37,k39,k33,k35,k36,k38,ne_eq,Nat.reduceEqDiff,not_false_eq_true,Nat.reduceLT]))) id ?_
  refine Gm.op (o:=⟨some 276,.move (.tmp 275),_,_,_,none⟩) (.bool true) W2 rfl rfl (by kernel_rfl) rfl (zdB _ (zaf (by simp only [zaC,zay,zax,hs,k21,k23,k37,k39,k33,k35,k36,k38,ne_eq,Nat.reduceEqDiff,not_false_eq_true,Nat.reduceLT]))) id ?_
  refine Gm.op (o:=⟨some 277,.move (.tmp 38),_,_,_,some (19,true)⟩) (num ma) W2 rfl (zbI (i:=19) (b:=true) (d:=276) rfl rfl (by simp only [zaC,zay,zax,hs,k21,k23,k37,k39,k33,k35,k36,k38,ne_eq,Nat.reduceEqDiff,not_false_eq_true,Nat.reduceLT])) (by kernel_rfl) rfl (zdB _ (zaf (by simp only [zaC,zay,zax,hs,k21,k23,k37,k39,k33,k35,k36,k38,ne_eq,Nat.reduceEqDiff,not_false_eq_true,Nat.reduceLT]))) id ?_
  refine Gm.op (o:=⟨some 278,.move (.tmp 36),_,_,_,some (19,true)⟩) (num na) W2 rfl (zbI (i:=19) (b:=true) (d:=276) rfl rfl (by simp only [zaC,zay,zax,hs,k21,k23,k37,k39,k33,k35,k36,k38,ne_eq,Nat.reduceEqDiff,not_false_eq_true,Nat.reduceLT])) (by kernel_rfl) rfl (zdB _ (zaf (by simp only [zaC,zay,zax,hs,k21,k23,k37,k39,k33,k35,k36,k38,ne_eq,Nat.reduceEqDiff,not_false_eq_true,Nat.reduceLT]))) id ?_
  refine Gm.op (o:=⟨some 279,.binOp .geq 3 (.tmp 277) (.tmp 278) 3,_,_,_,some (19,true)⟩) (.bool true) W2 rfl (zbI (i:=19) (b:=true) (d:=276) rfl rfl (by simp only [zaC,zay,zax,hs,k21,k23,k37,k39,k33,k35,k36,k38,ne_eq,Nat.reduceEqDiff,not_false_eq_true,Nat.reduceLT])) (by kernel_rfl) rfl (ydb (n:=ma) (m:=na) _ (zaf (by simp only [zaC,zay,zax,hs,k21,k23,k37,k39,k33,k35,k36,k38,ne_eq,Nat.reduceEqDiff,not_false_eq_true,Nat.reduceLT])) (zaf (by simp only [zaC,zay,zax,hs,k21,k23,k37,k39,k33,k35,k36,k38,ne_eq,Nat.reduceEqDiff,not_false_eq_true,Nat.reduceLT])) (by omega)) id ?_
  refine Gm.op (o:=⟨some 280,.pick (.tmp 276) (.tmp 279) (.const (.bool false)),_,_,_,none⟩) (.bool true) W2 rfl rfl (by kernel_rfl) rfl (zhJ _ (zaf (by simp only [zaC,zay,zax,hs,k21,k23,k37,k39,k33,k35,k36,k38,ne_eq,Nat.reduceEqDiff,not_false_eq_true,Nat.reduceLT])) (zaf (by simp only [zaC,zay,zax,hs,k21,k23,k37,k39,k33,k35,k36,k38,ne_eq,Nat.reduceEqDiff,not_false_eq_true,Nat.reduceLT]))) id ?_
  refine Gm.op (o:=⟨some 281,.move (.tmp 280),_,_,_,none⟩) (.bool true) W2 rfl rfl (by kernel_rfl) rfl (zdB _ (zaf (by simp only [zaC,zay,zax,hs,k21,k23,k37,k39,k33,k35,k36,k38,ne_eq,Nat.reduceEqDiff,not_false_eq_true,Nat.reduceLT]))) id ?_
  refine Gm.enter (o:=⟨some 282,.call { callee:=.value (.func 7),args:=#[],argTypes:=#[] },_,_,_,some (24,true)⟩) (c:={ callee:=.value (.func 7),args:=#[],argTypes:=#[] }) rfl (zbI (i:=24) (b:=true) (d:=281) rfl rfl (by simp only [zaC,zay,zax,hs,k21,k23,k37,k39,k33,k35,k36,k38,ne_eq,Nat.reduceEqDiff,not_false_eq_true,Nat.reduceLT])) rfl rfl (by kernel_rfl) Tryd.func7 ziv (by kernel_rfl) ?_
  rw [fr20]
  refine zka E _ Arg W0 hArg _ _ _ _ _ (hg.old hO2) ?_
  intro WL FzL φL hOL
  rw [zbs (o:=⟨some 282,.call { callee:=.value (.func 7),args:=#[],argTypes:=#[] },_,_,_,some (24,true)⟩) rfl]
  refine Gm.op (o:=⟨some 283,.pick (.tmp 281) (.tmp 282) (.const (.bool false)),_,_,_,none⟩) (.bool true) WL rfl rfl (by kernel_rfl) rfl (zhJ _ (zaf (by simp only [zaC,zay,zax,hs,k21,k23,k37,k39,k33,k35,k36,k38,ne_eq,Nat.reduceEqDiff,not_false_eq_true,Nat.reduceLT])) (zaf (by simp only [zaC,zay,zax,hs,k21,k23,k37,k39,k33,k35,k36,k38,ne_eq,Nat.reduceEqDiff,not_false_eq_true,Nat.reduceLT]))) id ?_
  refine Gm.op (o:=⟨some 16,.assign (.tmp 283),_,_,_,none⟩) (.bool true) WL rfl rfl (by kernel_rfl) rfl (zl7 _ (zaf (by simp only [zaC,zay,zax,hs,k21,k23,k37,k39,k33,k35,k36,k38,ne_eq,Nat.reduceEqDiff,not_false_eq_true,Nat.reduceLT]))) id ?_
  refine Gm.regionEnd ?_
  refine Gm.done Tryd.func4 (by kernel_rfl) (ydc (.bool true) _ (by simp only [zaC,zay,zax,hs,k21,k23,k37,k39,k33,k35,k36,k38,ne_eq,Nat.reduceEqDiff,not_false_eq_true,Nat.reduceLT])) ?_
  exact fun ρ D own A fr W' h=>hPost _ ρ D own A fr _ W' h
end Go.Proofs.YtbbanmifdbeneaaDoor

namespace Go.Proofs.YtbbanmifdbeneaaDoor
open Go.RowKit Go.Con Go.Conc Go.ChangeShapes Go.WideShapes Go.ChangeAt
local instance pnI19:Lone:=zcG
section
variable {H:Type} {enc:TypeId×Value→H} {W:World}
theorem ydd {α:Type} {en:α→List Value} {ok:α→Prop} {t e:TypeId} {v:Value} {dd:DataW H} {p:List MemPlace} {base:Nat} (ht:Tryd.prog.underlying t=some (.slice e)) (hbe:1≤Tryd.prog.bytesOf e)
  (hE:∀ n cs' y,zjo enc W n e cs'=some y→Fits e y.1→∃ z:α,cs'=en z∧ok z) (hv:Value.okWide Tryd.prog W .any base t v) (h:DataW.Trod enc Tryd.prog W 0 (fun _=>true) true t v dd p) (hfit:Fits t dd) :
  ∃ l:List α,(∃ a n k,v=.slice a n k)∧Sl W v (Tryd.prog.cellsOf e) (l.map en)∧Kind W v∧l.length≤281474976710656∧∀ x∈l,ok x:=by
 simp only [Value.okWide,ht] at hv
 have hs:∃ a n k,v=.slice a n k:=by
  have hv2:=hv
  cases v with
  | slice a n k=>exact⟨_,_,_,rfl⟩
  | _=>simp [Cell.okWide,ht,Cell.ok] at hv2
 obtain⟨a,n,k,rfl⟩:=hs
 obtain⟨fuel,hf⟩:=h
 simp only [Value.cells] at hf
 obtain⟨l,a1,a2,a3,a4,a5⟩:=zfb (en:=en) (ok:=ok) ht hbe hE hf hfit hv
 exact⟨l,⟨_,_,_,rfl⟩,a1,a3,Nat.le_trans a4 (by decide),a5⟩
end
section
variable {H:Type} {enc:TypeId×Value→H} {P:Program} {w:World} {base:Nat} {spare:Nat→Bool} {held:Bool}
theorem yby {t0 t1 t2 t3 t4 t5 t6 t7:TypeId} {args:Array Value} {ds:List (DataW H)} {ps:List MemPlace} (h:DataW.TrodAll enc P w base spare held [t0,t1,t2,t3,t4,t5,t6,t7] args.toList ds ps) :
  ∃ v0 v1 v2 v3 v4 v5 v6 v7 d0 d1 d2 d3 d4 d5 d6 d7 p0 p1 p2 p3 p4 p5 p6 p7,args=#[v0,v1,v2,v3,v4,v5,v6,v7]∧ds=[d0,d1,d2,d3,d4,d5,d6,d7]∧ps=p0++p1++p2++p3++p4++p5++p6++p7∧DataW.Trod enc P w base spare held t0 v0 d0 p0∧DataW.Trod enc P w base spare held t1 v1 d1 p1∧DataW.Trod enc P w base spare held t2 v2 d2 p2∧DataW.Trod enc P w base spare held t3 v3 d3 p3∧DataW.Trod enc P w base spare held t4 v4 d4 p4∧DataW.Trod enc P w base spare held t5 v5 d5 p5∧DataW.Trod enc P w base spare held t6 v6 d6 p6∧DataW.Trod enc P w base spare held t7 v7 d7 p7:=by
 obtain⟨v0,vs0,d0,ds0,p0,q0,hargs,rfl,rfl,hd0,hr0⟩:=trodAll_cons h
 obtain⟨v1,vs1,d1,ds1,p1,q1,rfl,rfl,rfl,hd1,hr1⟩:=trodAll_cons hr0
 obtain⟨v2,vs2,d2,ds2,p2,q2,rfl,rfl,rfl,hd2,hr2⟩:=trodAll_cons hr1
 obtain⟨v3,vs3,d3,ds3,p3,q3,rfl,rfl,rfl,hd3,hr3⟩:=trodAll_cons hr2
 obtain⟨v4,vs4,d4,ds4,p4,q4,rfl,rfl,rfl,hd4,hr4⟩:=trodAll_cons hr3
 obtain⟨v5,vs5,d5,ds5,p5,q5,rfl,rfl,rfl,hd5,hr5⟩:=trodAll_cons hr4
 obtain⟨v6,vs6,d6,ds6,p6,q6,rfl,rfl,rfl,hd6,hr6⟩:=trodAll_cons hr5
 obtain⟨v7,vs7,d7,ds7,p7,q7,rfl,rfl,rfl,hd7,hr7⟩:=trodAll_cons hr6
 obtain⟨rfl,rfl,rfl⟩:=trodAll_nil hr7
 exact⟨v0,v1,v2,v3,v4,v5,v6,v7,d0,d1,d2,d3,d4,d5,d6,d7,p0,p1,p2,p3,p4,p5,p6,p7,by cases args;simp_all,rfl,by simp,hd0,hd1,hd2,hd3,hd4,hd5,hd6,hd7⟩
theorem yc4 {t0 t1 t2 t3 t4 t5:TypeId} {v0 v1 v2 v3 v4 v5:Value} {d0 d1 d2 d3 d4 d5:DataW H} {p0 p1 p2 p3 p4 p5:List MemPlace} (h0:DataW.Trod enc P w base spare held t0 v0 d0 p0) (h1:DataW.Trod enc P w base spare held t1 v1 d1 p1) (h2:DataW.Trod enc P w base spare held t2 v2 d2 p2) (h3:DataW.Trod enc P w base spare held t3 v3 d3 p3) (h4:DataW.Trod enc P w base spare held t4 v4 d4 p4) (h5:DataW.Trod enc P w base spare held t5 v5 d5 p5):DataW.TrodAll enc P w base spare held [t0,t1,t2,t3,t4,t5] [v0,v1,v2,v3,v4,v5] [d0,d1,d2,d3,d4,d5] (p0++(p1++(p2++(p3++(p4++(p5)))))):=⟨p0,p1++(p2++(p3++(p4++(p5)))),h0,yct h1 h2 h3 h4 h5,rfl⟩
theorem yc5 {t0 t1 t2 t3 t4 t5 t6:TypeId} {v0 v1 v2 v3 v4 v5 v6:Value} {d0 d1 d2 d3 d4 d5 d6:DataW H} {p0 p1 p2 p3 p4 p5 p6:List MemPlace} (h0:DataW.Trod enc P w base spare held t0 v0 d0 p0) (h1:DataW.Trod enc P w base spare held t1 v1 d1 p1) (h2:DataW.Trod enc P w base spare held t2 v2 d2 p2) (h3:DataW.Trod enc P w base spare held t3 v3 d3 p3) (h4:DataW.Trod enc P w base spare held t4 v4 d4 p4) (h5:DataW.Trod enc P w base spare held t5 v5 d5 p5) (h6:DataW.Trod enc P w base spare held t6 v6 d6 p6):DataW.TrodAll enc P w base spare held [t0,t1,t2,t3,t4,t5,t6] [v0,v1,v2,v3,v4,v5,v6] [d0,d1,d2,d3,d4,d5,d6] (p0++(p1++(p2++(p3++(p4++(p5++(p6))))))):=⟨p0,p1++(p2++(p3++(p4++(p5++(p6))))),h0,yc4 h1 h2 h3 h4 h5 h6,rfl⟩
theorem yc6 {t0 t1 t2 t3 t4 t5 t6 t7:TypeId} {v0 v1 v2 v3 v4 v5 v6 v7:Value} {d0 d1 d2 d3 d4 d5 d6 d7:DataW H} {p0 p1 p2 p3 p4 p5 p6 p7:List MemPlace} (h0:DataW.Trod enc P w base spare held t0 v0 d0 p0) (h1:DataW.Trod enc P w base spare held t1 v1 d1 p1) (h2:DataW.Trod enc P w base spare held t2 v2 d2 p2) (h3:DataW.Trod enc P w base spare held t3 v3 d3 p3) (h4:DataW.Trod enc P w base spare held t4 v4 d4 p4) (h5:DataW.Trod enc P w base spare held t5 v5 d5 p5) (h6:DataW.Trod enc P w base spare held t6 v6 d6 p6) (h7:DataW.Trod enc P w base spare held t7 v7 d7 p7):DataW.TrodAll enc P w base spare held [t0,t1,t2,t3,t4,t5,t6,t7] [v0,v1,v2,v3,v4,v5,v6,v7] [d0,d1,d2,d3,d4,d5,d6,d7] (p0++(p1++(p2++(p3++(p4++(p5++(p6++(p7)))))))):=⟨p0,p1++(p2++(p3++(p4++(p5++(p6++(p7)))))),h0,yc5 h1 h2 h3 h4 h5 h6 h7,rfl⟩
end
theorem fr4 (a0 a1 a2 a3 a4 a5 a6 a7:Value):#[a0,a1,a2,a3,a4,a5,a6,a7]++Array.replicate (Tryd.f4.ntmps-(#[a0,a1,a2,a3,a4,a5,a6,a7]:Array Value).size) zu=#[a0,a1,a2,a3,a4,a5,a6,a7,zu,zu,zu,zu,zu,zu,zu,zu,zu,zu,zu,zu,zu,zu,zu,zu,zu,zu,zu,zu,zu,zu,zu,zu,zu,zu,zu,zu,zu,zu,zu,zu,zu,zu,zu,zu,zu,zu,zu,zu,zu,zu,zu,zu,zu,zu,zu,zu,zu,zu,zu,zu,zu,zu,zu,zu,zu,zu,zu,zu,zu,zu,zu,zu,zu,zu,zu,zu,zu,zu,zu,zu,zu,zu,zu,zu,zu,zu,zu,zu,zu,zu,zu,zu,zu,zu,zu,zu,zu,zu,zu,zu,zu,zu,zu,zu,zu,zu,zu,zu,zu,zu,zu,zu,zu,zu,zu,zu,zu,zu,zu,zu,zu,zu,zu,zu,zu,zu,zu,zu,zu,zu,zu,zu,zu,zu,zu,zu,zu,zu,zu,zu,zu,zu,zu,zu,zu,zu,zu,zu,zu,zu,zu,zu,zu,zu,zu,zu,zu,zu,zu,zu,zu,zu,zu,zu,zu,zu,zu,zu,zu,zu,zu,zu,zu,zu,zu,zu,zu,zu,zu,zu,zu,zu,zu,zu,zu,zu,zu,zu,zu,zu,zu,zu,zu,zu,zu,zu,zu,zu,zu,zu,zu,zu,zu,zu,zu,zu,zu,zu,zu,zu,zu,zu,zu,zu,zu,zu,zu,zu,zu,zu,zu,zu,zu,zu,zu,zu,zu,zu,zu,zu,zu,zu,zu,zu,zu,zu,zu,zu,zu,zu,zu,zu,zu,zu,zu,zu,zu,zu,zu,zu,zu,zu,zu,zu,zu,zu,zu,zu,zu,zu,zu,zu,zu,zu,zu,zu,zu,zu,zu,zu,zu,zu,zu,zu,zu,zu,zu,zu,zu,zu,zu,zu,zu,zu]:=by
 simp only [Tryd.ntmps4,List.size_toArray,List.length_cons,List.length_nil,Nat.reduceAdd,Nat.reduceSub,Array.replicate_succ,Array.replicate_zero,List.push_toArray,List.append_toArray,List.nil_append,List.cons_append]
theorem yd4 (d:Dit) (r:zaR) (lv:Value) (li:List Int) (sv:Value) (si:List (Int×Int)) (x3:Int) (x4:Int) (x5:Int) (x6:Int) (pv:Value) (ps:List Int) (W:World) (hd:DitSl W d r) (hb:d.Big) (hg:Glob W) (hsp1:(∃ a n k,lv=.slice a n k)) (hli:(Sl W lv 1 (li.map fun x=>[num x]))) (hkd1:(Kind W lv)) (hll1:(li.length≤281474976710656)) (hsp2:(∃ a n k,sv=.slice a n k)) (hsi:(Sl W sv 2 (si.map two))) (hkd2:(Kind W sv)) (hll2:(si.length≤281474976710656)) (hx3:(0≤x3∧x3≤255)) (hx4:(0≤x4∧x4≤4294967295)) (hx5:(0≤x5∧x5≤4294967295)) (hx6:(0≤x6∧x6≤65535)) (hsp:(∃ a n k,pv=.slice a n k)) (hps:(Sl W pv 1 (ps.map fun x=>[Value.int .u16 x]))) (hkd:(Kind W pv)) (hpl2:(ps.length≤281474976710656)) (hpb:(∀ x∈ps,0≤x∧x≤65535)) :
  Con.Fin Tryd.prog (fun u W'=>u=.bool true∧Con.Left W W') (solo (G (Frame.enter Tryd.prog 4 #[d.val r,lv,sv,.int .u8 x3,.int .u32 x4,.int .u32 x5,.int .u16 x6,pv] .normal) []) W) #[]:=by
 refine zpy Tryd.func4 yed hg (fun v hv=>?_) fun c Post hPost=>?_
 ·simp only [List.mem_cons,List.not_mem_nil,or_false] at hv
  rcases hv with rfl | rfl | rfl | rfl | rfl | rfl | rfl | rfl
  ·exact hd.same
  ·exact Same.slice hsp1 hkd1
  ·exact Same.slice hsp2 hkd2
  ·exact⟨fun c=>by simp [ren],by simp [ren]⟩
  ·exact⟨fun c=>by simp [ren],by simp [ren]⟩
  ·exact⟨fun c=>by simp [ren],by simp [ren]⟩
  ·exact⟨fun c=>by simp [ren],by simp [ren]⟩
  ·exact Same.slice hsp hkd
 ·rw [fr4]
  exact yel _ _ _ _ (fun _=>Iff.rfl) Post _ d r li si x3 x4 x5 x6 _ _ _ ps _ hd.entry hb hg.entry hx3 hx4 hx5 hx6 (hli.entry (by intro l hl x hx;obtain⟨z,_,rfl⟩:=List.mem_map.1 hl;rw [List.mem_singleton] at hx;subst hx;simp [inv])) (hsi.entry (by intro l hl x hx;obtain⟨z,_,rfl⟩:=List.mem_map.1 hl;simp only [two,List.mem_cons,List.not_mem_nil,or_false] at hx;rcases hx with rfl | rfl<;>simp [inv])) hll1 hll2 (hps.entry (by intro l hl x hx;obtain⟨z,_,rfl⟩:=List.mem_map.1 hl;rw [List.mem_singleton] at hx;subst hx;simp [inv])) hpb hpl2 hPost
theorem yci (os:Os) (started:os.Started) (H:Type) (enc:TypeId×Value→H) :
  ReturnsInLeavingWide {} Tryd.checked os 4 .any (fun w args=>(Rows.turnSizesSpec.pre enc Tryd.prog Tryd.f4 [] false w args∧laidMetH Tryd.prog zmo w)∧sizedMet enc Tryd.prog Tryd.f4 (OpenSpec.ofChange Rows.turnSizesSpec) false w args)
   (Rows.turnSizesSpec.post enc Tryd.prog Tryd.f4 false true false false):=by
 refine zdb (C:=Tryd.checked) (X:=fun w _=>laidMetH Tryd.prog zmo w) (fun _ _ _ hh h=>h.of_heap hh) zn6 started Tryd.func4
  (ChangeSpec.witness_shaped (enc:=enc) (C:=Tryd.checked) (os:=os) (X:=fun w _=>laidMetH Tryd.prog zmo w) false (World.doorLaid Tryd.prog 600 os)
   #[.agg #[.slice none 0 0,.slice none 0 0,.int .i64 0,.int .i64 0,.int .i64 0,.int .i64 0,.slice none 0 0,.slice none 0 0,.slice none 0 0,.int .i64 0,.int .i64 0,.int .i64 0,.int .i64 0,.slice none 0 0],.slice none 0 0,.slice none 0 0,.int .u8 0,.int .u32 0,.int .u32 0,.int .u16 0,.slice none 0 0] 8 rfl (World.shaped_of_RefB (by kernel_rfl) (by kernel_rfl)) (by kernel_rfl) (by kernel_rfl) (by kernel_rfl) (znv os _)) ?_
 intro W base args ds gs before hval0 hW _ hsz hL
 have hval:∀ (j:Nat) t v,Tryd.f4.params[j]?=some t→args[j]?=some v→Value.okWide Tryd.prog W .any base t v:=hval0
 have hW':=hW
 obtain⟨p,q,hA0,hV,rfl,hfz,hnd⟩:=hW
 have hA:DataW.TrodAll enc Tryd.prog W 0 (fun _=>true) true Tryd.f4.params.toList args.toList ds p:=hA0
 rw [Tryd.params4] at hA hval
 obtain⟨v0,v1,v2,v3,v4,v5,v6,v7,d0,d1,d2,d3,d4,d5,d6,d7,p0,p1,p2,p3,p4,p5,p6,p7,rfl,rfl,rfl,h0,h1,h2,h3,h4,h5,h6,h7⟩:=yby hA
 obtain⟨rfl,rfl⟩:=trodVars_none hV
 have hfit1:Fits 48 d1:=fun n hn=>by
  have:=List.all_eq_true.1 hsz n (DataW.weights_mem_each (P:=Tryd.prog) (j:=1) (t:=48) (d:=d1) (by rw [show Tryd.checked.prog=Tryd.prog from rfl,Tryd.params4];rfl) rfl n hn)
  simpa using this
 obtain⟨li,hsp1,hli,hkd1,hll1,_⟩:=ydd (en:=fun x=>[num x]) (ok:=fun _=>True) Tryd.underlying48 (by decide +kernel) (fun n cs' y h _=>zbY Tryd.underlying3 h) (hval 1 48 v1 rfl rfl) h1 hfit1
 rw [show Tryd.prog.cellsOf 3=1 by kernel_rfl] at hli
 have hfit2:Fits 24 d2:=fun n hn=>by
  have:=List.all_eq_true.1 hsz n (DataW.weights_mem_each (P:=Tryd.prog) (j:=2) (t:=24) (d:=d2) (by rw [show Tryd.checked.prog=Tryd.prog from rfl,Tryd.params4];rfl) rfl n hn)
  simpa using this
 obtain⟨si,hsp2,hsi,hkd2,hll2,_⟩:=ydd (en:=two) (ok:=fun _=>True) Tryd.underlying24 (by decide +kernel) (fun n cs' y h _=>zeK Tryd.underlying28 rfl rfl rfl rfl (by kernel_rfl) h) (hval 2 24 v2 rfl rfl) h2 hfit2
 rw [show Tryd.prog.cellsOf 28=2 by kernel_rfl] at hsi
 obtain⟨x3,rfl,rfl,rfl,w3⟩:=open_int Tryd.underlying5 (hval 3 5 v3 rfl rfl) h3
 have hx3:0≤x3∧x3≤255:=by
  have h:=w3
  simp only [Lit.wf,Bool.and_eq_true,decide_eq_true_eq] at h
  exact h
 obtain⟨x4,rfl,rfl,rfl,w4⟩:=open_int Tryd.underlying49 (hval 4 49 v4 rfl rfl) h4
 have hx4:0≤x4∧x4≤4294967295:=by
  have h:=w4
  simp only [Lit.wf,Bool.and_eq_true,decide_eq_true_eq] at h
  exact h
 obtain⟨x5,rfl,rfl,rfl,w5⟩:=open_int Tryd.underlying49 (hval 5 49 v5 rfl rfl) h5
 have hx5:0≤x5∧x5≤4294967295:=by
  have h:=w5
  simp only [Lit.wf,Bool.and_eq_true,decide_eq_true_eq] at h
  exact h
 obtain⟨x6,rfl,rfl,rfl,w6⟩:=open_int Tryd.underlying32 (hval 6 32 v6 rfl rfl) h6
 have hx6:0≤x6∧x6≤65535:=by
  have h:=w6
  simp only [Lit.wf,Bool.and_eq_true,decide_eq_true_eq] at h
  exact h
 have hfit7:Fits 33 d7:=fun n hn=>by
  have:=List.all_eq_true.1 hsz n (DataW.weights_mem_each (P:=Tryd.prog) (j:=7) (t:=33) (d:=d7) (by rw [show Tryd.checked.prog=Tryd.prog from rfl,Tryd.params4];rfl) rfl n hn)
  simpa using this
 obtain⟨ps,hsp,hps,hkd,hpl2,hpb⟩:=yde (hval 7 33 v7 rfl rfl) h7 hfit7
 have hfit:Fits 31 d0:=fun n hn=>by
  have:=List.all_eq_true.1 hsz n (DataW.weights_mem_each (P:=Tryd.prog) (j:=0) (t:=31) (d:=d0) (by rw [show Tryd.checked.prog=Tryd.prog from rfl,Tryd.params4];rfl) rfl n hn)
  simpa using this
 obtain⟨d,r,rfl,hd,hb⟩:=znp (hval 0 31 v0 rfl rfl) h0 hfit
 clear hA0 hval0
 try simp only [List.append_nil] at hW'
 have hlt:=fun x hx=>hW'.lt x hx
 try simp only [Array.size_empty,Nat.add_zero] at hlt
 refine zoq (yd4 d r v1 li v2 si x3 x4 x5 x6 v7 ps W hd hb (zpA hL) hsp1 hli hkd1 hll1 hsp2 hsi hkd2 hll2 hx3 hx4 hx5 hx6 hsp hps hkd hpl2 hpb) fun W' hl=>?_
 have ha:=yc6 (zl8 (by kernel_rfl) (of_decide_eq_true (by kernel_rfl)) h0 hl fun x hx=>hlt x (by simp [hx])) (zl8 (by kernel_rfl) (of_decide_eq_true (by kernel_rfl)) h1 hl fun x hx=>hlt x (by simp [hx])) (zl8 (by kernel_rfl) (of_decide_eq_true (by kernel_rfl)) h2 hl fun x hx=>hlt x (by simp [hx])) (shut_int Tryd.underlying5 w3) (shut_int Tryd.underlying49 w4) (shut_int Tryd.underlying49 w5) (shut_int Tryd.underlying32 w6) (zl8 (by kernel_rfl) (of_decide_eq_true (by kernel_rfl)) h7 hl fun x hx=>hlt x (by simp [hx]))
 try simp only [List.append_nil] at ha
 exact⟨[d0,d1,d2,.lit (.int .u8 x3),.lit (.int .u32 x4),.lit (.int .u32 x5),.lit (.int .u16 x6),d7],[],_,[],_,[],hW',trodAll_mk1 (shut_bool Tryd.underlying4 _),ha,rfl,zl6 hl _,fun h=>by cases h⟩
theorem yc7:Rows.TurnSizesSaid :=
 OpenClaim.holds_of_wide_leaving 4 Tryd.f4 rfl rfl rfl rfl rfl rfl rfl ⟨rfl,rfl,rfl,rfl,rfl⟩ rfl rfl rfl rfl rfl (by kernel_rfl) Tryd.func4 (by kernel_rfl)
  (of_decide_eq_true (by kernel_rfl)) (by unfold Func.isWrapper;first | (rw [if_pos (by decide +kernel)];kernel_rfl) | (rw [if_neg (by decide +kernel)];exact⟨rfl,rfl⟩))
  (fun os started H enc _=>yci os started H enc)
theorem sizes_card:Rows.TurnSizesCardSaid :=
 zfY .later [] [.funcs,.data] true (true,"0d731badf4e0ccf12345af2f94122e0e61a4db1cce3b3ab7c1cb0e3c5f870caa") false true
  yc7 (fun _ h=>by cases h) (by kernel_rfl) (fun _ h=>by cases h) turnSizes_row_tie rfl ⟨rfl,rfl⟩ (by kernel_rfl) rfl
  (fun f fn hf hfn=>by
   obtain rfl:f=4:=Option.some.inj ((show Tryd.prog.funcNamed "crocus/crocuslaw02.TurnSizes" = some 4 by kernel_rfl).symm.trans hf) |>.symm
   obtain rfl:fn=Tryd.f4:=(Option.some.inj (Tryd.func4.symm.trans hfn)).symm
   exact⟨by kernel_rfl,fun j t ht=>by
    rw [Tryd.params4] at ht
    have hm:t∈[31,48,24,5,49,49,32,33]:=by simpa using Array.mem_of_getElem? ht
    have hall:([31,48,24,5,49,49,32,33].all fun u=>!Tryd.prog.wantsStandIn u)=true:=by kernel_rfl
    exact (show Tryd.prog.wantsStandIn t=false by simpa using List.all_eq_true.1 hall t hm)⟩)
  (by kernel_rfl)
#print axioms sizes_card
end Go.Proofs.YtbbanmifdbeneaaDoor

