import Derived.Test.YtbbanmifdbeneaaDoorF45
import Derived.Test.YtbbanmifdbeneaaDoorF04
set_option linter.all false
set_option maxRecDepth 100000
set_option maxHeartbeats 4000000
open Go.CallsIn renaming mono → jqa
open Go.Lib renaming hid → jqb
namespace Go.Proofs.YtbbanmifdbeneaaDoor
open Go.RowKit
theorem zfE (d:Dit) (r:zaR) (w:World) (hd:DitSl w d r) (hs:d.Small) :
  CallsIn FL 0 Tryd.prog 21 #[d.val r] w fun e w'=>e=.returned (num (zaO d))∧Nx w w':=by
 obtain⟨W,hW,n0,hWs,cW⟩:=boxed w d r;obtain⟨a,cap,ea⟩:=hd.plots.cases;obtain⟨ah,caph,eh⟩:=hd.holders.cases;rw [List.length_map] at ea eh;have hv:=hd.plots.nx n0;rw [ea] at hv;have nWW:Nx W W:=Below.refl _ _;have cB:∀ w1,Nx W w1→w1.cell? ⟨w.heap.size,13,none⟩=some (.slice a d.plots.length cap)∧w1.cell? ⟨w.heap.size,0,none⟩=some (.slice ah d.holders.length caph)∧w1.cell? ⟨w.heap.size,11,none⟩=some (num d.loss.1)∧w1.cell? ⟨w.heap.size,12,none⟩=some (num d.loss.2):=fun w1 n1=>⟨(cW _ n1 13 r.p rfl).trans (by rw [ea]),(cW _ n1 0 r.h rfl).trans (by rw [eh]),cW _ n1 11 _ rfl,cW _ n1 12 _ rfl⟩;have c9:W.cell? ⟨w.heap.size,9,none⟩=some (num d.flow.1):=cW _ nWW 9 _ rfl;have c10:W.cell? ⟨w.heap.size,10,none⟩=some (num d.flow.2):=cW _ nWW 10 _ rfl;obtain⟨c13,c0,c11,c12⟩:=cB _ nWW;have hlp:=hs.p;have hlh:=hs.h;have keyI:∀ x y hi w1,Nx W w1→CallsIn FL 0 Tryd.prog 33 #[.agg #[num x,num y],num 0,num hi] w1 fun e w'=>e=.returned (.bool (decide (0≤x∧x≤y∧y≤hi)))∧Nx W w':=fun x y hi w1 n1=>(zc0 x y 0 hi w1).mono fun e w' ⟨p,q⟩=>⟨p,Nx.trans n1 q⟩;clear cW;gi_enter Tryd.func21,Tryd.ntmps21;by_cases hf1:0≤d.flow.1∧d.flow.1≤d.flow.2∧d.flow.2≤100000
 ·have k1:=fun w1 n1=>zbK (keyI d.flow.1 d.flow.2 100000 w1 n1) hf1
  by_cases hf2:0≤d.loss.1∧d.loss.1≤d.loss.2∧d.loss.2≤1000
  ·have k2:=fun w1 n1=>zbK (keyI d.loss.1 d.loss.2 1000 w1 n1) hf2
   by_cases h8:8<d.plots.length
   ·have HP:=jqb (show zaO d=2 by unfold zaO;rw [if_neg (fun h=>h ⟨hf1,hf2⟩),if_pos h8])
    clear keyI hv
    gi_wp2_with (first | (gi_at_call 33;(first | (with_reducible refine jqa (k1 _ (by assumption)) ?_) | (with_reducible refine jqa (k2 _ (by assumption)) ?_));rintro e w1 ⟨rfl,n1⟩;obtain⟨e13,e0,e11,e12⟩:=cB _ n1) | gi_in)
    go_ret;exact⟨by rw [HP.out];rfl,Nx.trans n0 (by assumption)⟩
   ·have HP:=jqb (show zaO d=scan (zfJ d.holders.length d.plots) 0 d.plots by unfold zaO;rw [if_neg (fun h=>h ⟨hf1,hf2⟩),if_neg h8])
    gi_wp2_with (first | (gi_at_call 33;(first | (with_reducible refine jqa (k1 _ (by assumption)) ?_) | (with_reducible refine jqa (k2 _ (by assumption)) ?_));rintro e w1 ⟨rfl,n1⟩;obtain⟨e13,e0,e11,e12⟩:=cB _ n1) | gi_in)
    clear k1 k2
    gi_loopw [3] (fun i wr=>∃ k:Nat,k≤d.plots.length∧i=num k∧(scan (zfJ d.holders.length d.plots) 0 d.plots=scan (zfJ d.holders.length d.plots) k (d.plots.drop k))∧Nx W wr) (fun i _=>d.plots.length-(intOf i).toNat)
    case atStart=>exact⟨0,Nat.zero_le _,rfl,rfl,by assumption⟩
    case round =>
     obtain⟨k,hk,rfl,hsc,n2⟩:=hrel;obtain⟨f13,f0,f11,f12⟩:=cB _ n2;by_cases hlt:k<d.plots.length
     ·obtain⟨b,off,ha,hbl,hcl⟩:=hv.get (by simp;omega)
      subst ha;have hx:d.plots[k]?=some d.plots[k]:=List.getElem?_eq_getElem hlt;have hxl:=hs.pn _ (List.getElem_mem hlt);generalize hxk:d.plots[k]=x at hx hxl;clear hxk;obtain⟨g0,g1,g2,g3,g4,g5⟩:=Sl.at6 hcl n2 hbl hx;have HG:=jqb fun h0=>zbL hx h0 hsc;have HS:=jqb fun h0=>za4 hx h0 hsc;generalize hV:wr.alloc (.cells #[str x.name,num x.holder,num x.far,num x.low,num x.high,num x.worth] 55)=V;have nV:Nx W V:=by rw [← hV];exact n2.alloc (by exact n2.size) _
      have nwV:Nx wr V:=by rw [← hV];exact (Below.refl _ _).alloc (Nat.le_refl _) _
      have hz:V.heap[wr.heap.size]?=some (.cells #[str x.name,num x.holder,num x.far,num x.low,num x.high,num x.worth] 55):=by rw [← hV];exact heap_alloc_new wr _
      have hVs:wr.heap.size<V.heap.size:=by rw [← hV];simp
      have nVV:Nx V V:=Below.refl _ _;have cN:∀ w1,Nx V w1→w1.cell? ⟨wr.heap.size,0,none⟩=some (str x.name)∧w1.cell? ⟨wr.heap.size,1,none⟩=some (num x.holder)∧w1.cell? ⟨wr.heap.size,2,none⟩=some (num x.far)∧w1.cell? ⟨wr.heap.size,3,none⟩=some (num x.low)∧w1.cell? ⟨wr.heap.size,4,none⟩=some (num x.high)∧w1.cell? ⟨wr.heap.size,5,none⟩=some (num x.worth)∧w1.cell? ⟨w.heap.size,13,none⟩=some (.slice (some ⟨b,off,none⟩) d.plots.length cap)∧w1.cell? ⟨w.heap.size,0,none⟩=some (.slice ah d.holders.length caph):=by
       intro w1 n1;have hB:=cB _ (Nx.trans nV n1);refine⟨(n1.cell (by exact hVs)).trans ?_,(n1.cell (by exact hVs)).trans ?_,(n1.cell (by exact hVs)).trans ?_,(n1.cell (by exact hVs)).trans ?_,(n1.cell (by exact hVs)).trans ?_,(n1.cell (by exact hVs)).trans ?_,hB.1,hB.2.1⟩<;>simp [World.cell?,hz]
      have kN:=fun w1=>zhs x.name w1 hxl;have kH:=fun w1=>zby x.holder 0 ((d.holders.length:Int)-1) w1;have kF:=fun w1=>zby x.far 0 20 w1;have kW:=fun w1=>zby x.worth 0 10000 w1;have kD:∀ w1,Nx V w1→CallsIn FL 0 Tryd.prog 33 #[.agg #[num x.low,num x.high],num 0,num 999999999] w1 fun e w'=>e=.returned (.bool (decide (0≤x.low∧x.low≤x.high∧x.high≤999999999)))∧Nx V w':=fun w1 n1=>(zc0 x.low x.high 0 999999999 w1).mono fun e w' ⟨p,q⟩=>⟨p,Nx.trans n1 q⟩;have hf:zfJ d.holders.length d.plots k x=zjv (zbu x.name) ((d.plots.take k).any fun o=>decide (o.name=x.name)) (decide (0≤x.holder∧x.holder≤(d.holders.length:Int)-1)) (decide (0≤x.far∧x.far≤20)) (decide (0≤x.low∧x.low≤x.high∧x.high≤999999999)) (decide (0≤x.worth∧x.worth≤10000)):=rfl;generalize zfJ d.holders.length d.plots k x=pf at HG HS hf;generalize zbu x.name=b1 at hf kN;generalize decide (0≤x.holder∧x.holder≤(d.holders.length:Int)-1)=b3 at hf kH;generalize decide (0≤x.far∧x.far≤20)=b4 at hf kF;generalize decide (0≤x.low∧x.low≤x.high∧x.high≤999999999)=b5 at hf kD;generalize decide (0≤x.worth∧x.worth≤10000)=b6 at hf kW;have hA6:∀ w1,Nx V w1→∀ (j:Nat) (o:Plot),d.plots[j]?=some o→w1.cell? ⟨b,off+j * 6,none⟩=some (str o.name):=fun w1 n1 j o ho=>(Sl.at6 (wr:=w1) hcl (Nx.trans nV n1) hbl ho).1;obtain⟨e0,e1,e2,e3,e4,e5,e13,e00⟩:=cN _ nVV;clear hsc hx hv hcl keyI cB
      cases b1 with
      | false =>
       have hzz:=jqb (HS.out (by rw [hf];simp [zjv]));clear HG HS
       gi_wp2_with (first | (gi_at_call 41;refine jqa (kN _) ?_;rintro e w1 ⟨rfl,rfl⟩) | gi_in)
       go_ret;exact⟨by rw [HP.out,hzz.out,hf];rfl,Nx.trans n0 nV⟩
      | true =>
       have HF:=jqb hf;clear hf
       gi_wp2_with (first | (gi_at_call 41;refine jqa (kN _) ?_;rintro e w1 ⟨rfl,rfl⟩) | gi_in)
       clear kN e0 e1 e2 e3 e4 e5 e13 e00 f13 f0 f11 f12 g0 g1 g2 g3 g4 g5;generalize wr.heap.size=Q at *;generalize wr=W9 at *
       gi_loopw [5] (fun i wr'=>∃ j:Nat,j≤k∧i=num j∧(∀ (t:Nat) (o:Plot),t<j→d.plots[t]?=some o→o.name≠x.name)∧Nx w1 wr') (fun i _=>k-(intOf i).toNat)
       case atStart=>exact⟨0,Nat.zero_le _,rfl,fun t o h=>absurd h (Nat.not_lt_zero _),nVV⟩
       case round =>
        obtain⟨j,hj,rfl,hno,n5⟩:=hrel;obtain⟨e0,e1,e2,e3,e4,e5,e13,e00⟩:=cN _ n5;by_cases hjk:j<k
        ·have hy:d.plots[j]?=some d.plots[j]:=List.getElem?_eq_getElem (by omega)
         have q0:=hA6 _ n5 j _ hy;have HN:=jqb hno;have HY:=jqb hy;have hjl:j<d.plots.length:=by omega
         clear hno hy hA6 kH kF kW kD;generalize d.plots[j]=y at q0 HY;by_cases hxy:y.name=x.name
         ·have hb:(y.name == x.name)=true:=by simpa using hxy
          have hany:((d.plots.take k).any fun o=>decide (o.name=x.name))=true:=List.any_eq_true.2 ⟨y,List.mem_of_getElem? (i:=j) (by rw [List.getElem?_take,if_pos hjk];exact HY.out),decide_eq_true hxy⟩;have hzz:=jqb (HS.out (by rw [HF.out,hany];simp [zjv]));have hpf:=jqb (show pf=5 by rw [HF.out,hany];rfl);clear hxy hany HS HG;generalize y.name=yn at *;generalize x.name=xn at *;gi_upto_region 14 with fail
          gi_big_quiet_th (fail);gi_wp2;go_ret;exact⟨by rw [HP.out,hzz.out,hpf.out];rfl,Nx.trans n0 (Nx.trans nV (Nx.drewN n5 _))⟩
         ·have hb:(y.name == x.name)=false:=by simpa using hxy
          have HN2:=jqb (show ∀ (t:Nat) (o:Plot),t<j+1→d.plots[t]?=some o→o.name≠x.name by
           intro t o ht ho;rcases Nat.lt_succ_iff_lt_or_eq.1 ht with ht | rfl
           ·exact HN.out t o ht ho
           ·rw [HY.out] at ho;cases ho;exact hxy)
          clear hxy HS HG HN HY;gi_upto_region 14 with fail
          gi_big_quiet_th (fail);gi_wp2;exact⟨⟨j+1,hjk,by simp,HN2.out,Nx.drewN n5 _⟩,by simp [intOf];omega⟩
        ·obtain rfl:j=k:=by omega
         have hany:((d.plots.take j).any fun o=>decide (o.name=x.name))=false:=by
          rw [List.any_eq_false];intro o ho;obtain⟨t,ht⟩:=List.mem_iff_getElem?.1 ho;rw [List.getElem?_take] at ht
          split at ht
          ·rename_i htj;simpa using hno t o htj ht
          ·cases ht
         have hf:=HF.out;rw [hany] at hf;clear hno hany hA6 HF;rcases zoJ b3 b4 b5 b6 with h | ⟨rfl,rfl,rfl,rfl⟩
         ·rcases h with rfl | ⟨rfl,rfl⟩ | ⟨rfl,rfl,rfl⟩ | ⟨rfl,rfl,rfl,rfl⟩
          all_goals (
           have hzz:=jqb (HS.out (by rw [hf];simp [zjv]));clear HG HS
           gi_wp2_with (first
           | (gi_at_call 32;(first | (with_reducible refine jqa (kH _) ?_) | (with_reducible refine jqa (kF _) ?_) | (with_reducible refine jqa (kW _) ?_));rintro e w2 ⟨rfl,rfl⟩)
           | (gi_at_call 33;(refine jqa (kD _ (by assumption)) ?_);rintro e w2 ⟨rfl,n6⟩;obtain⟨e0,e1,e2,e3,e4,e5,e13,e00⟩:=cN _ n6)
           | gi_in)
           go_ret;exact⟨by rw [HP.out,hzz.out,hf];rfl,Nx.trans n0 (Nx.trans nV (by assumption))⟩)
         ·have hzz:=jqb (HG.out (by rw [hf];rfl))
          clear HG HS hf
          gi_wp2_with (first
           | (gi_at_call 32;(first | (with_reducible refine jqa (kH _) ?_) | (with_reducible refine jqa (kF _) ?_) | (with_reducible refine jqa (kW _) ?_));rintro e w2 ⟨rfl,rfl⟩)
           | (gi_at_call 33;(refine jqa (kD _ (by assumption)) ?_);rintro e w2 ⟨rfl,n6⟩;obtain⟨e0,e1,e2,e3,e4,e5,e13,e00⟩:=cN _ n6)
           | gi_in)
          exact⟨⟨j+1,hlt,by simp,hzz.out,Nx.trans nV (by assumption)⟩,by simp [intOf];omega⟩
     ·obtain rfl:k=d.plots.length:=by omega
      have HZ:=jqb (zbi hsc);clear hsc hv keyI cB;gi_wp2;go_ret;exact⟨by rw [HP.out,HZ.out];rfl,Nx.trans n0 n2⟩
  ·have k2:=fun w1 n1=>zbF (keyI d.loss.1 d.loss.2 1000 w1 n1) hf2
   have HP:=jqb (show zaO d=1 by unfold zaO;rw [if_pos (by intro h;exact hf2 h.2)]);clear keyI hv
   gi_wp2_with (first | (gi_at_call 33;(first | (with_reducible refine jqa (k1 _ (by assumption)) ?_) | (with_reducible refine jqa (k2 _ (by assumption)) ?_));rintro e w1 ⟨rfl,n1⟩;obtain⟨e13,e0,e11,e12⟩:=cB _ n1) | gi_in)
   go_ret;exact⟨by rw [HP.out];rfl,Nx.trans n0 (by assumption)⟩
 ·have k1:=fun w1 n1=>zbF (keyI d.flow.1 d.flow.2 100000 w1 n1) hf1
  have HP:=jqb (show zaO d=1 by unfold zaO;rw [if_pos (by intro h;exact hf1 h.1)]);clear keyI hv
  gi_wp2_with (first | (gi_at_call 33;(with_reducible refine jqa (k1 _ (by assumption)) ?_);rintro e w1 ⟨rfl,n1⟩;obtain⟨e13,e0,e11,e12⟩:=cB _ n1) | gi_in)
  go_ret;exact⟨by rw [HP.out];rfl,Nx.trans n0 (by assumption)⟩
end Go.Proofs.YtbbanmifdbeneaaDoor

