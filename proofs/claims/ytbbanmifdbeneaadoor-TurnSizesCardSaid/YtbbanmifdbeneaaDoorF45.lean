import Derived.Test.YtbbanmifdbeneaaDoorF44
import Derived.Test.YtbbanmifdbeneaaDoorF05
set_option linter.all false
set_option maxRecDepth 100000
set_option maxHeartbeats 4000000
open Go.CallsIn renaming mono → jqa
open Go.Lib renaming hid → jqb
open Decidable renaming not_not → jqc
open List renaming getElem?_eq_getElem → jqd
open Nat renaming lt_of_lt_of_le → jqe
namespace Go.Proofs.YtbbanmifdbeneaaDoor
open Go.RowKit
theorem zoJ (b1 b2 b3 b4:Bool):(b1=false∨(b1=true∧b2=false)∨(b1=true∧b2=true∧b3=false)∨(b1=true∧b2=true∧b3=true∧b4=false))∨(b1=true∧b2=true∧b3=true∧b4=true):=by cases b1<;>cases b2<;>cases b3<;>cases b4<;>simp
theorem zkE {d:Dit} (h:¬ ((0≤d.begin_∧d.begin_≤999999999)∧(0≤d.week∧d.week≤1000)∧(0≤d.from_∧d.from_≤1000)∧(0≤d.long∧d.long≤1000))):zaJ d=1:=by
 unfold zaJ;split
 ·rfl
 split
 ·rfl
 split
 ·rfl
 split
 ·rfl
 rename_i h1 h2 h3 h4;exact absurd ⟨jqc.1 h4,jqc.1 h1,jqc.1 h2,jqc.1 h3⟩ h
theorem zmB {d:Dit} (h1:0≤d.begin_∧d.begin_≤999999999) (h2:0≤d.week∧d.week≤1000) (h3:0≤d.from_∧d.from_≤1000) (h4:0≤d.long∧d.long≤1000):zaJ d=if zeD d.week d.from_ d.long then 8 else if d.feasts.length > 8 then 2 else scan (za0 d.feasts) 0 d.feasts:=by
 unfold zaJ;rw [if_neg (fun h=>h h2),if_neg (fun h=>h h3),if_neg (fun h=>h h4),if_neg (fun h=>h h1)]
theorem zgA (d:Dit) (r:zaR) (w:World) (hd:DitSl w d r) (hs:d.Small) :
  CallsIn FL 0 Tryd.prog 19 #[d.val r] w fun e w'=>e=.returned (num (zaJ d))∧Nx w w':=by
 obtain⟨W,hW,n0,hWs,cW⟩:=boxed w d r;obtain⟨a,cap,ea⟩:=hd.feasts.cases;rw [List.length_map] at ea;have hv:=hd.feasts.nx n0;rw [ea] at hv;have nWW:Nx W W:=Below.refl _ _;have c6' : ∀ w1,Nx W w1→w1.cell? ⟨w.heap.size,6,none⟩=some (.slice a d.feasts.length cap):=fun w1 n1=>(cW _ n1 6 r.f rfl).trans (by rw [ea]);have c2:W.cell? ⟨w.heap.size,2,none⟩=some (num d.begin_):=cW _ nWW 2 _ rfl;have c3:W.cell? ⟨w.heap.size,3,none⟩=some (num d.week):=cW _ nWW 3 _ rfl;have c4:W.cell? ⟨w.heap.size,4,none⟩=some (num d.from_):=cW _ nWW 4 _ rfl;have c5:W.cell? ⟨w.heap.size,5,none⟩=some (num d.long):=cW _ nWW 5 _ rfl;have c6:=c6' _ nWW;have hlf:=hs.f;clear cW;gi_enter Tryd.func19,Tryd.ntmps19;by_cases hok:(0≤d.begin_∧d.begin_≤999999999)∧(0≤d.week∧d.week≤1000)∧(0≤d.from_∧d.from_≤1000)∧(0≤d.long∧d.long≤1000)
 ·obtain⟨h1,h2,h3,h4⟩:=hok
  have HT:=jqb (zmB h1 h2 h3 h4);have k1:=fun w1=>in_b (decide_eq_true h1) w1;have k2:=fun w1=>in_b (decide_eq_true h2) w1;have k3:=fun w1=>in_b (decide_eq_true h3) w1;have k4:=fun w1=>in_b (decide_eq_true h4) w1;have hroom:Hid (zeD d.week d.from_ d.long=decide ((d.week=0∧0<d.from_+d.long)∨(0<d.week∧(d.week<d.from_+d.long∨d.long=d.week)))):=by
   show _=_;unfold zeD;exact decide_eq_decide.2 (by omega)
  by_cases hw:d.week=0
  ·by_cases hf:0<d.from_+d.long
   ·have HF:=jqb (show zaJ d=8 by rw [HT.out,hroom.out,if_pos (by simp;omega)])
    clear HT hroom
    gi_wp2_with (first | (gi_at_call 32;(first | (with_reducible refine jqa (k1 _) ?_) | (with_reducible refine jqa (k2 _) ?_) | (with_reducible refine jqa (k3 _) ?_) | (with_reducible refine jqa (k4 _) ?_));rintro e w1 ⟨rfl,rfl⟩) | gi_in)
    go_ret;exact⟨by rw [HF.out];rfl,n0⟩
   ·have HR:=jqb (show zaJ d=if d.feasts.length > 8 then 2 else scan (za0 d.feasts) 0 d.feasts by rw [HT.out,hroom.out,if_neg (by simp;omega)])
    clear HT hroom;have hfl:decide (0<d.from_+d.long)=false:=by simp;omega
    have hwk:decide (0<d.week)=false:=by simp;omega
    by_cases h8:8<d.feasts.length
    ·have HF:=jqb (show zaJ d=2 by rw [HR.out,if_pos h8])
     clear HR hv
     gi_wp2_with (first | (gi_at_call 32;(first | (with_reducible refine jqa (k1 _) ?_) | (with_reducible refine jqa (k2 _) ?_) | (with_reducible refine jqa (k3 _) ?_) | (with_reducible refine jqa (k4 _) ?_));rintro e w1 ⟨rfl,rfl⟩) | gi_in)
     go_ret;exact⟨by rw [HF.out];rfl,n0⟩
    ·have HF:=jqb (show zaJ d=scan (za0 d.feasts) 0 d.feasts by rw [HR.out,if_neg h8])
     clear HR
     gi_wp2_with (first | (gi_at_call 32;(first | (with_reducible refine jqa (k1 _) ?_) | (with_reducible refine jqa (k2 _) ?_) | (with_reducible refine jqa (k3 _) ?_) | (with_reducible refine jqa (k4 _) ?_));rintro e w1 ⟨rfl,rfl⟩) | gi_in)
     clear k1 k2 k3 k4 c2 c3 c4 c5 c6
     gi_loopw [3] (fun i wr=>∃ k:Nat,k≤d.feasts.length∧i=num k∧(scan (za0 d.feasts) 0 d.feasts=scan (za0 d.feasts) k (d.feasts.drop k))∧Nx w1 wr) (fun i _=>d.feasts.length-(intOf i).toNat)
     case atStart=>exact⟨0,Nat.zero_le _,rfl,rfl,nWW⟩
     case round =>
      obtain⟨k,hk,rfl,hsc,n4⟩:=hrel;have f6:=c6' _ n4;by_cases hlt:k<d.feasts.length
      ·obtain⟨b,off,ha,hbl,hcl⟩:=hv.get (by simp;omega)
       subst ha;have hx:d.feasts[k]?=some d.feasts[k]:=jqd hlt;generalize hxk:d.feasts[k]=x at hx;clear hxk;obtain⟨x1,x2⟩:=x;obtain⟨g1,g2⟩:=Sl.at2 hcl n4 hbl hx;have HG:=jqb fun h0=>zbL hx h0 hsc;have HS:=jqb fun h0=>za4 hx h0 hsc;have kI:CallsIn FL 0 Tryd.prog 33 #[.agg #[num x1,num x2],num 0,num 999999999] wr fun e w'=>e=.returned (.bool (decide (0≤x1∧x1≤x2∧x2≤999999999)))∧Nx wr w':=zc0 x1 x2 0 999999999 wr;by_cases hin:0≤x1∧x1≤x2∧x2≤999999999
       ·have kI':=zbK kI hin
        clear kI;rcases Nat.eq_zero_or_pos k with hk0 | hk0
        ·have hf:za0 d.feasts k (x1,x2)=0:=by unfold za0 zdJ;rw [if_pos hin,if_pos hk0,if_neg (by omega)]
         have hz:=jqb (HG.out hf);have HK:=jqb hk0;clear hsc hcl hx hv hf HG HS hk0;gi_upto_region 12 with (first | (gi_at_call 33;(refine jqa kI' ?_);rintro e w1 ⟨rfl,n1⟩;have n6:=Nx.trans n4 n1;clear n1) | gi_in)
         have hkp:decide (0<(k:Int))=false:=by have:=HK.out;simp;omega
         have hkp2:decide (0<k)=false:=by have:=HK.out;simp;omega
         clear f6 g1 g2;gi_big_quiet_th (fail);gi_wp2;exact⟨⟨k+1,hlt,by simp,hz.out,Nx.drewN n6 _⟩,by simp [intOf];omega⟩
        ·obtain⟨y,hp⟩:∃ y,d.feasts[k-1]?=some y:=⟨_,jqd (by omega)⟩
         obtain⟨y1,y2⟩:=y;have hla:zdJ d.feasts k=y2:=by unfold zdJ;rw [if_neg (by omega),hp];rfl
         have gp:=Sl.at2 (wr:=wr) hcl n4 hbl hp;have ek:((k:Int)-1)=((k-1:Nat):Int):=by omega
         have hk1:k-1<d.feasts.length:=by omega
         obtain⟨q1,q2⟩:=gp;have hf:za0 d.feasts k (x1,x2)=if x1≤y2 then 7 else 0:=by unfold za0;rw [if_pos hin,hla]
         generalize za0 d.feasts k (x1,x2)=pf at HG HS hf;clear hsc hcl hx hv hp hla;gi_upto_region 12 with (first | (gi_at_call 33;(refine jqa kI' ?_);rintro e w1 ⟨rfl,n1⟩;have n6:=Nx.trans n4 n1;have e6:=c6' _ n6;have e2:=(n1.cell (p:=⟨b,off+k * 2,none⟩) (by show b<_;exact jqe hbl n4.size)).trans g1;have e3:=(n1.cell (p:=⟨b,off+(k-1) * 2+1,none⟩) (by show b<_;exact jqe hbl n4.size)).trans q2;clear c6' f6 g1 g2 q1 q2 kI') | gi_in)
         have hkp:decide (0<(k:Int))=true:=by simp;omega
         by_cases hxy:x1≤y2
         ·rw [if_pos hxy] at hf
          have hz:=jqb (HS.out (by rw [hf];decide));clear HS HG;gi_big_quiet_th (fail);gi_wp2;go_ret;exact⟨by rw [HF.out,hz.out,hf];rfl,Nx.trans n0 (Nx.drewN n6 _)⟩
         ·rw [if_neg hxy] at hf
          have hz:=jqb (HG.out hf);clear HS HG;gi_big_quiet_th (fail);gi_wp2;exact⟨⟨k+1,hlt,by simp,hz.out,Nx.drewN n6 _⟩,by simp [intOf];omega⟩
       ·have kI':=zbF kI hin
        have hf:za0 d.feasts k (x1,x2)=1:=by unfold za0;rw [if_neg hin]
        have hz:=jqb (HS.out (by rw [hf];decide));clear kI hsc hcl hx hv HG HS
        gi_wp2_with (first | (gi_at_call 33;(refine jqa kI' ?_);rintro e w1 ⟨rfl,n1⟩;have n6:=Nx.trans n4 n1) | gi_in)
        go_ret;exact⟨by rw [HF.out,hz.out,hf];rfl,Nx.trans n0 n6⟩
      ·obtain rfl:k=d.feasts.length:=by omega
       have HZ:=jqb (zbi hsc);clear hsc hv;gi_wp2;go_ret;exact⟨by rw [HF.out,HZ.out];rfl,Nx.trans n0 n4⟩
  ·by_cases hf:d.week<d.from_+d.long∨d.long=d.week
   ·have HF:=jqb (show zaJ d=8 by rw [HT.out,hroom.out,if_pos (by simp;omega)])
    clear HT hroom;have hw0:(d.week == 0)=false:=by simpa using hw
    have hw1:decide (0<d.week)=true:=by simp;omega
    by_cases hf1:d.week<d.from_+d.long
    ·gi_wp2_with (first | (gi_at_call 32;(first | (with_reducible refine jqa (k1 _) ?_) | (with_reducible refine jqa (k2 _) ?_) | (with_reducible refine jqa (k3 _) ?_) | (with_reducible refine jqa (k4 _) ?_));rintro e w1 ⟨rfl,rfl⟩) | gi_in)
     go_ret;exact⟨by rw [HF.out];rfl,n0⟩
    ·have hl:(d.long == d.week)=true:=by simp;omega
     gi_wp2_with (first | (gi_at_call 32;(first | (with_reducible refine jqa (k1 _) ?_) | (with_reducible refine jqa (k2 _) ?_) | (with_reducible refine jqa (k3 _) ?_) | (with_reducible refine jqa (k4 _) ?_));rintro e w1 ⟨rfl,rfl⟩) | gi_in)
     go_ret;exact⟨by rw [HF.out];rfl,n0⟩
   ·have HR:=jqb (show zaJ d=if d.feasts.length > 8 then 2 else scan (za0 d.feasts) 0 d.feasts by rw [HT.out,hroom.out,if_neg (by simp;omega)])
    clear HT hroom;have hw0:(d.week == 0)=false:=by simpa using hw
    have hw1:decide (0<d.week)=true:=by simp;omega
    have hf1:decide (d.week<d.from_+d.long)=false:=by simp;omega
    have hf2:(d.long == d.week)=false:=by simp;omega
    by_cases h8:8<d.feasts.length
    ·have HF:=jqb (show zaJ d=2 by rw [HR.out,if_pos h8])
     clear HR hv
     gi_wp2_with (first | (gi_at_call 32;(first | (with_reducible refine jqa (k1 _) ?_) | (with_reducible refine jqa (k2 _) ?_) | (with_reducible refine jqa (k3 _) ?_) | (with_reducible refine jqa (k4 _) ?_));rintro e w1 ⟨rfl,rfl⟩) | gi_in)
     go_ret;exact⟨by rw [HF.out];rfl,n0⟩
    ·have HF:=jqb (show zaJ d=scan (za0 d.feasts) 0 d.feasts by rw [HR.out,if_neg h8])
     clear HR
     gi_wp2_with (first | (gi_at_call 32;(first | (with_reducible refine jqa (k1 _) ?_) | (with_reducible refine jqa (k2 _) ?_) | (with_reducible refine jqa (k3 _) ?_) | (with_reducible refine jqa (k4 _) ?_));rintro e w1 ⟨rfl,rfl⟩) | gi_in)
     clear k1 k2 k3 k4 c2 c3 c4 c5 c6
     gi_loopw [3] (fun i wr=>∃ k:Nat,k≤d.feasts.length∧i=num k∧(scan (za0 d.feasts) 0 d.feasts=scan (za0 d.feasts) k (d.feasts.drop k))∧Nx w1 wr) (fun i _=>d.feasts.length-(intOf i).toNat)
     case atStart=>exact⟨0,Nat.zero_le _,rfl,rfl,nWW⟩
     case round =>
      obtain⟨k,hk,rfl,hsc,n4⟩:=hrel;have f6:=c6' _ n4;by_cases hlt:k<d.feasts.length
      ·obtain⟨b,off,ha,hbl,hcl⟩:=hv.get (by simp;omega)
       subst ha;have hx:d.feasts[k]?=some d.feasts[k]:=jqd hlt;generalize hxk:d.feasts[k]=x at hx;clear hxk;obtain⟨x1,x2⟩:=x;obtain⟨g1,g2⟩:=Sl.at2 hcl n4 hbl hx;have HG:=jqb fun h0=>zbL hx h0 hsc;have HS:=jqb fun h0=>za4 hx h0 hsc;have kI:CallsIn FL 0 Tryd.prog 33 #[.agg #[num x1,num x2],num 0,num 999999999] wr fun e w'=>e=.returned (.bool (decide (0≤x1∧x1≤x2∧x2≤999999999)))∧Nx wr w':=zc0 x1 x2 0 999999999 wr;by_cases hin:0≤x1∧x1≤x2∧x2≤999999999
       ·have kI':=zbK kI hin
        clear kI;rcases Nat.eq_zero_or_pos k with hk0 | hk0
        ·have hf:za0 d.feasts k (x1,x2)=0:=by unfold za0 zdJ;rw [if_pos hin,if_pos hk0,if_neg (by omega)]
         have hz:=jqb (HG.out hf);have HK:=jqb hk0;clear hsc hcl hx hv hf HG HS hk0;gi_upto_region 12 with (first | (gi_at_call 33;(refine jqa kI' ?_);rintro e w1 ⟨rfl,n1⟩;have n6:=Nx.trans n4 n1;clear n1) | gi_in)
         have hkp:decide (0<(k:Int))=false:=by have:=HK.out;simp;omega
         have hkp2:decide (0<k)=false:=by have:=HK.out;simp;omega
         clear f6 g1 g2;gi_big_quiet_th (fail);gi_wp2;exact⟨⟨k+1,hlt,by simp,hz.out,Nx.drewN n6 _⟩,by simp [intOf];omega⟩
        ·obtain⟨y,hp⟩:∃ y,d.feasts[k-1]?=some y:=⟨_,jqd (by omega)⟩
         obtain⟨y1,y2⟩:=y;have hla:zdJ d.feasts k=y2:=by unfold zdJ;rw [if_neg (by omega),hp];rfl
         have gp:=Sl.at2 (wr:=wr) hcl n4 hbl hp;have ek:((k:Int)-1)=((k-1:Nat):Int):=by omega
         have hk1:k-1<d.feasts.length:=by omega
         obtain⟨q1,q2⟩:=gp;have hf:za0 d.feasts k (x1,x2)=if x1≤y2 then 7 else 0:=by unfold za0;rw [if_pos hin,hla]
         generalize za0 d.feasts k (x1,x2)=pf at HG HS hf;clear hsc hcl hx hv hp hla;gi_upto_region 12 with (first | (gi_at_call 33;(refine jqa kI' ?_);rintro e w1 ⟨rfl,n1⟩;have n6:=Nx.trans n4 n1;have e6:=c6' _ n6;have e2:=(n1.cell (p:=⟨b,off+k * 2,none⟩) (by show b<_;exact jqe hbl n4.size)).trans g1;have e3:=(n1.cell (p:=⟨b,off+(k-1) * 2+1,none⟩) (by show b<_;exact jqe hbl n4.size)).trans q2;clear c6' f6 g1 g2 q1 q2 kI') | gi_in)
         have hkp:decide (0<(k:Int))=true:=by simp;omega
         by_cases hxy:x1≤y2
         ·rw [if_pos hxy] at hf
          have hz:=jqb (HS.out (by rw [hf];decide));clear HS HG;gi_big_quiet_th (fail);gi_wp2;go_ret;exact⟨by rw [HF.out,hz.out,hf];rfl,Nx.trans n0 (Nx.drewN n6 _)⟩
         ·rw [if_neg hxy] at hf
          have hz:=jqb (HG.out hf);clear HS HG;gi_big_quiet_th (fail);gi_wp2;exact⟨⟨k+1,hlt,by simp,hz.out,Nx.drewN n6 _⟩,by simp [intOf];omega⟩
       ·have kI':=zbF kI hin
        have hf:za0 d.feasts k (x1,x2)=1:=by unfold za0;rw [if_neg hin]
        have hz:=jqb (HS.out (by rw [hf];decide));clear kI hsc hcl hx hv HG HS
        gi_wp2_with (first | (gi_at_call 33;(refine jqa kI' ?_);rintro e w1 ⟨rfl,n1⟩;have n6:=Nx.trans n4 n1) | gi_in)
        go_ret;exact⟨by rw [HF.out,hz.out,hf];rfl,Nx.trans n0 n6⟩
      ·obtain rfl:k=d.feasts.length:=by omega
       have HZ:=jqb (zbi hsc);clear hsc hv;gi_wp2;go_ret;exact⟨by rw [HF.out,HZ.out];rfl,Nx.trans n0 n4⟩
 ·have HF:=jqb (zkE hok)
  have k1:=fun w1=>zby d.begin_ 0 999999999 w1;have k2:=fun w1=>zby d.week 0 1000 w1;have k3:=fun w1=>zby d.from_ 0 1000 w1;have k4:=fun w1=>zby d.long 0 1000 w1;have hok' : ¬ (decide (0≤d.begin_∧d.begin_≤999999999)=true∧decide (0≤d.week∧d.week≤1000)=true∧decide (0≤d.from_∧d.from_≤1000)=true∧decide (0≤d.long∧d.long≤1000)=true):=by simpa only [decide_eq_true_eq] using hok
  clear hok;generalize decide (0≤d.begin_∧d.begin_≤999999999)=b1 at k1 hok';generalize decide (0≤d.week∧d.week≤1000)=b2 at k2 hok';generalize decide (0≤d.from_∧d.from_≤1000)=b3 at k3 hok';generalize decide (0≤d.long∧d.long≤1000)=b4 at k4 hok';rcases zoJ b1 b2 b3 b4 with h | h
  ·rcases h with rfl | ⟨rfl,rfl⟩ | ⟨rfl,rfl,rfl⟩ | ⟨rfl,rfl,rfl,rfl⟩
   all_goals (
    clear hok'
    gi_wp2_with (first | (gi_at_call 32;(first | (with_reducible refine jqa (k1 _) ?_) | (with_reducible refine jqa (k2 _) ?_) | (with_reducible refine jqa (k3 _) ?_) | (with_reducible refine jqa (k4 _) ?_));rintro e w1 ⟨rfl,rfl⟩) | gi_in)
    go_ret;exact⟨by rw [HF.out];rfl,n0⟩)
  ·exact absurd h hok'
end Go.Proofs.YtbbanmifdbeneaaDoor

