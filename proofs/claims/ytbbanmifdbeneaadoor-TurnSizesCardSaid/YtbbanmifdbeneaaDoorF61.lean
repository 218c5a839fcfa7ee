/- The check of a ditch by the specification, walked: what the laws of this seat use of it. Conditions: as the claim tells them. -/
import Derived.Test.YtbbanmifdbeneaaDoorF44
import Derived.Test.YtbbanmifdbeneaaDoorF46
set_option linter.all false
set_option maxRecDepth 100000
set_option maxHeartbeats 4000000
open Go.Lib renaming hid → jqa
open Go.CallsIn renaming mono → jqb
namespace Go.Proofs.YtbbanmifdbeneaaDoor
open Go.RowKit
def chgR (b1 b2 b3:Bool):Int:=if b1 then (if b2 then (if b3 then 0 else 6) else 6) else 1
theorem ziH (b1 b2 b3:Bool):(b1=false∨(b1=true∧b2=false)∨(b1=true∧b2=true∧b3=false))∨(b1=true∧b2=true∧b3=true):=by cases b1<;>cases b2<;>cases b3<;>simp
theorem zjC (t k:Nat) (x y z:Int):zbX t k (x,y,z)=chgR (decide (0≤x∧x≤999999999)) (decide (0≤y∧y≤(t:Int)-1)) (decide (0≤z∧z≤(t:Int)-1)):=by
 unfold zbX chgR;simp only [decide_eq_true_eq];split
 ·by_cases h1:0≤y∧y≤(t:Int)-1
  ·by_cases h2:0≤z∧z≤(t:Int)-1<;>simp [h1,h2]
  ·simp [h1]
 ·rfl
theorem zjV (t h k:Nat) (x y z:Int):zch t h k (x,y,z)=chgR (decide (0≤x∧x≤999999999)) (decide (0≤y∧y≤(t:Int)-1)) (decide (0≤z∧z≤(h:Int)-1)):=by
 unfold zch chgR;simp only [decide_eq_true_eq];split
 ·by_cases h1:0≤y∧y≤(t:Int)-1
  ·by_cases h2:0≤z∧z≤(h:Int)-1<;>simp [h1,h2]
  ·simp [h1]
 ·rfl
theorem zdv (d:Dit) (r:zaR) (w:World) (hd:DitSl w d r) (hs:d.Small) :
  CallsIn FL 0 Tryd.prog 20 #[d.val r] w fun e w'=>e=.returned (num (zaq d))∧Nx w w':=by
 obtain⟨W,hW,n0,hWs,cW⟩:=boxed w d r;obtain⟨a,cap,ea⟩:=hd.swaps.cases;obtain⟨a1,cap1,ea1⟩:=hd.loans.cases;obtain⟨ah,caph,eh⟩:=hd.holders.cases;obtain⟨at',capt,et⟩:=hd.turns.cases;rw [List.length_map] at ea ea1 eh et;have hv:=hd.swaps.nx n0;have hv1:=hd.loans.nx n0;rw [ea] at hv;rw [ea1] at hv1;have cB:∀ w1,Nx W w1→w1.cell? ⟨w.heap.size,7,none⟩=some (.slice a d.swaps.length cap)∧w1.cell? ⟨w.heap.size,8,none⟩=some (.slice a1 d.loans.length cap1)∧w1.cell? ⟨w.heap.size,0,none⟩=some (.slice ah d.holders.length caph)∧w1.cell? ⟨w.heap.size,1,none⟩=some (.slice at' d.turns.length capt) :=
  fun w1 n1=>⟨(cW _ n1 7 r.s rfl).trans (by rw [ea]),(cW _ n1 8 r.l rfl).trans (by rw [ea1]),(cW _ n1 0 r.h rfl).trans (by rw [eh]),(cW _ n1 1 r.t rfl).trans (by rw [et])⟩
 have hl1:=hs.s;have hl2:=hs.l;have hl3:=hs.h;have hl4:=hs.t;have nWW:Nx W W:=Below.refl _ _;obtain⟨f0,f1,f2,f3⟩:=cB _ nWW;clear cW;gi_enter Tryd.func20,Tryd.ntmps20;by_cases h6:8<d.swaps.length
 ·have HP:=jqa (show zaq d=2 by unfold zaq;rw [if_pos h6])
  clear hv hv1 cB;gi_wp2;go_ret;exact⟨by rw [HP.out];rfl,n0⟩
 ·have HP1:=jqa (show scan (zbX d.turns.length) 0 d.swaps≠0→zaq d=scan (zbX d.turns.length) 0 d.swaps by
   intro h;unfold zaq;rw [if_neg h6,if_pos h])
  have HP2:=jqa (show scan (zbX d.turns.length) 0 d.swaps=0→zaq d=if d.loans.length > 8 then 2 else scan (zch d.turns.length d.holders.length) 0 d.loans by
   intro h;unfold zaq;rw [if_neg h6,if_neg (by rw [h];simp)])
  gi_wp2
  gi_loopw [4] (fun i wr=>∃ k:Nat,k≤d.swaps.length∧i=num k∧(scan (zbX d.turns.length) 0 d.swaps=scan (zbX d.turns.length) k (d.swaps.drop k))∧Nx W wr) (fun i _=>d.swaps.length-(intOf i).toNat)
  case atStart=>exact⟨0,Nat.zero_le _,rfl,rfl,nWW⟩
  case round =>
   obtain⟨k,hk,rfl,hsc,n2⟩:=hrel;obtain⟨f0,f1,f2,f3⟩:=cB _ n2;by_cases hlt:k<d.swaps.length
   ·obtain⟨b,off,ha,hbl,hcl⟩:=hv.get (by simp;omega)
    subst ha;have hx:d.swaps[k]?=some d.swaps[k]:=List.getElem?_eq_getElem hlt;generalize hxk:d.swaps[k]=x at hx;clear hxk;obtain⟨x1,x2,x3⟩:=x;obtain⟨g1,g2,g3⟩:=Sl.at3 hcl n2 hbl hx;have HG:=jqa fun h0=>zbL hx h0 hsc;have HS:=jqa fun h0=>za4 hx h0 hsc;have hf:=zjC d.turns.length k x1 x2 x3;have kA:=fun w1=>zby x1 0 999999999 w1;have kB:=fun w1=>zby x2 0 ((d.turns.length:Int)-1) w1;have kC:=fun w1=>zby x3 0 ((d.turns.length:Int)-1) w1;generalize zbX d.turns.length k (x1,x2,x3)=pf at HG HS hf;generalize decide (0≤x1∧x1≤999999999)=b1 at kA hf;generalize decide (0≤x2∧x2≤(d.turns.length:Int)-1)=b2 at kB hf;generalize decide (0≤x3∧x3≤(d.turns.length:Int)-1)=b3 at kC hf;have n5:Nx w wr:=Nx.trans n0 n2;clear hsc hcl hx hv hv1 cB;rcases ziH b1 b2 b3 with h | ⟨rfl,rfl,rfl⟩
    ·rcases h with rfl | ⟨rfl,rfl⟩ | ⟨rfl,rfl,rfl⟩
     all_goals (
      have hz:=jqa (HS.out (by rw [hf];simp [chgR]))
      gi_wp2_with (first | (gi_at_call 32;(first | (with_reducible refine jqb (kA _) ?_) | (with_reducible refine jqb (kB _) ?_) | (with_reducible refine jqb (kC _) ?_));rintro e w1 ⟨rfl,rfl⟩) | gi_in)
      go_ret;exact⟨by rw [HP1.out (by rw [hz.out,hf];simp [chgR]),hz.out,hf];rfl,n5⟩)
    ·have hz:=jqa (HG.out (by rw [hf];rfl))
     gi_wp2_with (first | (gi_at_call 32;(first | (with_reducible refine jqb (kA _) ?_) | (with_reducible refine jqb (kB _) ?_) | (with_reducible refine jqb (kC _) ?_));rintro e w1 ⟨rfl,rfl⟩) | gi_in)
     exact⟨⟨k+1,hlt,by simp,hz.out,n2⟩,by simp [intOf];omega⟩
   ·obtain rfl:k=d.swaps.length:=by omega
    have HZ:=jqa (zbi hsc);clear hsc hv;by_cases hmt:8<d.loans.length
    ·have HP3:=jqa (show zaq d=2 by rw [HP2.out HZ.out,if_pos hmt])
     clear hv1 cB;gi_wp2;go_ret;exact⟨by rw [HP3.out];rfl,Nx.trans n0 n2⟩
    ·have HP3:=jqa (show zaq d=scan (zch d.turns.length d.holders.length) 0 d.loans by rw [HP2.out HZ.out,if_neg hmt])
     gi_wp2
     gi_loopw [5] (fun i wr'=>∃ k:Nat,k≤d.loans.length∧i=num k∧(scan (zch d.turns.length d.holders.length) 0 d.loans=scan (zch d.turns.length d.holders.length) k (d.loans.drop k))∧Nx W wr') (fun i _=>d.loans.length-(intOf i).toNat)
     case atStart=>exact⟨0,Nat.zero_le _,rfl,rfl,by assumption⟩
     case round =>
      obtain⟨k,hk,rfl,hsc,n4⟩:=hrel;obtain⟨f0,f1,f2,f3⟩:=cB _ n4;by_cases hlt:k<d.loans.length
      ·obtain⟨b,off,ha,hbl,hcl⟩:=hv1.get (by simp;omega)
       subst ha;have hx:d.loans[k]?=some d.loans[k]:=List.getElem?_eq_getElem hlt;generalize hxk:d.loans[k]=x at hx;clear hxk;obtain⟨x1,x2,x3⟩:=x;obtain⟨g1,g2,g3⟩:=Sl.at3 hcl n4 hbl hx;have HG:=jqa fun h0=>zbL hx h0 hsc;have HS:=jqa fun h0=>za4 hx h0 hsc;have hf:=zjV d.turns.length d.holders.length k x1 x2 x3;have kA:=fun w1=>zby x1 0 999999999 w1;have kB:∀ n,CallsIn FL 0 Tryd.prog 32 #[num x2,num 0,num ((d.turns.length:Int)-1)] (wr.drewN n) fun e w'=>e=.returned (.bool (decide (0≤x2∧x2≤(d.turns.length:Int)-1)))∧∃ m,w'=wr.drewN m:=fun n=>(zby x2 0 ((d.turns.length:Int)-1) _).mono fun e w' ⟨p,q⟩=>⟨p,n,q⟩;have kC:∀ n,CallsIn FL 0 Tryd.prog 32 #[num x3,num 0,num ((d.holders.length:Int)-1)] (wr.drewN n) fun e w'=>e=.returned (.bool (decide (0≤x3∧x3≤(d.holders.length:Int)-1)))∧∃ m,w'=wr.drewN m:=fun n=>(zby x3 0 ((d.holders.length:Int)-1) _).mono fun e w' ⟨p,q⟩=>⟨p,n,q⟩;generalize zch d.turns.length d.holders.length k (x1,x2,x3)=pf at HG HS hf;generalize decide (0≤x1∧x1≤999999999)=b1 at kA hf;generalize decide (0≤x2∧x2≤(d.turns.length:Int)-1)=b2 at kB hf;generalize decide (0≤x3∧x3≤(d.holders.length:Int)-1)=b3 at kC hf;have n5:Nx w wr:=Nx.trans n0 n4;clear hsc hcl hx hv1 cB;rcases ziH b1 b2 b3 with (rfl | ⟨rfl,rfl⟩ | ⟨rfl,rfl,rfl⟩) | ⟨rfl,rfl,rfl⟩
       ·have hz:=jqa (HS.out (by rw [hf];simp [chgR]))
        clear kB kC
        gi_wp2_with (first | (gi_at_call 32;(refine jqb (kA _) ?_);rintro e w1 ⟨rfl,rfl⟩) | gi_in)
        go_ret;exact⟨by rw [HP3.out,hz.out,hf];rfl,n5⟩
       ·have hz:=jqa (HS.out (by rw [hf];simp [chgR]))
        gi_upto_region 18 with (first | (gi_at_call 32;(refine jqb (kA _) ?_);rintro e w1 ⟨rfl,rfl⟩) | gi_in)
        clear kA kC;gi_big_quiet_th (first | (gi_at_call 32;refine kB _));gi_wp2;go_ret;exact⟨by rw [HP3.out,hz.out,hf];rfl,Nx.drewN n5 _⟩
       ·have hz:=jqa (HS.out (by rw [hf];simp [chgR]))
        gi_upto_region 18 with (first | (gi_at_call 32;(refine jqb (kA _) ?_);rintro e w1 ⟨rfl,rfl⟩) | gi_in)
        clear kA;gi_big_quiet_th (first | (gi_at_call 32;(first | with_reducible refine kB _ | with_reducible refine kC _)));gi_wp2;go_ret;exact⟨by rw [HP3.out,hz.out,hf];rfl,Nx.drewN n5 _⟩
       ·have hz:=jqa (HG.out (by rw [hf];rfl))
        gi_upto_region 18 with (first | (gi_at_call 32;(refine jqb (kA _) ?_);rintro e w1 ⟨rfl,rfl⟩) | gi_in)
        clear kA;gi_big_quiet_th (first | (gi_at_call 32;(first | with_reducible refine kB _ | with_reducible refine kC _)));gi_wp2;exact⟨⟨k+1,hlt,by simp,hz.out,Nx.drewN n4 _⟩,by simp [intOf];omega⟩
      ·obtain rfl:k=d.loans.length:=by omega
       have HZ:=jqa (zbi hsc);clear hsc hv1 cB;gi_wp2;go_ret;exact⟨by rw [HP3.out,HZ.out];rfl,Nx.trans n0 n4⟩
theorem zgI (d:Dit) (r:zaR) (w:World) (hd:DitSl w d r) (hs:d.Small) :
  CallsIn FL 0 Tryd.prog 6 #[d.val r] w fun e w'=>e=.returned (num (zaF d))∧Nx w w':=by
 obtain⟨W,hW,n0,hWs,cW⟩:=boxed w d r;have nWW:Nx W W:=Below.refl _ _;have c0:=fun w1 n1=>cW w1 n1 0 _ rfl;have c1:=fun w1 n1=>cW w1 n1 1 _ rfl;have c2:=fun w1 n1=>cW w1 n1 2 _ rfl;have c3:=fun w1 n1=>cW w1 n1 3 _ rfl;have c4:=fun w1 n1=>cW w1 n1 4 _ rfl;have c5:=fun w1 n1=>cW w1 n1 5 _ rfl;have c6:=fun w1 n1=>cW w1 n1 6 _ rfl;have c7:=fun w1 n1=>cW w1 n1 7 _ rfl;have c8:=fun w1 n1=>cW w1 n1 8 _ rfl;have c9:=fun w1 n1=>cW w1 n1 9 _ rfl;have c10:=fun w1 n1=>cW w1 n1 10 _ rfl;have c11:=fun w1 n1=>cW w1 n1 11 _ rfl;have c12:=fun w1 n1=>cW w1 n1 12 _ rfl;have c13:=fun w1 n1=>cW w1 n1 13 _ rfl;have k62:∀ w1,Nx W w1→CallsIn FL 0 Tryd.prog 18 #[d.val r] w1 fun e w'=>e=.returned (num (zaI d))∧Nx W w':=fun w1 n1=>(zfF d r w1 (hd.nx (Nx.trans n0 n1)) hs).mono fun e w' ⟨x,y⟩=>⟨x,Nx.trans n1 y⟩;have k63:∀ w1,Nx W w1→CallsIn FL 0 Tryd.prog 19 #[d.val r] w1 fun e w'=>e=.returned (num (zaJ d))∧Nx W w':=fun w1 n1=>(zgA d r w1 (hd.nx (Nx.trans n0 n1)) hs).mono fun e w' ⟨x,y⟩=>⟨x,Nx.trans n1 y⟩;have k64:∀ w1,Nx W w1→CallsIn FL 0 Tryd.prog 20 #[d.val r] w1 fun e w'=>e=.returned (num (zaq d))∧Nx W w':=fun w1 n1=>(zdv d r w1 (hd.nx (Nx.trans n0 n1)) hs).mono fun e w' ⟨x,y⟩=>⟨x,Nx.trans n1 y⟩;have k65:∀ w1,Nx W w1→CallsIn FL 0 Tryd.prog 21 #[d.val r] w1 fun e w'=>e=.returned (num (zaO d))∧Nx W w':=fun w1 n1=>(zfE d r w1 (hd.nx (Nx.trans n0 n1)) hs).mono fun e w' ⟨x,y⟩=>⟨x,Nx.trans n1 y⟩;have HC:=jqa (show zaF d=if zaI d≠0 then zaI d else if zaJ d≠0 then zaJ d else if zaq d≠0 then zaq d else zaO d from rfl)
 generalize zaI d=p1 at k62 HC;generalize zaJ d=p2 at k63 HC;generalize zaq d=p3 at k64 HC;generalize zaO d=p4 at k65 HC;clear hd hs cW;have d0:=c0 _ nWW;have d1:=c1 _ nWW;have d2:=c2 _ nWW;have d3:=c3 _ nWW;have d4:=c4 _ nWW;have d5:=c5 _ nWW;have d6:=c6 _ nWW;have d7:=c7 _ nWW;have d8:=c8 _ nWW;have d9:=c9 _ nWW;have d10:=c10 _ nWW;have d11:=c11 _ nWW;have d12:=c12 _ nWW;have d13:=c13 _ nWW;gi_enter Tryd.func6,Tryd.ntmps6;by_cases h1:p1=0
 ·have b1:(p1 != 0)=false:=by simpa using h1
  by_cases h2:p2=0
  ·have b2:(p2 != 0)=false:=by simpa using h2
   by_cases h3:p3=0
   ·have b3:(p3 != 0)=false:=by simpa using h3
    have HF:=jqa (show zaF d=p4 by rw [HC.out,if_neg (by simpa using h1),if_neg (by simpa using h2),if_neg (by simpa using h3)]);clear HC h1 h2 h3
    gi_wp2_with (first
     | (gi_at_call 18;refine jqb (k62 _ (by assumption)) ?_;rintro e w1 ⟨rfl,n1⟩;have d0:=c0 _ n1;have d1:=c1 _ n1;have d2:=c2 _ n1;have d3:=c3 _ n1;have d4:=c4 _ n1;have d5:=c5 _ n1;have d6:=c6 _ n1;have d7:=c7 _ n1;have d8:=c8 _ n1;have d9:=c9 _ n1;have d10:=c10 _ n1;have d11:=c11 _ n1;have d12:=c12 _ n1;have d13:=c13 _ n1)
     | (gi_at_call 19;refine jqb (k63 _ (by assumption)) ?_;rintro e w1 ⟨rfl,n1⟩;have d0:=c0 _ n1;have d1:=c1 _ n1;have d2:=c2 _ n1;have d3:=c3 _ n1;have d4:=c4 _ n1;have d5:=c5 _ n1;have d6:=c6 _ n1;have d7:=c7 _ n1;have d8:=c8 _ n1;have d9:=c9 _ n1;have d10:=c10 _ n1;have d11:=c11 _ n1;have d12:=c12 _ n1;have d13:=c13 _ n1)
     | (gi_at_call 20;refine jqb (k64 _ (by assumption)) ?_;rintro e w1 ⟨rfl,n1⟩;have d0:=c0 _ n1;have d1:=c1 _ n1;have d2:=c2 _ n1;have d3:=c3 _ n1;have d4:=c4 _ n1;have d5:=c5 _ n1;have d6:=c6 _ n1;have d7:=c7 _ n1;have d8:=c8 _ n1;have d9:=c9 _ n1;have d10:=c10 _ n1;have d11:=c11 _ n1;have d12:=c12 _ n1;have d13:=c13 _ n1)
     | (gi_at_call 21;refine jqb (k65 _ (by assumption)) ?_;rintro e w1 ⟨rfl,n1⟩)
     | gi_in)
    go_ret;exact⟨by rw [HF.out];rfl,Nx.trans n0 (by assumption)⟩
   ·have b3:(p3 != 0)=true:=by simpa using h3
    have HF:=jqa (show zaF d=p3 by rw [HC.out,if_neg (by simpa using h1),if_neg (by simpa using h2),if_pos h3]);clear HC h1 h2 h3
    gi_wp2_with (first
     | (gi_at_call 18;refine jqb (k62 _ (by assumption)) ?_;rintro e w1 ⟨rfl,n1⟩;have d0:=c0 _ n1;have d1:=c1 _ n1;have d2:=c2 _ n1;have d3:=c3 _ n1;have d4:=c4 _ n1;have d5:=c5 _ n1;have d6:=c6 _ n1;have d7:=c7 _ n1;have d8:=c8 _ n1;have d9:=c9 _ n1;have d10:=c10 _ n1;have d11:=c11 _ n1;have d12:=c12 _ n1;have d13:=c13 _ n1)
     | (gi_at_call 19;refine jqb (k63 _ (by assumption)) ?_;rintro e w1 ⟨rfl,n1⟩;have d0:=c0 _ n1;have d1:=c1 _ n1;have d2:=c2 _ n1;have d3:=c3 _ n1;have d4:=c4 _ n1;have d5:=c5 _ n1;have d6:=c6 _ n1;have d7:=c7 _ n1;have d8:=c8 _ n1;have d9:=c9 _ n1;have d10:=c10 _ n1;have d11:=c11 _ n1;have d12:=c12 _ n1;have d13:=c13 _ n1)
     | (gi_at_call 20;refine jqb (k64 _ (by assumption)) ?_;rintro e w1 ⟨rfl,n1⟩)
     | gi_in)
    go_ret;exact⟨by rw [HF.out];rfl,Nx.trans n0 (by assumption)⟩
  ·have b2:(p2 != 0)=true:=by simpa using h2
   have HF:=jqa (show zaF d=p2 by rw [HC.out,if_neg (by simpa using h1),if_pos h2]);clear HC h1 h2
   gi_wp2_with (first
    | (gi_at_call 18;refine jqb (k62 _ (by assumption)) ?_;rintro e w1 ⟨rfl,n1⟩;have d0:=c0 _ n1;have d1:=c1 _ n1;have d2:=c2 _ n1;have d3:=c3 _ n1;have d4:=c4 _ n1;have d5:=c5 _ n1;have d6:=c6 _ n1;have d7:=c7 _ n1;have d8:=c8 _ n1;have d9:=c9 _ n1;have d10:=c10 _ n1;have d11:=c11 _ n1;have d12:=c12 _ n1;have d13:=c13 _ n1)
    | (gi_at_call 19;refine jqb (k63 _ (by assumption)) ?_;rintro e w1 ⟨rfl,n1⟩)
    | gi_in)
   go_ret;exact⟨by rw [HF.out];rfl,Nx.trans n0 (by assumption)⟩
 ·have b1:(p1 != 0)=true:=by simpa using h1
  have HF:=jqa (show zaF d=p1 by rw [HC.out,if_pos h1]);clear HC h1
  gi_wp2_with (first
   | (gi_at_call 18;refine jqb (k62 _ (by assumption)) ?_;rintro e w1 ⟨rfl,n1⟩)
   | gi_in)
  go_ret;exact⟨by rw [HF.out];rfl,Nx.trans n0 (by assumption)⟩
end Go.Proofs.YtbbanmifdbeneaaDoor

