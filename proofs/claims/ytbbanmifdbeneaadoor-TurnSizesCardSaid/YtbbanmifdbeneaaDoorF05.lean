import Derived.Test.YtbbanmifdbeneaaDoorF04
import Derived.Sort.BigQuietIn
import Derived.Sort.CutIn
set_option linter.all false
set_option maxRecDepth 100000
set_option maxHeartbeats 4000000
open Go.CallsIn renaming mono → jqa
open Go.Lib renaming hid → jqb
namespace Go.Proofs.YtbbanmifdbeneaaDoor
open Go.RowKit
def zdJ (l:List (Int×Int)) (k:Nat):Int:=if k=0 then -1 else ((l[k-1]?).map (·.2)).getD 0
def za0 (l:List (Int×Int)) (i:Nat) (x:Int×Int):Int:=if 0≤x.1∧x.1≤x.2∧x.2≤999999999 then (if x.1≤zdJ l i then 7 else 0) else 1
def zeD (week from_ long:Int):Bool:=decide ((week=0∧(from_ > 0∨long > 0))∨(week > 0∧(from_+long > week∨long=week)))
def zaJ (d:Dit):Int :=
 if ¬ (0≤d.week∧d.week≤1000) then 1 else if ¬ (0≤d.from_∧d.from_≤1000) then 1 else if ¬ (0≤d.long∧d.long≤1000) then 1 else
 if ¬ (0≤d.begin_∧d.begin_≤999999999) then 1 else if zeD d.week d.from_ d.long then 8 else
 if d.feasts.length > 8 then 2 else scan (za0 d.feasts) 0 d.feasts
theorem zaw (w:World) (cs:Array Value) (t:TypeId) (i:Nat) (v:Value) (h:cs[i]?=some v):(w.alloc (.cells cs t)).cell? ⟨w.heap.size,i,none⟩=some v:=by
 unfold World.cell?;rw [show (w.alloc (.cells cs t)).heap[w.heap.size]?=some (.cells cs t) from heap_alloc_new w _];exact h
theorem zng (x y z:Int) (w:World) :
  ((Instr.index 154 (.agg #[num x,num y,num z]) (num 0)).run Tryd.prog w=.ok (num x) w∧(Instr.index 154 (.agg #[num x,num y,num z]) (num 1)).run Tryd.prog w=.ok (num y) w)∧(Instr.index 154 (.agg #[num x,num y,num z]) (num 2)).run Tryd.prog w=.ok (num z) w:=by
 simp [Instr.index,go_sem]
theorem zmx (B:Nat) (d:Dit) (w:World) (hd:DitAt w B 0 d) (hs:d.Small) :
  CallsIn FL 0 Tryd.prog 93 #[.pointer (some ⟨B,0,none⟩)] w fun e w'=>e=.returned (num (zaJ d))∧Nx w w':=by
 obtain⟨v,c6,hv⟩:=hd.feasts;obtain⟨a,cap,rfl⟩:=hv.cases;rw [List.length_map] at c6 hv;have c2:=hd.begin_;have c3:=hd.week;have c4:=hd.from_;have c5:=hd.long;simp only [Nat.zero_add] at c2 c3 c4 c5 c6;have hlh:=hs.f;have n0:Nx w w:=Below.refl _ _;have cA:∀ w1,Nx w w1→w1.cell? ⟨B,2,none⟩=some (num d.begin_)∧w1.cell? ⟨B,3,none⟩=some (num d.week)∧w1.cell? ⟨B,4,none⟩=some (num d.from_)∧w1.cell? ⟨B,5,none⟩=some (num d.long)∧w1.cell? ⟨B,6,none⟩=some (.slice a d.feasts.length cap) :=
  fun w1 n1=>⟨(n1.cell (by exact hd.lt)).trans c2,(n1.cell (by exact hd.lt)).trans c3,(n1.cell (by exact hd.lt)).trans c4,(n1.cell (by exact hd.lt)).trans c5,(n1.cell (by exact hd.lt)).trans c6⟩
 gi_enter Tryd.func93,Tryd.ntmps93;gi_upto_region 1 with fail
 gi_big_quiet_th (fail);have n1:Nx w (w.drewN nq):=Nx.drewN n0 nq;clear c2 c3 c4 c5 c6;generalize w.drewN nq=w1 at n1 ⊢;gi_wp2
 gi_loopw [24] (fun i wr=>∃ k:Nat,k≤3∧i=num k∧(0<k→0≤d.week∧d.week≤1000)∧(1<k→0≤d.from_∧d.from_≤1000)∧(2<k→0≤d.long∧d.long≤1000)∧Nx w wr) (fun i _=>3-(intOf i).toNat)
 case atStart=>exact⟨0,Nat.zero_le _,rfl,(fun h=>by omega),(fun h=>by omega),(fun h=>by omega),n1⟩
 case round =>
  obtain⟨k,hk,rfl,h1,h2,h3,n2⟩:=hrel;obtain⟨⟨i0,i1⟩,i2⟩:=zng d.week d.from_ d.long wr;rcases k with _ | _ | _ | _ | k
  ·by_cases hr:0≤d.week∧d.week≤1000
   ·gi_wp2_with (first | (gi_at_call 40;refine jqa (zaQ hr _) ?_;rintro e w1 ⟨rfl,rfl⟩) | gi_in)
    exact⟨⟨1,by omega,rfl,(fun _=>hr),(fun h=>by omega),(fun h=>by omega),n2⟩,by simp [intOf]⟩
   ·have HP:Hid (zaJ d=1):=by show _=_;unfold zaJ;rw [if_pos hr]
    gi_wp2_with (first | (gi_at_call 40;refine jqa (zbS hr _) ?_;rintro e w1 ⟨rfl,rfl⟩) | gi_in)
    go_ret;exact⟨by rw [HP.out];rfl,n2⟩
  ·by_cases hr:0≤d.from_∧d.from_≤1000
   ·gi_wp2_with (first | (gi_at_call 40;refine jqa (zaQ hr _) ?_;rintro e w1 ⟨rfl,rfl⟩) | gi_in)
    exact⟨⟨2,by omega,rfl,(fun _=>h1 (by omega)),(fun h=>hr),(fun h=>by omega),n2⟩,by simp [intOf]⟩
   ·have HP:Hid (zaJ d=1):=by show _=_;unfold zaJ;rw [if_neg (fun h=>h (h1 (by omega))),if_pos hr]
    gi_wp2_with (first | (gi_at_call 40;refine jqa (zbS hr _) ?_;rintro e w1 ⟨rfl,rfl⟩) | gi_in)
    go_ret;exact⟨by rw [HP.out];rfl,n2⟩
  ·by_cases hr:0≤d.long∧d.long≤1000
   ·gi_wp2_with (first | (gi_at_call 40;refine jqa (zaQ hr _) ?_;rintro e w1 ⟨rfl,rfl⟩) | gi_in)
    exact⟨⟨3,by omega,rfl,(fun _=>h1 (by omega)),(fun h=>h2 (by omega)),(fun h=>hr),n2⟩,by simp [intOf]⟩
   ·have HP:Hid (zaJ d=1):=by show _=_;unfold zaJ;rw [if_neg (fun h=>h (h1 (by omega))),if_neg (fun h=>h (h2 (by omega))),if_pos hr]
    gi_wp2_with (first | (gi_at_call 40;refine jqa (zbS hr _) ?_;rintro e w1 ⟨rfl,rfl⟩) | gi_in)
    go_ret;exact⟨by rw [HP.out];rfl,n2⟩
  ·replace h1:=h1 (by omega)
   replace h2:=h2 (by omega)
   replace h3:=h3 (by omega)
   obtain⟨e2,e3,e4,e5,e6⟩:=cA _ n2;by_cases hr:0≤d.begin_∧d.begin_≤999999999
   ·have HP0:Hid (zaJ d=if zeD d.week d.from_ d.long then 8 else if d.feasts.length > 8 then 2 else scan (za0 d.feasts) 0 d.feasts):=by
     show _=_;unfold zaJ;rw [if_neg (fun h=>h h1),if_neg (fun h=>h h2),if_neg (fun h=>h h3),if_neg (fun h=>h hr)]
    have room:∀ w1,Nx w w1→zeD d.week d.from_ d.long=true→Hid (zaJ d=8):=fun _ _ h=>by show _=_;rw [HP0.out,if_pos h]
    have roomy:zeD d.week d.from_ d.long=false→Hid (zaJ d=if d.feasts.length > 8 then 2 else scan (za0 d.feasts) 0 d.feasts):=fun h=>by show _=_;rw [HP0.out,if_neg (by rw [h];simp)]
    by_cases hw:d.week=0
    ·have hw1:(d.week == 0)=true:=by simpa using hw
     have hw2:decide (0<d.week)=false:=by simp;omega
     by_cases hf:0<d.from_
     ·have hp:=room _ n2 (by unfold zeD;simp [hw,hf])
      clear room roomy HP0
      gi_wp2_with (first | (gi_at_call 40;refine jqa (zaQ hr _) ?_;rintro e w1 ⟨rfl,rfl⟩) | gi_in)
      go_ret;exact⟨by rw [hp.out];rfl,n2⟩
     ·by_cases hl:0<d.long
      ·have hp:=room _ n2 (by unfold zeD;simp [hw,hl])
       clear room roomy HP0
       gi_wp2_with (first | (gi_at_call 40;refine jqa (zaQ hr _) ?_;rintro e w1 ⟨rfl,rfl⟩) | gi_in)
       go_ret;exact⟨by rw [hp.out];rfl,n2⟩
      ·have hp:=roomy (by unfold zeD;simp [hw];omega)
       clear room roomy HP0;gi_upto_region 11 with (first | (gi_at_call 40;refine jqa (zaQ hr _) ?_;rintro e w1 ⟨rfl,rfl⟩) | gi_in)
       gi_big_quiet_th (fail);have n3:Nx w (w1.drewN nq):=Nx.drewN n2 nq;clear i0 i1 i2;by_cases h8:8<d.feasts.length
       ·have hq:Hid (zaJ d=2):=by show _=_;rw [hp.out,if_pos h8]
        clear hp hv cA;gi_wp2;go_ret;exact⟨by rw [hq.out];rfl,n3⟩
       ·have hq:Hid (zaJ d=scan (za0 d.feasts) 0 d.feasts):=by show _=_;rw [hp.out,if_neg h8]
        clear hp;gi_wp2
        gi_loopw [5,115] (fun l i wr=>∃ k:Nat,k≤d.feasts.length∧i=num k∧l=num (zdJ d.feasts k)∧(scan (za0 d.feasts) 0 d.feasts=scan (za0 d.feasts) k (d.feasts.drop k))∧Nx w wr) (fun _ i _=>d.feasts.length-(intOf i).toNat)
        case atStart=>exact⟨0,Nat.zero_le _,rfl,rfl,rfl,n3⟩
        case round =>
         obtain⟨k,hk,rfl,rfl,hsc,n4⟩:=hrel;by_cases hlt:k<d.feasts.length
         ·obtain⟨b,off,ha,hbl,hcl⟩:=hv.get (by simp;omega)
          subst ha;have hx:d.feasts[k]?=some d.feasts[k]:=List.getElem?_eq_getElem hlt;generalize hxk:d.feasts[k]=x at hx;clear hxk;obtain⟨x1,x2⟩:=x;obtain⟨g1,g2⟩:=Sl.at2 hcl n4 hbl hx;have HG:=jqb fun h0=>zbL hx h0 hsc;have HS:=jqb fun h0=>za4 hx h0 hsc;have hlast:zdJ d.feasts (k+1)=x2:=by simp [zdJ,hx]
          have HL:=jqb hlast;have nA:∀ o,Nx w (wr.alloc o):=fun o=>n4.alloc (by exact n4.size) o;have keyI:∀ w1,Nx w w1→CallsIn FL 0 Tryd.prog 63 #[.agg #[num x1,num x2],num 0,num 999999999] w1 fun e w'=>e=.returned (.bool (decide (0≤x1∧x1≤x2∧x2≤999999999)))∧Nx w1 w':=fun w1 n1=>zcK x1 x2 0 999999999 w1;have cN:∀ w1 o,Nx (wr.alloc (.cells #[num x1,num x2] o)) w1→w1.cell? ⟨wr.heap.size,0,none⟩=some (num x1)∧w1.cell? ⟨wr.heap.size,1,none⟩=some (num x2):=by
           intro w1 o n1;exact⟨(n1.cell (p:=⟨wr.heap.size,0,none⟩) (by simp)).trans (zaw _ _ _ _ _ rfl),(n1.cell (p:=⟨wr.heap.size,1,none⟩) (by simp)).trans (zaw _ _ _ _ _ rfl)⟩
          generalize hpf:za0 d.feasts k (x1,x2)=pf at HG HS;unfold za0 at hpf;generalize zdJ d.feasts k=la at hpf;have HF:=jqb hpf;clear hpf hsc hx hv hcl cA hlast;by_cases hin:0≤x1∧x1≤x2∧x2≤999999999
          ·have kI:=fun w1 n1=>zbK (keyI w1 n1) hin
           clear keyI
           gi_wp2_with (first | (gi_at_call 63;(refine jqa (kI _ (nA _)) ?_);rintro e w1 ⟨rfl,n1⟩;obtain⟨e1,e2⟩:=cN _ _ n1;have n6:=Nx.trans (nA _) n1;clear cN nA) | gi_in)
           ·have hla:x1≤la:=by assumption
            have hz:=HS.out (by rw [← HF.out,if_pos hin,if_pos hla];decide);go_ret;exact⟨by rw [hq.out,hz,← HF.out,if_pos hin,if_pos hla];rfl,n6⟩
           ·have hla:la<x1:=by assumption
            exact⟨⟨k+1,hlt,by simp,by rw [HL.out],HG.out (by rw [← HF.out,if_pos hin,if_neg (by omega)]),n6⟩,by simp [intOf];omega⟩
          ·have kI:=fun w1 n1=>zbF (keyI w1 n1) hin
           clear keyI
           gi_wp2_with (first | (gi_at_call 63;(refine jqa (kI _ (nA _)) ?_);rintro e w1 ⟨rfl,n1⟩;have n6:=Nx.trans (nA _) n1;clear cN nA) | gi_in)
           have hz:=HS.out (by rw [← HF.out,if_neg hin];decide);go_ret;exact⟨by rw [hq.out,hz,← HF.out,if_neg hin];rfl,n6⟩
         ·obtain rfl:k=d.feasts.length:=by omega
          have HZ:=jqb (zbi hsc);clear hsc hv cA;gi_wp2;go_ret;exact⟨by rw [hq.out,HZ.out];rfl,n4⟩
    ·have hw1:(d.week == 0)=false:=by simpa using hw
     have hw2:decide (0<d.week)=true:=by simp;omega
     by_cases hf:d.week<d.from_+d.long
     ·have hp:=room _ n2 (by unfold zeD;simp;omega)
      clear room roomy HP0;gi_upto_region 11 with (first | (gi_at_call 40;refine jqa (zaQ hr _) ?_;rintro e w1 ⟨rfl,rfl⟩) | gi_in)
      gi_big_quiet_th (fail);gi_wp2;go_ret;exact⟨by rw [hp.out];rfl,Nx.drewN n2 _⟩
     ·by_cases hl:d.long=d.week
      ·have hp:=room _ n2 (by unfold zeD;simp;omega)
       have hl1:(d.long == d.week)=true:=by simpa using hl
       have hf2:decide (d.week<d.from_+d.long)=false:=by simpa using hf
       clear room roomy HP0 hl;gi_upto_region 11 with (first | (gi_at_call 40;refine jqa (zaQ hr _) ?_;rintro e w1 ⟨rfl,rfl⟩) | gi_in)
       gi_big_quiet_th (fail);gi_wp2;go_ret;exact⟨by rw [hp.out];rfl,Nx.drewN n2 _⟩
      ·have hp:=roomy (by unfold zeD;simp;omega)
       have hl1:(d.long == d.week)=false:=by simpa using hl
       have hf2:decide (d.week<d.from_+d.long)=false:=by simpa using hf
       clear room roomy HP0;gi_upto_region 11 with (first | (gi_at_call 40;refine jqa (zaQ hr _) ?_;rintro e w1 ⟨rfl,rfl⟩) | gi_in)
       gi_big_quiet_th (fail);have n3:Nx w (w1.drewN nq):=Nx.drewN n2 nq;clear i0 i1 i2;by_cases h8:8<d.feasts.length
       ·have hq:Hid (zaJ d=2):=by show _=_;rw [hp.out,if_pos h8]
        clear hp hv cA;gi_wp2;go_ret;exact⟨by rw [hq.out];rfl,n3⟩
       ·have hq:Hid (zaJ d=scan (za0 d.feasts) 0 d.feasts):=by show _=_;rw [hp.out,if_neg h8]
        clear hp;gi_wp2
        gi_loopw [5,115] (fun l i wr=>∃ k:Nat,k≤d.feasts.length∧i=num k∧l=num (zdJ d.feasts k)∧(scan (za0 d.feasts) 0 d.feasts=scan (za0 d.feasts) k (d.feasts.drop k))∧Nx w wr) (fun _ i _=>d.feasts.length-(intOf i).toNat)
        case atStart=>exact⟨0,Nat.zero_le _,rfl,rfl,rfl,n3⟩
        case round =>
         obtain⟨k,hk,rfl,rfl,hsc,n4⟩:=hrel;by_cases hlt:k<d.feasts.length
         ·obtain⟨b,off,ha,hbl,hcl⟩:=hv.get (by simp;omega)
          subst ha;have hx:d.feasts[k]?=some d.feasts[k]:=List.getElem?_eq_getElem hlt;generalize hxk:d.feasts[k]=x at hx;clear hxk;obtain⟨x1,x2⟩:=x;obtain⟨g1,g2⟩:=Sl.at2 hcl n4 hbl hx;have HG:=jqb fun h0=>zbL hx h0 hsc;have HS:=jqb fun h0=>za4 hx h0 hsc;have hlast:zdJ d.feasts (k+1)=x2:=by simp [zdJ,hx]
          have HL:=jqb hlast;have nA:∀ o,Nx w (wr.alloc o):=fun o=>n4.alloc (by exact n4.size) o;have keyI:∀ w1,Nx w w1→CallsIn FL 0 Tryd.prog 63 #[.agg #[num x1,num x2],num 0,num 999999999] w1 fun e w'=>e=.returned (.bool (decide (0≤x1∧x1≤x2∧x2≤999999999)))∧Nx w1 w':=fun w1 n1=>zcK x1 x2 0 999999999 w1;have cN:∀ w1 o,Nx (wr.alloc (.cells #[num x1,num x2] o)) w1→w1.cell? ⟨wr.heap.size,0,none⟩=some (num x1)∧w1.cell? ⟨wr.heap.size,1,none⟩=some (num x2):=by
           intro w1 o n1;exact⟨(n1.cell (p:=⟨wr.heap.size,0,none⟩) (by simp)).trans (zaw _ _ _ _ _ rfl),(n1.cell (p:=⟨wr.heap.size,1,none⟩) (by simp)).trans (zaw _ _ _ _ _ rfl)⟩
          generalize hpf:za0 d.feasts k (x1,x2)=pf at HG HS;unfold za0 at hpf;generalize zdJ d.feasts k=la at hpf;have HF:=jqb hpf;clear hpf hsc hx hv hcl cA hlast;by_cases hin:0≤x1∧x1≤x2∧x2≤999999999
          ·have kI:=fun w1 n1=>zbK (keyI w1 n1) hin
           clear keyI
           gi_wp2_with (first | (gi_at_call 63;(refine jqa (kI _ (nA _)) ?_);rintro e w1 ⟨rfl,n1⟩;obtain⟨e1,e2⟩:=cN _ _ n1;have n6:=Nx.trans (nA _) n1;clear cN nA) | gi_in)
           ·have hla:x1≤la:=by assumption
            have hz:=HS.out (by rw [← HF.out,if_pos hin,if_pos hla];decide);go_ret;exact⟨by rw [hq.out,hz,← HF.out,if_pos hin,if_pos hla];rfl,n6⟩
           ·have hla:la<x1:=by assumption
            exact⟨⟨k+1,hlt,by simp,by rw [HL.out],HG.out (by rw [← HF.out,if_pos hin,if_neg (by omega)]),n6⟩,by simp [intOf];omega⟩
          ·have kI:=fun w1 n1=>zbF (keyI w1 n1) hin
           clear keyI
           gi_wp2_with (first | (gi_at_call 63;(refine jqa (kI _ (nA _)) ?_);rintro e w1 ⟨rfl,n1⟩;have n6:=Nx.trans (nA _) n1;clear cN nA) | gi_in)
           have hz:=HS.out (by rw [← HF.out,if_neg hin];decide);go_ret;exact⟨by rw [hq.out,hz,← HF.out,if_neg hin];rfl,n6⟩
         ·obtain rfl:k=d.feasts.length:=by omega
          have HZ:=jqb (zbi hsc);clear hsc hv cA;gi_wp2;go_ret;exact⟨by rw [hq.out,HZ.out];rfl,n4⟩
   ·have HP:Hid (zaJ d=1):=by show _=_;unfold zaJ;rw [if_neg (fun h=>h h1),if_neg (fun h=>h h2),if_neg (fun h=>h h3),if_pos hr]
    gi_wp2_with (first | (gi_at_call 40;refine jqa (zbS hr _) ?_;rintro e w1 ⟨rfl,rfl⟩) | gi_in)
    go_ret;exact⟨by rw [HP.out];rfl,n2⟩
  ·omega
end Go.Proofs.YtbbanmifdbeneaaDoor
