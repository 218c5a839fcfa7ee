import Derived.Test.YtolholkjeehamaaDoorC44
import Derived.Test.YtolholkjeehamaaDoorC46
import Derived.Test.YtolholkjeehamaaDoorC43
set_option linter.all false
set_option maxRecDepth 100000
set_option maxHeartbeats 4000000
namespace Go.Proofs.YtolholkjeehamaaDoor
open Go.RowKit
def chgR (b1 b2 b3:Bool):Int:=if b1 then (if b2 then (if b3 then 0 else 6) else 6) else 1
theorem chain3 (b1 b2 b3:Bool):(b1=false∨(b1=true∧b2=false)∨(b1=true∧b2=true∧b3=false))∨(b1=true∧b2=true∧b3=true):=by cases b1<;>cases b2<;>cases b3<;>simp
theorem swapF_R (t k:Nat) (x y z:Int):swapF t k (x,y,z)=chgR (decide (0≤x∧x≤999999999)) (decide (0≤y∧y≤(t:Int)-1)) (decide (0≤z∧z≤(t:Int)-1)):=by
 unfold swapF chgR
 simp only [decide_eq_true_eq]
 split
 ·by_cases h1:0≤y∧y≤(t:Int)-1
  ·by_cases h2:0≤z∧z≤(t:Int)-1<;>simp [h1,h2]
  ·simp [h1]
 ·rfl
theorem loanF_R (t h k:Nat) (x y z:Int):loanF t h k (x,y,z)=chgR (decide (0≤x∧x≤999999999)) (decide (0≤y∧y≤(t:Int)-1)) (decide (0≤z∧z≤(h:Int)-1)):=by
 unfold loanF chgR
 simp only [decide_eq_true_eq]
 split
 ·by_cases h1:0≤y∧y≤(t:Int)-1
  ·by_cases h2:0≤z∧z≤(h:Int)-1<;>simp [h1,h2]
  ·simp [h1]
 ·rfl
theorem changes64_any (d:Dit) (r:Rows6) (w:World) (hd:DitSl w d r) (hs:d.Small) :
  CallsIn FL 0 Tryd.prog 64 #[d.val r] w fun e w'=>e=.returned (num (changesS d))∧Nx w w':=by
 obtain⟨W,hW,n0,hWs,cW⟩:=boxed w d r
 obtain⟨a,cap,ea⟩:=hd.swaps.cases
 obtain⟨a1,cap1,ea1⟩:=hd.loans.cases
 obtain⟨ah,caph,eh⟩:=hd.holders.cases
 obtain⟨at',capt,et⟩:=hd.turns.cases
 rw [List.length_map] at ea ea1 eh et
 have hv:=hd.swaps.nx n0
 have hv1:=hd.loans.nx n0
 rw [ea] at hv
 rw [ea1] at hv1
 have cB:∀ w1,Nx W w1→w1.cell? ⟨w.heap.size,7,none⟩=some (.slice a d.swaps.length cap)∧w1.cell? ⟨w.heap.size,8,none⟩=some (.slice a1 d.loans.length cap1)∧w1.cell? ⟨w.heap.size,0,none⟩=some (.slice ah d.holders.length caph)∧w1.cell? ⟨w.heap.size,1,none⟩=some (.slice at' d.turns.length capt) :=
  fun w1 n1=>⟨(cW _ n1 7 r.s rfl).trans (by rw [ea]),(cW _ n1 8 r.l rfl).trans (by rw [ea1]),(cW _ n1 0 r.h rfl).trans (by rw [eh]),(cW _ n1 1 r.t rfl).trans (by rw [et])⟩
 have hl1:=hs.s
 have hl2:=hs.l
 have hl3:=hs.h
 have hl4:=hs.t
 have nWW:Nx W W:=Below.refl _ _
 obtain⟨f0,f1,f2,f3⟩:=cB _ nWW
 clear cW
 gi_enter Tryd.func64,Tryd.ntmps64
 by_cases h6:8<d.swaps.length
 ·have HP:=Lib.hid (show changesS d=2 by unfold changesS;rw [if_pos h6])
  clear hv hv1 cB
  gi_wp2
  go_ret
  exact⟨by rw [HP.out];rfl,n0⟩
 ·have HP1:=Lib.hid (show scan (swapF d.turns.length) 0 d.swaps≠0→changesS d=scan (swapF d.turns.length) 0 d.swaps by
   intro h
   unfold changesS
   rw [if_neg h6,if_pos h])
  have HP2:=Lib.hid (show scan (swapF d.turns.length) 0 d.swaps=0→changesS d=if d.loans.length > 8 then 2 else scan (loanF d.turns.length d.holders.length) 0 d.loans by
   intro h
   unfold changesS
   rw [if_neg h6,if_neg (by rw [h];simp)])
  gi_wp2
  gi_loopw [4] (fun i wr=>∃ k:Nat,k≤d.swaps.length∧i=num k∧(scan (swapF d.turns.length) 0 d.swaps=scan (swapF d.turns.length) k (d.swaps.drop k))∧Nx W wr) (fun i _=>d.swaps.length-(intOf i).toNat)
  case atStart=>exact⟨0,Nat.zero_le _,rfl,rfl,nWW⟩
  case round =>
   obtain⟨k,hk,rfl,hsc,n2⟩:=hrel
   obtain⟨f0,f1,f2,f3⟩:=cB _ n2
   by_cases hlt:k<d.swaps.length
   ·obtain⟨b,off,ha,hbl,hcl⟩:=hv.get (by simp;omega)
    subst ha
    have hx:d.swaps[k]?=some d.swaps[k]:=List.getElem?_eq_getElem hlt
    generalize hxk:d.swaps[k]=x at hx
    clear hxk
    obtain⟨x1,x2,x3⟩:=x
    obtain⟨g1,g2,g3⟩:=Sl.at3 hcl n2 hbl hx
    have HG:=Lib.hid fun h0=>scan_go hx h0 hsc
    have HS:=Lib.hid fun h0=>scan_stop hx h0 hsc
    have hf:=swapF_R d.turns.length k x1 x2 x3
    have kA:=fun w1=>in_any x1 0 999999999 w1
    have kB:=fun w1=>in_any x2 0 ((d.turns.length:Int)-1) w1
    have kC:=fun w1=>in_any x3 0 ((d.turns.length:Int)-1) w1
    generalize swapF d.turns.length k (x1,x2,x3)=pf at HG HS hf
    generalize decide (0≤x1∧x1≤999999999)=b1 at kA hf
    generalize decide (0≤x2∧x2≤(d.turns.length:Int)-1)=b2 at kB hf
    generalize decide (0≤x3∧x3≤(d.turns.length:Int)-1)=b3 at kC hf
    have n5:Nx w wr:=Nx.trans n0 n2
    clear hsc hcl hx hv hv1 cB
    rcases chain3 b1 b2 b3 with h | ⟨rfl,rfl,rfl⟩
    ·rcases h with rfl | ⟨rfl,rfl⟩ | ⟨rfl,rfl,rfl⟩
     all_goals (
      have hz:=Lib.hid (HS.out (by rw [hf];simp [chgR]))
      gi_wp2_with (first | (gi_at_call 71;(first | (with_reducible refine CallsIn.mono (kA _) ?_) | (with_reducible refine CallsIn.mono (kB _) ?_) | (with_reducible refine CallsIn.mono (kC _) ?_));rintro e w1 ⟨rfl,rfl⟩) | gi_in)
      go_ret
      exact⟨by rw [HP1.out (by rw [hz.out,hf];simp [chgR]),hz.out,hf];rfl,n5⟩)
    ·have hz:=Lib.hid (HG.out (by rw [hf];rfl))
     gi_wp2_with (first | (gi_at_call 71;(first | (with_reducible refine CallsIn.mono (kA _) ?_) | (with_reducible refine CallsIn.mono (kB _) ?_) | (with_reducible refine CallsIn.mono (kC _) ?_));rintro e w1 ⟨rfl,rfl⟩) | gi_in)
     exact⟨⟨k+1,hlt,by simp,hz.out,n2⟩,by simp [intOf];omega⟩
   ·obtain rfl:k=d.swaps.length:=by omega
    have HZ:=Lib.hid (scan_end hsc)
    clear hsc hv
    by_cases hmt:8<d.loans.length
    ·have HP3:=Lib.hid (show changesS d=2 by rw [HP2.out HZ.out,if_pos hmt])
     clear hv1 cB
     gi_wp2
     go_ret
     exact⟨by rw [HP3.out];rfl,Nx.trans n0 n2⟩
    ·have HP3:=Lib.hid (show changesS d=scan (loanF d.turns.length d.holders.length) 0 d.loans by rw [HP2.out HZ.out,if_neg hmt])
     gi_wp2
     gi_loopw [5] (fun i wr'=>∃ k:Nat,k≤d.loans.length∧i=num k∧(scan (loanF d.turns.length d.holders.length) 0 d.loans=scan (loanF d.turns.length d.holders.length) k (d.loans.drop k))∧Nx W wr') (fun i _=>d.loans.length-(intOf i).toNat)
     case atStart=>exact⟨0,Nat.zero_le _,rfl,rfl,by assumption⟩
     case round =>
      obtain⟨k,hk,rfl,hsc,n4⟩:=hrel
      obtain⟨f0,f1,f2,f3⟩:=cB _ n4
      by_cases hlt:k<d.loans.length
      ·obtain⟨b,off,ha,hbl,hcl⟩:=hv1.get (by simp;omega)
       subst ha
       have hx:d.loans[k]?=some d.loans[k]:=List.getElem?_eq_getElem hlt
       generalize hxk:d.loans[k]=x at hx
       clear hxk
       obtain⟨x1,x2,x3⟩:=x
       obtain⟨g1,g2,g3⟩:=Sl.at3 hcl n4 hbl hx
       have HG:=Lib.hid fun h0=>scan_go hx h0 hsc
       have HS:=Lib.hid fun h0=>scan_stop hx h0 hsc
       have hf:=loanF_R d.turns.length d.holders.length k x1 x2 x3
       have kA:=fun w1=>in_any x1 0 999999999 w1
       have kB:∀ n,CallsIn FL 0 Tryd.prog 71 #[num x2,num 0,num ((d.turns.length:Int)-1)] (wr.drewN n) fun e w'=>e=.returned (.bool (decide (0≤x2∧x2≤(d.turns.length:Int)-1)))∧∃ m,w'=wr.drewN m:=fun n=>(in_any x2 0 ((d.turns.length:Int)-1) _).mono fun e w' ⟨p,q⟩=>⟨p,n,q⟩
       have kC:∀ n,CallsIn FL 0 Tryd.prog 71 #[num x3,num 0,num ((d.holders.length:Int)-1)] (wr.drewN n) fun e w'=>e=.returned (.bool (decide (0≤x3∧x3≤(d.holders.length:Int)-1)))∧∃ m,w'=wr.drewN m:=fun n=>(in_any x3 0 ((d.holders.length:Int)-1) _).mono fun e w' ⟨p,q⟩=>⟨p,n,q⟩
       generalize loanF d.turns.length d.holders.length k (x1,x2,x3)=pf at HG HS hf
       generalize decide (0≤x1∧x1≤999999999)=b1 at kA hf
       generalize decide (0≤x2∧x2≤(d.turns.length:Int)-1)=b2 at kB hf
       generalize decide (0≤x3∧x3≤(d.holders.length:Int)-1)=b3 at kC hf
       have n5:Nx w wr:=Nx.trans n0 n4
       clear hsc hcl hx hv1 cB
       rcases chain3 b1 b2 b3 with (rfl | ⟨rfl,rfl⟩ | ⟨rfl,rfl,rfl⟩) | ⟨rfl,rfl,rfl⟩
       ·have hz:=Lib.hid (HS.out (by rw [hf];simp [chgR]))
        clear kB kC
        gi_wp2_with (first | (gi_at_call 71;(refine CallsIn.mono (kA _) ?_);rintro e w1 ⟨rfl,rfl⟩) | gi_in)
        go_ret
        exact⟨by rw [HP3.out,hz.out,hf];rfl,n5⟩
       ·have hz:=Lib.hid (HS.out (by rw [hf];simp [chgR]))
        gi_upto_region 18 with (first | (gi_at_call 71;(refine CallsIn.mono (kA _) ?_);rintro e w1 ⟨rfl,rfl⟩) | gi_in)
        clear kA kC
        gi_big_quiet_th (first | (gi_at_call 71;refine kB _))
        gi_wp2
        go_ret
        exact⟨by rw [HP3.out,hz.out,hf];rfl,Nx.drewN n5 _⟩
       ·have hz:=Lib.hid (HS.out (by rw [hf];simp [chgR]))
        gi_upto_region 18 with (first | (gi_at_call 71;(refine CallsIn.mono (kA _) ?_);rintro e w1 ⟨rfl,rfl⟩) | gi_in)
        clear kA
        gi_big_quiet_th (first | (gi_at_call 71;(first | with_reducible refine kB _ | with_reducible refine kC _)))
        gi_wp2
        go_ret
        exact⟨by rw [HP3.out,hz.out,hf];rfl,Nx.drewN n5 _⟩
       ·have hz:=Lib.hid (HG.out (by rw [hf];rfl))
        gi_upto_region 18 with (first | (gi_at_call 71;(refine CallsIn.mono (kA _) ?_);rintro e w1 ⟨rfl,rfl⟩) | gi_in)
        clear kA
        gi_big_quiet_th (first | (gi_at_call 71;(first | with_reducible refine kB _ | with_reducible refine kC _)))
        gi_wp2
        exact⟨⟨k+1,hlt,by simp,hz.out,Nx.drewN n4 _⟩,by simp [intOf];omega⟩
      ·obtain rfl:k=d.loans.length:=by omega
       have HZ:=Lib.hid (scan_end hsc)
       clear hsc hv1 cB
       gi_wp2
       go_ret
       exact⟨by rw [HP3.out,HZ.out];rfl,Nx.trans n0 n4⟩
end Go.Proofs.YtolholkjeehamaaDoor
namespace Go.Proofs.YtolholkjeehamaaDoor
open Go.RowKit
theorem check25_any (d:Dit) (r:Rows6) (w:World) (hd:DitSl w d r) (hs:d.Small) :
  CallsIn FL 0 Tryd.prog 25 #[d.val r] w fun e w'=>e=.returned (num (checkS d))∧Nx w w':=by
 obtain⟨W,hW,n0,hWs,cW⟩:=boxed w d r
 have nWW:Nx W W:=Below.refl _ _
 have c0:=fun w1 n1=>cW w1 n1 0 _ rfl
 have c1:=fun w1 n1=>cW w1 n1 1 _ rfl
 have c2:=fun w1 n1=>cW w1 n1 2 _ rfl
 have c3:=fun w1 n1=>cW w1 n1 3 _ rfl
 have c4:=fun w1 n1=>cW w1 n1 4 _ rfl
 have c5:=fun w1 n1=>cW w1 n1 5 _ rfl
 have c6:=fun w1 n1=>cW w1 n1 6 _ rfl
 have c7:=fun w1 n1=>cW w1 n1 7 _ rfl
 have c8:=fun w1 n1=>cW w1 n1 8 _ rfl
 have c9:=fun w1 n1=>cW w1 n1 9 _ rfl
 have c10:=fun w1 n1=>cW w1 n1 10 _ rfl
 have c11:=fun w1 n1=>cW w1 n1 11 _ rfl
 have c12:=fun w1 n1=>cW w1 n1 12 _ rfl
 have c13:=fun w1 n1=>cW w1 n1 13 _ rfl
 have k62:∀ w1,Nx W w1→CallsIn FL 0 Tryd.prog 62 #[d.val r] w1 fun e w'=>e=.returned (num (peopleS d))∧Nx W w':=fun w1 n1=>(people62_any d r w1 (hd.nx (Nx.trans n0 n1)) hs).mono fun e w' ⟨x,y⟩=>⟨x,Nx.trans n1 y⟩
 have k63:∀ w1,Nx W w1→CallsIn FL 0 Tryd.prog 63 #[d.val r] w1 fun e w'=>e=.returned (num (timesS d))∧Nx W w':=fun w1 n1=>(times63_any d r w1 (hd.nx (Nx.trans n0 n1)) hs).mono fun e w' ⟨x,y⟩=>⟨x,Nx.trans n1 y⟩
 have k64:∀ w1,Nx W w1→CallsIn FL 0 Tryd.prog 64 #[d.val r] w1 fun e w'=>e=.returned (num (changesS d))∧Nx W w':=fun w1 n1=>(changes64_any d r w1 (hd.nx (Nx.trans n0 n1)) hs).mono fun e w' ⟨x,y⟩=>⟨x,Nx.trans n1 y⟩
 have k65:∀ w1,Nx W w1→CallsIn FL 0 Tryd.prog 65 #[d.val r] w1 fun e w'=>e=.returned (num (groundS d))∧Nx W w':=fun w1 n1=>(ground65_any d r w1 (hd.nx (Nx.trans n0 n1)) hs).mono fun e w' ⟨x,y⟩=>⟨x,Nx.trans n1 y⟩
 have HC:=Lib.hid (show checkS d=if peopleS d≠0 then peopleS d else if timesS d≠0 then timesS d else if changesS d≠0 then changesS d else groundS d from rfl)
 generalize peopleS d=p1 at k62 HC
 generalize timesS d=p2 at k63 HC
 generalize changesS d=p3 at k64 HC
 generalize groundS d=p4 at k65 HC
 clear hd hs cW
 have d0:=c0 _ nWW
 have d1:=c1 _ nWW
 have d2:=c2 _ nWW
 have d3:=c3 _ nWW
 have d4:=c4 _ nWW
 have d5:=c5 _ nWW
 have d6:=c6 _ nWW
 have d7:=c7 _ nWW
 have d8:=c8 _ nWW
 have d9:=c9 _ nWW
 have d10:=c10 _ nWW
 have d11:=c11 _ nWW
 have d12:=c12 _ nWW
 have d13:=c13 _ nWW
 gi_enter Tryd.func25,Tryd.ntmps25
 by_cases h1:p1=0
 ·have b1:(p1 != 0)=false:=by simpa using h1
  by_cases h2:p2=0
  ·have b2:(p2 != 0)=false:=by simpa using h2
   by_cases h3:p3=0
   ·have b3:(p3 != 0)=false:=by simpa using h3
    have HF:=Lib.hid (show checkS d=p4 by rw [HC.out,if_neg (by simpa using h1),if_neg (by simpa using h2),if_neg (by simpa using h3)])
    clear HC h1 h2 h3
    gi_wp2_with (first
     | (gi_at_call 62;refine CallsIn.mono (k62 _ (by assumption)) ?_;rintro e w1 ⟨rfl,n1⟩;have d0:=c0 _ n1;have d1:=c1 _ n1;have d2:=c2 _ n1;have d3:=c3 _ n1;have d4:=c4 _ n1;have d5:=c5 _ n1;have d6:=c6 _ n1;have d7:=c7 _ n1;have d8:=c8 _ n1;have d9:=c9 _ n1;have d10:=c10 _ n1;have d11:=c11 _ n1;have d12:=c12 _ n1;have d13:=c13 _ n1)
     | (gi_at_call 63;refine CallsIn.mono (k63 _ (by assumption)) ?_;rintro e w1 ⟨rfl,n1⟩;have d0:=c0 _ n1;have d1:=c1 _ n1;have d2:=c2 _ n1;have d3:=c3 _ n1;have d4:=c4 _ n1;have d5:=c5 _ n1;have d6:=c6 _ n1;have d7:=c7 _ n1;have d8:=c8 _ n1;have d9:=c9 _ n1;have d10:=c10 _ n1;have d11:=c11 _ n1;have d12:=c12 _ n1;have d13:=c13 _ n1)
     | (gi_at_call 64;refine CallsIn.mono (k64 _ (by assumption)) ?_;rintro e w1 ⟨rfl,n1⟩;have d0:=c0 _ n1;have d1:=c1 _ n1;have d2:=c2 _ n1;have d3:=c3 _ n1;have d4:=c4 _ n1;have d5:=c5 _ n1;have d6:=c6 _ n1;have d7:=c7 _ n1;have d8:=c8 _ n1;have d9:=c9 _ n1;have d10:=c10 _ n1;have d11:=c11 _ n1;have d12:=c12 _ n1;have d13:=c13 _ n1)
     | (gi_at_call 65;refine CallsIn.mono (k65 _ (by assumption)) ?_;rintro e w1 ⟨rfl,n1⟩)
     | gi_in)
    go_ret
    exact⟨by rw [HF.out];rfl,Nx.trans n0 (by assumption)⟩
   ·have b3:(p3 != 0)=true:=by simpa using h3
    have HF:=Lib.hid (show checkS d=p3 by rw [HC.out,if_neg (by simpa using h1),if_neg (by simpa using h2),if_pos h3])
    clear HC h1 h2 h3
    gi_wp2_with (first
     | (gi_at_call 62;refine CallsIn.mono (k62 _ (by assumption)) ?_;rintro e w1 ⟨rfl,n1⟩;have d0:=c0 _ n1;have d1:=c1 _ n1;have d2:=c2 _ n1;have d3:=c3 _ n1;have d4:=c4 _ n1;have d5:=c5 _ n1;have d6:=c6 _ n1;have d7:=c7 _ n1;have d8:=c8 _ n1;have d9:=c9 _ n1;have d10:=c10 _ n1;have d11:=c11 _ n1;have d12:=c12 _ n1;have d13:=c13 _ n1)
     | (gi_at_call 63;refine CallsIn.mono (k63 _ (by assumption)) ?_;rintro e w1 ⟨rfl,n1⟩;have d0:=c0 _ n1;have d1:=c1 _ n1;have d2:=c2 _ n1;have d3:=c3 _ n1;have d4:=c4 _ n1;have d5:=c5 _ n1;have d6:=c6 _ n1;have d7:=c7 _ n1;have d8:=c8 _ n1;have d9:=c9 _ n1;have d10:=c10 _ n1;have d11:=c11 _ n1;have d12:=c12 _ n1;have d13:=c13 _ n1)
     | (gi_at_call 64;refine CallsIn.mono (k64 _ (by assumption)) ?_;rintro e w1 ⟨rfl,n1⟩)
     | gi_in)
    go_ret
    exact⟨by rw [HF.out];rfl,Nx.trans n0 (by assumption)⟩
  ·have b2:(p2 != 0)=true:=by simpa using h2
   have HF:=Lib.hid (show checkS d=p2 by rw [HC.out,if_neg (by simpa using h1),if_pos h2])
   clear HC h1 h2
   gi_wp2_with (first
    | (gi_at_call 62;refine CallsIn.mono (k62 _ (by assumption)) ?_;rintro e w1 ⟨rfl,n1⟩;have d0:=c0 _ n1;have d1:=c1 _ n1;have d2:=c2 _ n1;have d3:=c3 _ n1;have d4:=c4 _ n1;have d5:=c5 _ n1;have d6:=c6 _ n1;have d7:=c7 _ n1;have d8:=c8 _ n1;have d9:=c9 _ n1;have d10:=c10 _ n1;have d11:=c11 _ n1;have d12:=c12 _ n1;have d13:=c13 _ n1)
    | (gi_at_call 63;refine CallsIn.mono (k63 _ (by assumption)) ?_;rintro e w1 ⟨rfl,n1⟩)
    | gi_in)
   go_ret
   exact⟨by rw [HF.out];rfl,Nx.trans n0 (by assumption)⟩
 ·have b1:(p1 != 0)=true:=by simpa using h1
  have HF:=Lib.hid (show checkS d=p1 by rw [HC.out,if_pos h1])
  clear HC h1
  gi_wp2_with (first
   | (gi_at_call 62;refine CallsIn.mono (k62 _ (by assumption)) ?_;rintro e w1 ⟨rfl,n1⟩)
   | gi_in)
  go_ret
  exact⟨by rw [HF.out];rfl,Nx.trans n0 (by assumption)⟩
end Go.Proofs.YtolholkjeehamaaDoor
namespace Go.Proofs.YtolholkjeehamaaDoor
open Go.RowKit
theorem ask58_any (d:Dit) (r:Rows6) (holder a b:Int) (w:World) (hd:DitSl w d r) (hs:d.Small) :
  CallsIn FL 0 Tryd.prog 58 #[d.val r,num holder,num a,num b] w fun e w'=>e=.returned (num (askS d holder a b))∧Nx w w':=by
 obtain⟨W,hW,n0,hWs,cW⟩:=boxed w d r
 obtain⟨ah,caph,eh⟩:=hd.holders.cases
 rw [List.length_map] at eh
 have nWW:Nx W W:=Below.refl _ _
 have c0' : ∀ w1,Nx W w1→w1.cell? ⟨w.heap.size,0,none⟩=some (.slice ah d.holders.length caph):=fun w1 n1=>(cW _ n1 0 r.h rfl).trans (by rw [eh])
 obtain⟨c0,c1,c2,c3,c4,c5,c6,c7,c8,c9,c10,c11,c12,c13⟩:=cells14 (cW _ nWW)
 have hlh:=hs.h
 have k25:=check25_any d r W (hd.nx n0) hs
 have k71:=fun w1=>in_any holder 0 ((d.holders.length:Int)-1) w1
 have k79:=fun w1=>stretch79_any a b w1
 have HA:=Lib.hid (show askS d holder a b=if checkS d≠0 then checkS d else if ¬ (decide (0≤holder∧holder≤(d.holders.length:Int)-1)=true) then 6 else stretchS a b by unfold askS;simp only [decide_eq_true_eq])
 generalize checkS d=p1 at k25 HA
 generalize decide (0≤holder∧holder≤(d.holders.length:Int)-1)=p2 at k71 HA
 generalize stretchS a b=p3 at k79 HA
 have HC0:=Lib.hid c0'
 clear cW hd hs eh c0'
 gi_enter Tryd.func58,Tryd.ntmps58
 by_cases h1:p1=0
 ·have b1:(p1 != 0)=false:=by simpa using h1
  cases p2 with
  | true =>
   have HF:=Lib.hid (show askS d holder a b=p3 by rw [HA.out,if_neg (by simpa using h1),if_neg (by simp)])
   clear HA h1
   gi_wp2_with (first
    | (gi_at_call 25;refine CallsIn.mono k25 ?_;rintro e w1 ⟨rfl,n1⟩;have e0:=HC0.out _ n1)
    | (gi_at_call 71;refine CallsIn.mono (k71 _) ?_;rintro e w2 ⟨rfl,rfl⟩)
    | (gi_at_call 79;refine CallsIn.mono (k79 _) ?_;rintro e w2 ⟨rfl,rfl⟩)
    | gi_in)
   go_ret
   exact⟨by rw [HF.out];rfl,Nx.trans n0 n1⟩
  | false =>
   have HF:=Lib.hid (show askS d holder a b=6 by rw [HA.out,if_neg (by simpa using h1),if_pos (by simp)])
   clear HA h1
   gi_wp2_with (first
    | (gi_at_call 25;refine CallsIn.mono k25 ?_;rintro e w1 ⟨rfl,n1⟩;have e0:=HC0.out _ n1)
    | (gi_at_call 71;refine CallsIn.mono (k71 _) ?_;rintro e w2 ⟨rfl,rfl⟩)
    | gi_in)
   go_ret
   exact⟨by rw [HF.out];rfl,Nx.trans n0 n1⟩
 ·have b1:(p1 != 0)=true:=by simpa using h1
  have HF:=Lib.hid (show askS d holder a b=p1 by rw [HA.out,if_pos h1])
  clear HA h1
  gi_wp2_with (first
   | (gi_at_call 25;refine CallsIn.mono k25 ?_;rintro e w1 ⟨rfl,n1⟩)
   | gi_in)
  go_ret
  exact⟨by rw [HF.out];rfl,Nx.trans n0 n1⟩
end Go.Proofs.YtolholkjeehamaaDoor
namespace Go.Proofs.YtolholkjeehamaaDoor
open Go.RowKit
theorem hours59_any (d:Dit) (r:Rows6) (holder a b:Int) (w:World) (hd:DitSl w d r) (hO:d.Ok) (ha : -1000000000000≤a∧a≤1000000000000) (hb : -1000000000000≤b∧b≤1000000000000) :
  CallsIn FL 0 Tryd.prog 59 #[d.val r,num holder,num a,num b] w fun e w'=>e=.returned (num (d.hoursW holder a b))∧Nx w w':=by
 obtain⟨W,hW,n0,hWs,cW⟩:=boxed w d r
 have nWW:Nx W W:=Below.refl _ _
 have hdW:=hd.nx n0
 have ra:=ran_bd2 hO.times hO.roomy ha
 have rb:=ran_bd2 hO.times hO.roomy hb
 have r0a:=hO.ran_nonneg a
 have r0b:=hO.ran_nonneg b
 have fa:=had_bd (holder:=holder) hO.cyc hO.chg ra
 have fb:=had_bd (holder:=holder) hO.cyc hO.chg rb
 have k80:=fun (y:Int) (x:World) (hy : -1000000000000≤y∧y≤1000000000000) (hx:Nx W x)=>(running80_any d r y x (hdW.nx hx) hO.times hy).mono fun e w' ⟨p,q⟩=>(⟨p,Nx.trans hx q⟩:_∧Nx W w')
 have k91:=fun (y:Int) (x:World) (hy:0≤y∧y≤100000000000000) (hx:Nx W x)=>(first91_any d r holder y x (hdW.nx hx) hO hy).mono fun e w' ⟨p,q⟩=>(⟨p,Nx.trans hx q⟩:_∧Nx W w')
 have kRb:=fun x hx=>k80 b x hb hx
 have kRa:=fun x hx=>k80 a x ha hx
 have kFb:=fun x hx=>k91 (d.ran b) x (by omega) hx
 have kFa:=fun x hx=>k91 (d.ran a) x (by omega) hx
 have fa' : -2000000000000000000≤d.had holder (d.ran a)∧d.had holder (d.ran a)≤2000000000000000000:=fa
 have fb' : -2000000000000000000≤d.had holder (d.ran b)∧d.had holder (d.ran b)≤2000000000000000000:=fb
 have HH:=Lib.hid (hoursW_had d holder a b)
 generalize d.ran a=Ra at *
 generalize d.ran b=Rb at *
 generalize d.had holder Ra=Fa at *
 generalize d.had holder Rb=Fb at *
 have nd:Nx W W.drew:=Below.drew nWW
 clear hd hO hdW k80 k91 fa fb
 gi_enter Tryd.func59,Tryd.ntmps59
 gi_upto_region 1 with fail
 refine wpIn_region_C (fun x=>Nx W x) (by kernel_rfl) ?_
 change wpAnyC _ _ _ _ _ _ _ 14 #[false,false,false,false,false,false,false,false,false,false,false,false,false,false] _ _
 refine wpAnyC_takeR (i:=0) (oi:=⟨some 9,.load 31 (.tmp 4),_,_,_,none⟩) (v:=d.val r) (plain_ops (by kernel_rfl)) rfl (by kernel_rfl) (by kernel_rfl) (by kernel_rfl) (fun _ _ _ h=>h) (yC_dit rfl (fun x hx=>cW x hx)) ?_
 simp only [Act.put,List.setIfInBounds_toArray,List.set_cons_succ,List.set_cons_zero]
 refine wpAnyC_as (l':=#[true,false,false,false,false,false,false,false,false,false,false,false,false,false]) rfl ?_
 refine wpAnyC_takeR (i:=1) (oi:=⟨some 10,.move (.tmp 1),_,_,_,none⟩) (v:=num holder) (plain_ops (by kernel_rfl)) rfl (by kernel_rfl) (by kernel_rfl) (by kernel_rfl) (fun _ _ _ h=>h) (yC_move rfl) ?_
 simp only [Act.put,List.setIfInBounds_toArray,List.set_cons_succ,List.set_cons_zero]
 refine wpAnyC_as (l':=#[true,true,false,false,false,false,false,false,false,false,false,false,false,false]) rfl ?_
 refine wpAnyC_takeR (i:=2) (oi:=⟨some 11,.load 31 (.tmp 4),_,_,_,none⟩) (v:=d.val r) (plain_ops (by kernel_rfl)) rfl (by kernel_rfl) (by kernel_rfl) (by kernel_rfl) (fun _ _ _ h=>h) (yC_dit rfl (fun x hx=>cW x hx)) ?_
 simp only [Act.put,List.setIfInBounds_toArray,List.set_cons_succ,List.set_cons_zero]
 refine wpAnyC_as (l':=#[true,true,true,false,false,false,false,false,false,false,false,false,false,false]) rfl ?_
 refine wpAnyC_takeR (i:=3) (oi:=⟨some 12,.move (.tmp 3),_,_,_,none⟩) (v:=num b) (plain_ops (by kernel_rfl)) rfl (by kernel_rfl) (by kernel_rfl) (by kernel_rfl) (fun _ _ _ h=>h) (yC_move rfl) ?_
 simp only [Act.put,List.setIfInBounds_toArray,List.set_cons_succ,List.set_cons_zero]
 refine wpAnyC_as (l':=#[true,true,true,true,false,false,false,false,false,false,false,false,false,false]) rfl ?_
 refine wpAnyC_takeR (i:=6) (oi:=⟨some 15,.load 31 (.tmp 4),_,_,_,none⟩) (v:=d.val r) (plain_ops (by kernel_rfl)) rfl (by kernel_rfl) (by kernel_rfl) (by kernel_rfl) (fun _ _ _ h=>h) (yC_dit rfl (fun x hx=>cW x hx)) ?_
 simp only [Act.put,List.setIfInBounds_toArray,List.set_cons_succ,List.set_cons_zero]
 refine wpAnyC_as (l':=#[true,true,true,true,false,false,true,false,false,false,false,false,false,false]) rfl ?_
 refine wpAnyC_takeR (i:=7) (oi:=⟨some 16,.move (.tmp 1),_,_,_,none⟩) (v:=num holder) (plain_ops (by kernel_rfl)) rfl (by kernel_rfl) (by kernel_rfl) (by kernel_rfl) (fun _ _ _ h=>h) (yC_move rfl) ?_
 simp only [Act.put,List.setIfInBounds_toArray,List.set_cons_succ,List.set_cons_zero]
 refine wpAnyC_as (l':=#[true,true,true,true,false,false,true,true,false,false,false,false,false,false]) rfl ?_
 refine wpAnyC_takeR (i:=8) (oi:=⟨some 17,.load 31 (.tmp 4),_,_,_,none⟩) (v:=d.val r) (plain_ops (by kernel_rfl)) rfl (by kernel_rfl) (by kernel_rfl) (by kernel_rfl) (fun _ _ _ h=>h) (yC_dit rfl (fun x hx=>cW x hx)) ?_
 simp only [Act.put,List.setIfInBounds_toArray,List.set_cons_succ,List.set_cons_zero]
 refine wpAnyC_as (l':=#[true,true,true,true,false,false,true,true,true,false,false,false,false,false]) rfl ?_
 refine wpAnyC_takeR (i:=9) (oi:=⟨some 18,.move (.tmp 2),_,_,_,none⟩) (v:=num a) (plain_ops (by kernel_rfl)) rfl (by kernel_rfl) (by kernel_rfl) (by kernel_rfl) (fun _ _ _ h=>h) (yC_move rfl) ?_
 simp only [Act.put,List.setIfInBounds_toArray,List.set_cons_succ,List.set_cons_zero]
 refine wpAnyC_as (l':=#[true,true,true,true,false,false,true,true,true,true,false,false,false,false]) rfl ?_
 refine wpAnyC_only (i:=4) (o:=⟨some 13,.call { callee:=.value (.func 80),args:=#[.tmp 11,.tmp 12],argTypes:=#[31,3] },_,_,_,none⟩) (by kernel_rfl) rfl rfl (nd) ?_
 intro K hK
 go_simp
 refine CallsIn.mono (kRb _ (nd)) ?_
 rintro e v4 ⟨rfl,m4⟩
 refine hK _ _ ?_
 refine wpAnyC_as (l':=#[true,true,true,true,true,false,true,true,true,true,false,false,false,false]) rfl ?_
 refine wpAnyC_only (i:=5) (o:=⟨some 14,.call { callee:=.value (.func 91),args:=#[.tmp 9,.tmp 10,.tmp 13],argTypes:=#[31,3,3] },_,_,_,none⟩) (by kernel_rfl) rfl rfl (m4) ?_
 intro K hK
 go_simp
 refine CallsIn.mono (kFb _ (m4)) ?_
 rintro e v5 ⟨rfl,m5⟩
 refine hK _ _ ?_
 refine wpAnyC_as (l':=#[true,true,true,true,true,true,true,true,true,true,false,false,false,false]) rfl ?_
 refine wpAnyC_only (i:=10) (o:=⟨some 19,.call { callee:=.value (.func 80),args:=#[.tmp 17,.tmp 18],argTypes:=#[31,3] },_,_,_,none⟩) (by kernel_rfl) rfl rfl (m5) ?_
 intro K hK
 go_simp
 refine CallsIn.mono (kRa _ (m5)) ?_
 rintro e v10 ⟨rfl,m10⟩
 refine hK _ _ ?_
 refine wpAnyC_as (l':=#[true,true,true,true,true,true,true,true,true,true,true,false,false,false]) rfl ?_
 refine wpAnyC_only (i:=11) (o:=⟨some 20,.call { callee:=.value (.func 91),args:=#[.tmp 15,.tmp 16,.tmp 19],argTypes:=#[31,3,3] },_,_,_,none⟩) (by kernel_rfl) rfl rfl (m10) ?_
 intro K hK
 go_simp
 refine CallsIn.mono (kFa _ (m10)) ?_
 rintro e v11 ⟨rfl,m11⟩
 refine hK _ _ ?_
 refine wpAnyC_as (l':=#[true,true,true,true,true,true,true,true,true,true,true,true,false,false]) rfl ?_
 refine wpAnyC_takeR (i:=12) (oi:=⟨some 21,.binOp .sub 3 (.tmp 14) (.tmp 20) 3,_,_,_,none⟩) (v:=num (Fb-Fa)) (plain_ops (by kernel_rfl)) rfl (by kernel_rfl) (by kernel_rfl) (by kernel_rfl) (fun _ _ _ h=>h) (yC_sub rfl rfl (by omega)) ?_
 simp only [Act.put,List.setIfInBounds_toArray,List.set_cons_succ,List.set_cons_zero]
 refine wpAnyC_as (l':=#[true,true,true,true,true,true,true,true,true,true,true,true,true,false]) rfl ?_
 refine wpAnyC_takeR (i:=13) (oi:=⟨some 8,.assign (.tmp 21),_,_,_,none⟩) (v:=num (Fb-Fa)) (plain_ops (by kernel_rfl)) rfl (by kernel_rfl) (by kernel_rfl) (by kernel_rfl) (fun _ _ _ h=>h) (yC_assign rfl) ?_
 simp only [Act.put,List.setIfInBounds_toArray,List.set_cons_succ,List.set_cons_zero]
 refine wpAnyC_as (l':=#[true,true,true,true,true,true,true,true,true,true,true,true,true,true]) rfl ?_
 refine wpAnyC_done (by kernel_rfl) (m11) ?_
 gi_wp2
 go_ret
 exact⟨by rw [HH.out];rfl,Nx.trans n0 m11⟩
theorem hours22_any (d:Dit) (r:Rows6) (holder a b:Int) (w:World) (hd:DitSl w d r) (hs:d.Small) :
  CallsIn FL 0 Tryd.prog 22 #[d.val r,num holder,num a,num b] w fun e w'=>e=.returned (.tuple #[num (hoursF d holder a b).1,num (hoursF d holder a b).2])∧Nx w w':=by
 obtain⟨W,hW,n0,hWs,cW⟩:=boxed w d r
 have nWW:Nx W W:=Below.refl _ _
 have hdW:=hd.nx n0
 have fin:∀ {x y:Int},hoursF d holder a b=(x,y)→Ending.returned (.tuple #[num x,num y])=.returned (.tuple #[num (hoursF d holder a b).1,num (hoursF d holder a b).2]):=fun e=>by rw [e]
 have k58:=ask58_any d r holder a b W hdW hs
 obtain⟨c0,c1,c2,c3,c4,c5,c6,c7,c8,c9,c10,c11,c12,c13⟩:=cells14 (cW _ nWW)
 by_cases hc:askS d holder a b=0
 ·have HA:=Lib.hid (show hoursF d holder a b=(d.hoursW holder a b,0) by unfold hoursF;rw [if_neg (by simp [hc])])
  obtain⟨hch,_,ha,hb,hab⟩:=ask_ok hc
  have hO:=ok_of_check hch
  rw [hc] at k58
  have k59:=fun (x:World) (hx:Nx W x)=>hours59_any d r holder a b x (hdW.nx hx) hO (by omega) (by omega)
  clear hc hch hO hd hdW
  gi_enter Tryd.func22,Tryd.ntmps22
  gi_wp2_with (first
   | (gi_at_call 58;refine CallsIn.mono k58 ?_;rintro e w1 ⟨rfl,n1⟩;obtain⟨c0,c1,c2,c3,c4,c5,c6,c7,c8,c9,c10,c11,c12,c13⟩:=cells14 (cW _ n1))
   | (gi_at_call 59;refine CallsIn.mono (k59 _ n1) ?_;rintro e w2 ⟨rfl,n2⟩)
   | gi_in)
  go_ret2
  exact⟨fin HA.out,Nx.trans n0 (Nx.trans n1 n2)⟩
 ·have HA:=Lib.hid (show hoursF d holder a b=(0,askS d holder a b) by unfold hoursF;rw [if_pos hc])
  have hb:(askS d holder a b != 0)=true:=by simpa using hc
  clear hc hd hdW cW
  gi_enter Tryd.func22,Tryd.ntmps22
  gi_wp2_with (first
   | (gi_at_call 58;refine CallsIn.mono k58 ?_;rintro e w1 ⟨rfl,n1⟩)
   | gi_in)
  go_ret2
  exact⟨fin HA.out,Nx.trans n0 n1⟩
end Go.Proofs.YtolholkjeehamaaDoor
namespace Go.Proofs.YtolholkjeehamaaDoor
open Go.RowKit
theorem next_none {d:Dit} (hO:d.Ok) (holder:Int) {h:Int} (hh:0≤h∧h≤999999999):leastH d holder h > 999999999↔d.hoursW holder h 1000000000=0:=by
 obtain⟨⟨l1,l2⟩,l3,l4⟩:=hO.least holder (h:=h) (by omega)
 constructor
 ·intro hg
  have:=l3 999999999 (by omega) (by omega)
  exact this
 ·intro hz
  rcases Int.lt_or_le 999999999 (leastH d holder h) with h1 | h1
  ·exact h1
  ·have h2:=l4 (by omega)
   have h3:=hO.hours_mono holder h (b:=leastH d holder h+1) (c:=1000000000) (by omega) (by omega)
   omega
theorem next_some {d:Dit} (hO:d.Ok) (holder:Int) {h m:Int} (hh:0≤h∧h≤999999999) (hm:h≤m∧m≤999999999) (h1:∀ n,h≤n→n<m→d.hoursW holder h (n+1)=0) (h2:0<d.hoursW holder h (m+1)):leastH d holder h=m:=by
 obtain⟨⟨l1,l2⟩,l3,l4⟩:=hO.least holder (h:=h) (by omega)
 rcases Int.lt_trichotomy (leastH d holder h) m with hlt | heq | hgt
 ·have:=h1 _ l1 hlt
  have:=l4 (by omega)
  omega
 ·exact heq
 ·have:=l3 m hm.1 hgt
  omega
theorem next24_any (d:Dit) (r:Rows6) (holder h:Int) (w:World) (hd:DitSl w d r) (hs:d.Small) :
  CallsIn FL 0 Tryd.prog 24 #[d.val r,num holder,num h] w fun e w'=>e=.returned (.tuple #[num (nextF d holder h).1,.bool (nextF d holder h).2.1,num (nextF d holder h).2.2])∧Nx w w':=by
 obtain⟨W,hW,n0,hWs,cW⟩:=boxed w d r
 have nWW:Nx W W:=Below.refl _ _
 have hdW:=hd.nx n0
 have fin:∀ {x z:Int} {y:Bool},nextF d holder h=(x,y,z)→Ending.returned (.tuple #[num x,.bool y,num z])=.returned (.tuple #[num (nextF d holder h).1,.bool (nextF d holder h).2.1,num (nextF d holder h).2.2]):=fun e=>by rw [e]
 have k58:=ask58_any d r holder h 999999999 W hdW hs
 obtain⟨c0,c1,c2,c3,c4,c5,c6,c7,c8,c9,c10,c11,c12,c13⟩:=cells14 (cW _ nWW)
 by_cases hc:askS d holder h 999999999=0
 ·obtain⟨hch,_,ha,hb,hab⟩:=ask_ok hc
  have hO:=ok_of_check hch
  have HN:=Lib.hid (show nextF d holder h=if leastH d holder h > 999999999 then (0,false,0) else (leastH d holder h,true,0) by unfold nextF;rw [if_neg (by simp [hc])])
  rw [hc] at k58
  have k59:=fun (y:Int) (x:World) (hy : -1000000000000≤y∧y≤1000000000000) (hx:Nx W x)=>(hours59_any d r holder h y x (hdW.nx hx) hO (by omega) hy).mono fun e w' ⟨p,q⟩=>(⟨p,Nx.trans hx q⟩:_∧Nx W w')
  have h01:=next_none hO holder (h:=h) ha
  have h02:=fun (m:Int)=>next_some hO holder (h:=h) (m:=m) ha
  have hm0:=hO.hours_mono holder h (b:=h) (c:=1000000000) (by omega) (by omega)
  rw [hours_self] at hm0
  have hmz:=fun (m:Int) (hm:h≤m)=>hO.hours_mono holder h (b:=h) (c:=m) (by omega) hm
  have hmono:=fun (a b:Int) (h1:0≤a) (h2:a≤b)=>hO.hours_mono holder h (b:=a) (c:=b) h1 h2
  have HMZ:=Lib.hid hmz
  have HMO:=Lib.hid hmono
  have HS0:=Lib.hid (hours_self d holder h)
  have H01:=Lib.hid h01
  have H02:=Lib.hid h02
  have HK:=Lib.hid k59
  have HCW:=Lib.hid cW
  clear hc hch hO hd hdW k59 h01 h02 hmz hmono cW
  gi_enter Tryd.func24,Tryd.ntmps24
  by_cases hz:d.hoursW holder h 1000000000=0
  ·have HA:=Lib.hid (show nextF d holder h=(0,false,0) by rw [HN.out,if_pos (H01.out.2 hz)])
   have k0:=fun x hx=>HK.out 1000000000 x (by omega) hx
   rw [hz] at k0
   clear hz hm0
   gi_wp2_with (first
    | (gi_at_call 58;refine CallsIn.mono k58 ?_;rintro e w1 ⟨rfl,n1⟩;obtain⟨c0,c1,c2,c3,c4,c5,c6,c7,c8,c9,c10,c11,c12,c13⟩:=cells14 (HCW.out _ n1))
    | (gi_at_call 59;refine CallsIn.mono (k0 _ n1) ?_;rintro e w2 ⟨rfl,n2⟩)
    | gi_in)
   refine bodyPost_ret (v:=.tuple #[_,_,_]) (by simp [results,Tryd.results24,go_sem];exact⟨rfl,rfl,rfl⟩) rfl ?_
   exact⟨fin HA.out,Nx.trans n0 n2⟩
  ·have hb0:(d.hoursW holder h 1000000000 == 0)=false:=by simpa using hz
   have HZ:=Lib.hid hz
   have k0:=fun x hx=>HK.out 1000000000 x (by omega) hx
   clear hz
   gi_wp2_with (first
    | (gi_at_call 58;refine CallsIn.mono k58 ?_;rintro e w1 ⟨rfl,n1⟩;obtain⟨c0,c1,c2,c3,c4,c5,c6,c7,c8,c9,c10,c11,c12,c13⟩:=cells14 (HCW.out _ n1))
    | (gi_at_call 59;refine CallsIn.mono (k0 _ n1) ?_;rintro e w2 ⟨rfl,n2⟩)
    | gi_in)
   clear k0 k58 c0 c1 c2 c3 c4 c5 c6 c7 c8 c9 c10 c11 c12 c13
   gi_loopw [10,11] (fun lo hi wr=>∃ a b:Int,lo=num a∧hi=num b∧(h≤a∧a≤b∧b≤999999999)∧(∀ n,h≤n→n<a→d.hoursW holder h (n+1)=0)∧0<d.hoursW holder h (b+1)∧Nx W wr) (fun lo hi _=>(intOf hi-intOf lo).toNat)
   case atStart=>exact⟨h,999999999,rfl,rfl,by omega,fun n h1 h2=>by omega,by show 0<d.hoursW holder h 1000000000;have:=HZ.out;omega,n2⟩
   case round =>
    obtain⟨a,b,rfl,rfl,hab2,hz1,hz2,n3⟩:=hrel
    have HZ1:=Lib.hid hz1
    have HZ2:=Lib.hid hz2
    clear hz1 hz2
    by_cases hlt:a<b
    ·have hmid:a≤(a+b).tdiv 2∧(a+b).tdiv 2<b:=by rw [Int.tdiv_eq_ediv_of_nonneg (by omega)];omega
     have k9:=fun x hx=>HK.out ((a+b).tdiv 2+1) x (by omega) hx
     obtain⟨e0,e1,e2,e3,e4,e5,e6,e7,e8,e9,e10,e11,e12,e13⟩:=cells14 (HCW.out _ n3)
     by_cases hp:0<d.hoursW holder h ((a+b).tdiv 2+1)
     ·have HP:=Lib.hid hp
      gi_wp2_with (first
       | (gi_at_call 59;refine CallsIn.mono (k9 _ n3) ?_;rintro e w3 ⟨rfl,n4⟩)
       | gi_in)
      exact⟨⟨a,(a+b).tdiv 2,rfl,rfl,by omega,HZ1.out,HP.out,n4⟩,by simp [intOf];omega⟩
     ·have hq:=HMZ.out ((a+b).tdiv 2+1) (by omega)
      rw [HS0.out] at hq
      have hN:Hid (∀ n,h≤n→n<(a+b).tdiv 2+1→d.hoursW holder h (n+1)=0):=by
       show ∀ n,_
       intro n h1 h2
       have h3:=HMO.out (n+1) ((a+b).tdiv 2+1) (by omega) (by omega)
       have h4:=HMZ.out (n+1) (by omega)
       rw [HS0.out] at h4
       omega
      clear hq
      gi_wp2_with (first
       | (gi_at_call 59;refine CallsIn.mono (k9 _ n3) ?_;rintro e w3 ⟨rfl,n4⟩)
       | gi_in)
      exact⟨⟨(a+b).tdiv 2+1,b,rfl,rfl,by omega,hN.out,HZ2.out,n4⟩,by simp [intOf];omega⟩
    ·obtain rfl:a=b:=by omega
     have hl:=H02.out a (by omega) HZ1.out HZ2.out
     have HA:=Lib.hid (show nextF d holder h=(a,true,0) by rw [HN.out,hl,if_neg (by omega)])
     gi_wp2
     refine bodyPost_ret (v:=.tuple #[_,_,_]) (by simp [results,Tryd.results24,go_sem];exact⟨rfl,rfl,rfl⟩) rfl ?_
     exact⟨fin HA.out,Nx.trans n0 n3⟩
 ·have HA:=Lib.hid (show nextF d holder h=(0,false,askS d holder h 999999999) by unfold nextF;rw [if_pos hc])
  have hb:(askS d holder h 999999999 != 0)=true:=by simpa using hc
  clear hc hd hdW cW
  gi_enter Tryd.func24,Tryd.ntmps24
  gi_wp2_with (first
   | (gi_at_call 58;refine CallsIn.mono k58 ?_;rintro e w1 ⟨rfl,n1⟩)
   | gi_in)
  refine bodyPost_ret (v:=.tuple #[_,_,_]) (by simp [results,Tryd.results24,go_sem];exact⟨rfl,rfl,rfl⟩) rfl ?_
  exact⟨fin HA.out,Nx.trans n0 n1⟩
end Go.Proofs.YtolholkjeehamaaDoor
