import Derived.Test.YtbbanmifdbeneaaDoorF42
set_option linter.all false
set_option maxRecDepth 100000
set_option maxHeartbeats 4000000
open Go.Lib renaming hid → jqa
open Go.CallsIn renaming mono → jqb
namespace Go.Proofs.YtbbanmifdbeneaaDoor
open Go.RowKit
theorem in_b {n low high:Int} {b:Bool} (h:decide (low≤n∧n≤high)=b) (w:World):CallsIn FL 0 Tryd.prog 32 #[num n,num low,num high] w fun e w'=>e=.returned (.bool b)∧w'=w:=by
 rw [← h];exact zby n low high w
theorem zql (b1 b2:Bool):b1=false∨(b1=true∧b2=false)∨(b1=true∧b2=true):=by cases b1<;>cases b2<;>simp
def zpq (b1 b2:Bool):Int:=if b1 then (if b2 then 5 else 0) else 4
def znO (b1 b2:Bool):Int:=if b1 then (if b2 then 0 else 1) else 6
theorem zoT (h k:Nat) (x y:Int):zdl h k (x,y)=znO (decide (0≤x∧x≤(h:Int)-1)) (decide (1≤y∧y≤100)):=by
 unfold zdl znO;simp only [decide_eq_true_eq]
theorem zfF (d:Dit) (r:zaR) (w:World) (hd:DitSl w d r) (hs:d.Small) :
  CallsIn FL 0 Tryd.prog 18 #[d.val r] w fun e w'=>e=.returned (num (zaI d))∧Nx w w':=by
 obtain⟨W,hW,n0,hWs,cW⟩:=boxed w d r;obtain⟨a,cap,ea⟩:=hd.holders.cases;obtain⟨a1,cap1,ea1⟩:=hd.turns.cases;rw [List.length_map] at ea ea1;have hv:=hd.holders.nx n0;have hv1:=hd.turns.nx n0;have hcap:=hd.cap0 _ _ _ ea;rw [ea] at hv;rw [ea1] at hv1;have cB:∀ w1,Nx W w1→w1.cell? ⟨w.heap.size,0,none⟩=some (.slice a d.holders.length cap)∧w1.cell? ⟨w.heap.size,1,none⟩=some (.slice a1 d.turns.length cap1):=fun w1 n1=>⟨(cW _ n1 0 r.h rfl).trans (by rw [ea]),(cW _ n1 1 r.t rfl).trans (by rw [ea1])⟩;have hlh:=hs.h;have hlt1:=hs.t;have nWW:Nx W W:=Below.refl _ _;obtain⟨f0,f1⟩:=cB _ nWW;clear cW;gi_enter Tryd.func18,Tryd.ntmps18;by_cases h6:6<d.holders.length
 ·have HP:=jqa (show zaI d=2 by unfold zaI;rw [if_pos h6])
  clear hv hcap cB;gi_wp2;go_ret;exact⟨by rw [HP.out];rfl,n0⟩
 ·have HP1:=jqa (show scan (zbp d.holders) 0 d.holders≠0→zaI d=scan (zbp d.holders) 0 d.holders by
   intro h;unfold zaI;rw [if_neg h6,if_pos h])
  have HP2:=jqa (show scan (zbp d.holders) 0 d.holders=0→zaI d=if ¬ (1≤d.turns.length∧d.turns.length≤12) then 2 else scan (zdl d.holders.length) 0 d.turns by
   intro h;unfold zaI;rw [if_neg h6,if_neg (by rw [h];simp)])
  gi_wp2
  gi_loopw [3] (fun i wr=>∃ k:Nat,k≤d.holders.length∧i=num k∧(scan (zbp d.holders) 0 d.holders=scan (zbp d.holders) k (d.holders.drop k))∧Nx W wr) (fun i _=>d.holders.length-(intOf i).toNat)
  case atStart=>exact⟨0,Nat.zero_le _,rfl,rfl,nWW⟩
  case round =>
   obtain⟨k,hk,rfl,hsc,n2⟩:=hrel;obtain⟨f0,f1⟩:=cB _ n2;by_cases hlt:k<d.holders.length
   ·obtain⟨b,off,ha,hbl,hcl⟩:=hv.get (by simp;omega)
    subst ha;have hx:d.holders[k]?=some d.holders[k]:=List.getElem?_eq_getElem hlt;have hxl:=hs.hn _ (List.getElem_mem hlt);generalize hxk:d.holders[k]=x at hx hxl;clear hxk;have g1:=(n2.cell (p:=⟨b,off+k,none⟩) (by exact hbl)).trans (Sl.one hcl hx);have HG:=jqa fun h0=>zbL hx h0 hsc;have HS:=jqa fun h0=>za4 hx h0 hsc;have keyN:=fun w1=>zhs x w1 hxl;have keyF:∀ n,CallsIn FL 0 Tryd.prog 42 #[.slice (some ⟨b,off,none⟩) k cap,str x] (wr.drewN n) fun e w'=>e=.returned (num (idxOf (fun x'=>decide (x'=x)) (d.holders.take k)))∧∃ m,w'=wr.drewN m:=by
     intro n;have nd:=Nx.drewN n2 n;have:=Sl.take (cap:=cap) (k:=k) (by simp;omega) (Nat.lt_of_lt_of_le hbl nd.size) (fun j k z x h1 h2=>(nd.cell (p:=⟨b,off+j * 1+k,none⟩) (by exact hbl)).trans (hcl j k z x h1 h2));rw [← List.map_take] at this;exact (znK _ (d.holders.take k) x _ this (by simp;omega)).mono fun e w' ⟨p,q⟩=>⟨p,n,q⟩
    have hia:=zeH (fun x'=>decide (x'=x)) (d.holders.take k);have hf:zbp d.holders k x=zpq (zbu x) ((d.holders.take k).any fun x'=>decide (x'=x)):=rfl;rw [← hia] at hf;generalize idxOf (fun x'=>decide (x'=x)) (d.holders.take k)=z at keyF hf;generalize zbu x=b1 at keyN hf;generalize hpf:zbp d.holders k x=pf at HG HS hf;have hkc:k≤cap:=by omega
    clear hsc hv hcl hx cB hia hpf;by_cases hz:0≤z
    ·rw [decide_eq_true hz] at hf
     cases b1 with
     | false =>
      have hf':=jqa (HS.out (by rw [hf];decide))
      gi_wp2_with (first | (gi_at_call 41;refine jqb (keyN _) ?_;rintro e w1 ⟨rfl,rfl⟩) | gi_in)
      go_ret;exact⟨by rw [HP1.out (by rw [hf'.out,hf];decide),hf'.out,hf];rfl,Nx.trans n0 n2⟩
     | true =>
      have hf':=jqa (HS.out (by rw [hf];decide));gi_upto_region 8 with (first | (gi_at_call 41;refine jqb (keyN _) ?_;rintro e w1 ⟨rfl,rfl⟩) | gi_in)
      gi_big_quiet_th (first | (gi_at_call 42;refine keyF _));gi_wp2;go_ret;exact⟨by rw [HP1.out (by rw [hf'.out,hf];decide),hf'.out,hf];rfl,Nx.trans n0 (Nx.drewN n2 _)⟩
    ·rw [decide_eq_false hz] at hf
     cases b1 with
     | false =>
      have hf':=jqa (HS.out (by rw [hf];decide))
      gi_wp2_with (first | (gi_at_call 41;refine jqb (keyN _) ?_;rintro e w1 ⟨rfl,rfl⟩) | gi_in)
      go_ret;exact⟨by rw [HP1.out (by rw [hf'.out,hf];decide),hf'.out,hf];rfl,Nx.trans n0 n2⟩
     | true =>
      have hf':=jqa (HG.out (by rw [hf];rfl));gi_upto_region 8 with (first | (gi_at_call 41;refine jqb (keyN _) ?_;rintro e w1 ⟨rfl,rfl⟩) | gi_in)
      gi_big_quiet_th (first | (gi_at_call 42;refine keyF _));gi_wp2;exact⟨⟨k+1,hlt,by simp,hf'.out,Nx.drewN n2 _⟩,by simp [intOf];omega⟩
   ·obtain rfl:k=d.holders.length:=by omega
    have HZ:=jqa (zbi hsc);clear hsc hv;by_cases hmt:1≤d.turns.length∧d.turns.length≤12
    ·have HP3:=jqa (show zaI d=scan (zdl d.holders.length) 0 d.turns by rw [HP2.out HZ.out,if_neg (by simpa using hmt)])
     have k0:=fun w1=>in_b (n:=d.turns.length) (low:=1) (high:=12) (b:=true) (decide_eq_true (by omega)) w1
     gi_wp2_with (first | (gi_at_call 32;refine jqb (k0 _) ?_;rintro e w1 ⟨rfl,rfl⟩) | gi_in)
     clear k0
     gi_loopw [4] (fun i wr'=>∃ k:Nat,k≤d.turns.length∧i=num k∧(scan (zdl d.holders.length) 0 d.turns=scan (zdl d.holders.length) k (d.turns.drop k))∧Nx W wr') (fun i _=>d.turns.length-(intOf i).toNat)
     case atStart=>exact⟨0,Nat.zero_le _,rfl,rfl,by assumption⟩
     case round =>
      obtain⟨k,hk,rfl,hsc,n4⟩:=hrel;obtain⟨f2,f3⟩:=cB _ n4;by_cases hlt:k<d.turns.length
      ·obtain⟨b,off,ha,hbl,hcl⟩:=hv1.get (by simp;omega)
       subst ha;have hx:d.turns[k]?=some d.turns[k]:=List.getElem?_eq_getElem hlt;generalize hxk:d.turns[k]=x at hx;clear hxk;obtain⟨x1,x2⟩:=x;obtain⟨g1,g2⟩:=Sl.at2 hcl n4 hbl hx;have HG:=jqa fun h0=>zbL hx h0 hsc;have HS:=jqa fun h0=>za4 hx h0 hsc;have hf:=zoT d.holders.length k x1 x2;have kA:∀ n,CallsIn FL 0 Tryd.prog 32 #[num x1,num 0,num ((d.holders.length:Int)-1)] (wr.drewN n) fun e w'=>e=.returned (.bool (decide (0≤x1∧x1≤(d.holders.length:Int)-1)))∧∃ m,w'=wr.drewN m:=fun n=>(zby x1 0 ((d.holders.length:Int)-1) _).mono fun e w' ⟨p,q⟩=>⟨p,n,q⟩;have kB:=fun w1=>zby x2 1 100 w1;generalize zdl d.holders.length k (x1,x2)=pf at HG HS hf;generalize decide (0≤x1∧x1≤(d.holders.length:Int)-1)=b1 at kA hf;generalize decide (1≤x2∧x2≤100)=b2 at kB hf;have n5:Nx w wr:=Nx.trans n0 n4;clear hsc hcl hx hv1 cB;rcases zql b1 b2 with rfl | ⟨rfl,rfl⟩ | ⟨rfl,rfl⟩
       ·have hz:=jqa (HS.out (by rw [hf];simp [znO]))
        gi_upto_region 15 with fail
        gi_big_quiet_th (first | (gi_at_call 32;refine kA _));have r1:(wr.drewN nq).cell? _=_:=f2;have r2:(wr.drewN nq).cell? _=_:=f3;have r3:(wr.drewN nq).cell? _=_:=g2
        replace n5:=Nx.drewN n5 nq
        replace n4:=Nx.drewN n4 nq
        generalize wr.drewN nq=W2 at r1 r2 r3 n5 n4 ⊢;clear f2 f3 g1 g2 kA
        gi_wp2_with (first | (gi_at_call 32;(refine jqb (kB _) ?_);rintro e w1 ⟨rfl,rfl⟩) | gi_in)
        go_ret;exact⟨by rw [HP3.out,hz.out,hf];rfl,n5⟩
       ·have hz:=jqa (HS.out (by rw [hf];simp [znO]))
        gi_upto_region 15 with fail
        gi_big_quiet_th (first | (gi_at_call 32;refine kA _));have r1:(wr.drewN nq).cell? _=_:=f2;have r2:(wr.drewN nq).cell? _=_:=f3;have r3:(wr.drewN nq).cell? _=_:=g2
        replace n5:=Nx.drewN n5 nq
        replace n4:=Nx.drewN n4 nq
        generalize wr.drewN nq=W2 at r1 r2 r3 n5 n4 ⊢;clear f2 f3 g1 g2 kA
        gi_wp2_with (first | (gi_at_call 32;(refine jqb (kB _) ?_);rintro e w1 ⟨rfl,rfl⟩) | gi_in)
        go_ret;exact⟨by rw [HP3.out,hz.out,hf];rfl,n5⟩
       ·have hz:=jqa (HG.out (by rw [hf];rfl))
        gi_upto_region 15 with fail
        gi_big_quiet_th (first | (gi_at_call 32;refine kA _));have r1:(wr.drewN nq).cell? _=_:=f2;have r2:(wr.drewN nq).cell? _=_:=f3;have r3:(wr.drewN nq).cell? _=_:=g2
        replace n5:=Nx.drewN n5 nq
        replace n4:=Nx.drewN n4 nq
        generalize wr.drewN nq=W2 at r1 r2 r3 n5 n4 ⊢;clear f2 f3 g1 g2 kA
        gi_wp2_with (first | (gi_at_call 32;(refine jqb (kB _) ?_);rintro e w1 ⟨rfl,rfl⟩) | gi_in)
        exact⟨⟨k+1,hlt,by simp,hz.out,n4⟩,by simp [intOf];omega⟩
      ·obtain rfl:k=d.turns.length:=by omega
       have HZ:=jqa (zbi hsc);clear hsc hv1;gi_wp2;go_ret;exact⟨by rw [HP3.out,HZ.out];rfl,Nx.trans n0 n4⟩
    ·have HP3:=jqa (show zaI d=2 by rw [HP2.out HZ.out,if_pos (by simpa using hmt)])
     have k0:=fun w1=>in_b (n:=d.turns.length) (low:=1) (high:=12) (b:=false) (decide_eq_false (by omega)) w1
     gi_wp2_with (first | (gi_at_call 32;refine jqb (k0 _) ?_;rintro e w1 ⟨rfl,rfl⟩) | gi_in)
     go_ret;exact⟨by rw [HP3.out];rfl,Nx.trans n0 n2⟩
end Go.Proofs.YtbbanmifdbeneaaDoor

