import Derived.Test.YtbbanmifdbeneaaDoorF09
import Derived.Test.YtbbanmifdbeneaaDoorF07
set_option linter.all false
set_option maxRecDepth 100000
set_option maxHeartbeats 4000000
open Go.CallsIn renaming mono → jqa
namespace Go.Proofs.YtbbanmifdbeneaaDoor
open Go.RowKit
structure Lg where
 lo:Int
 hi:Int
 ops:List (Int×Int×Int)
def zjq (h:Nat) (_:Nat) (o:Int×Int×Int):Int :=
 if 0≤o.1∧o.1≤(h:Int)-1 then (if (0≤o.2.1∧o.2.1≤999999999)∧(0≤o.2.2∧o.2.2≤999999999) then (if o.2.2≤o.2.1 then 7 else if o.2.2-o.2.1 > 50 then 8 else 0) else 1) else 6
def logS (d:Dit) (l:Lg):Int :=
 if zaF d≠0 then zaF d else if ¬ (-100≤l.lo∧l.lo≤l.hi∧l.hi≤100) then 1 else if l.ops.length > 20 then 2 else scan (zjq d.holders.length) 0 l.ops
theorem zm2 (d:Dit) (r:zaR) (l:Lg) (v:Value) (w:World) (hd:DitSl w d r) (hs:d.Small) (hg:Glob w) (hl:Sl w v 3 (l.ops.map three)) (hls:l.ops.length≤1000000000) :
  CallsIn FL 0 Tryd.prog 48 #[d.val r,.agg #[num l.lo,num l.hi,v]] w fun e w'=>∃ v,e=.returned (.tuple #[.pointer v,num (logS d l)])∧Nx w w'∧(logS d l=0→d.Ok∧zf6 w d 0 e w'):=by
 obtain⟨a,cap,rfl⟩:=hl.cases;rw [List.length_map] at hl ⊢;obtain⟨W,hW,n0,hWs,cW⟩:=boxed w d r;generalize hY:W.alloc (.cells #[num l.lo,num l.hi,.slice a l.ops.length cap] 37)=Y;have sY:Y.heap.size=w.heap.size+1+1:=by rw [← hY];simp [hWs]
 have nY:Nx W Y:=by rw [← hY];exact zaG (Below.refl _ _) _
 have nwY:Nx w Y:=Nx.trans n0 nY;have cq:∀ w1,Nx Y w1→w1.cell? ⟨w.heap.size+1,0,none⟩=some (num l.lo)∧w1.cell? ⟨w.heap.size+1,1,none⟩=some (num l.hi)∧w1.cell? ⟨w.heap.size+1,2,none⟩=some (.slice a l.ops.length cap):=by
  intro w1 n1;have k:∀ i u,#[num l.lo,num l.hi,.slice a l.ops.length cap][i]?=some u→w1.cell? ⟨w.heap.size+1,i,none⟩=some u:=fun i u h =>
   (n1.cell (p:=⟨w.heap.size+1,i,none⟩) (by show w.heap.size+1<_;omega)).trans (by rw [← hY,← hWs];exact zaw _ _ _ _ _ h)
  exact⟨k 0 _ rfl,k 1 _ rfl,k 2 _ rfl⟩
 obtain⟨c0,c1,c2,c3,c4,c5,c6,c7,c8,c9,c10,c11,c12,c13⟩:=zaS (cW _ nY);by_cases hc:zaF d=0
 ·have hO:=zco hc
  have k66:=zic d r Y (hd.nx nwY) hs (hg.nx nwY) hc;by_cases hi : -100≤l.lo∧l.lo≤l.hi∧l.hi≤100
  ·have k96:=fun w1=>zbK (zcK l.lo l.hi (-100) 100 w1) hi
   by_cases hn:20<l.ops.length
   ·have HA:Hid (logS d l=2):=by show _=_;unfold logS;rw [if_neg (by simp [hc]),if_neg (by simpa using hi),if_pos hn]
    clear hc cW hO hl;gi_enter Tryd.func48,Tryd.ntmps48
    gi_wp2_with (first
     | (gi_at_call 43;refine jqa k66 ?_;rintro e w1 ⟨B,M,rfl,n1,hB,hw⟩;obtain⟨q0,q1,q2⟩:=cq _ n1;clear hw)
     | (gi_at_call 63;refine jqa (k96 _) ?_;rintro e w2 ⟨rfl,n2⟩;obtain⟨p0,p1,p2⟩:=cq _ (Nx.trans n1 n2))
     | gi_in)
    go_ret2;exact⟨_,by rw [HA.out];rfl,Nx.trans nwY (Nx.trans n1 n2),fun h=>by rw [HA.out] at h;cases h⟩
   ·have HL:Hid (logS d l=scan (zjq d.holders.length) 0 l.ops):=by show _=_;unfold logS;rw [if_neg (by simp [hc]),if_neg (by simpa using hi),if_neg hn]
    have HO:=Lib.hid hO;clear hc cW hO;gi_enter Tryd.func48,Tryd.ntmps48;gi_upto_region 9 with (first
     | (gi_at_call 43;refine jqa k66 ?_;rintro e w1 ⟨B,M,rfl,n1,hB,hw⟩;obtain⟨q0,q1,q2⟩:=cq _ n1;have HW:=Lib.hid hw;clear hw)
     | (gi_at_call 63;refine jqa (k96 _) ?_;rintro e w2 ⟨rfl,n2⟩;obtain⟨p0,p1,p2⟩:=cq _ (Nx.trans n1 n2))
     | gi_in)
    have n12:=Nx.trans n1 n2;have hlw:=hl.nx (Nx.trans nwY n12);have hl2:Sl w2 (.slice a l.ops.length cap) 3 (l.ops.map three):=hlw;have W2:=Lib.hid (HW.out.nx n2);have keyH:∀ (h:Int) (o:Obj) (wr:World) (n:Nat),Nx w2 wr→CallsIn FL 0 Tryd.prog 51 #[.pointer (some ⟨B,0,none⟩),num h] ((wr.alloc o).drewN n) fun e w'=>e=.returned (.bool (decide (0≤h∧h≤d.holders.length-1)))∧∃ m,w'=(wr.alloc o).drewN m :=
     fun h o wr n nr=>(zb6 B d h _ (W2.out.wat.dit.nx (Nx.drewN (zaG nr o) n)) hs.h).mono fun e w' ⟨x,y⟩=>⟨x,n,y⟩
    clear hl hlw HW q0 q1 q2;gi_wp2
    gi_loopw [32] (fun i wr=>∃ k:Nat,k≤l.ops.length∧i=num k∧(scan (zjq d.holders.length) 0 l.ops=scan (zjq d.holders.length) k (l.ops.drop k))∧Nx w2 wr) (fun i _=>l.ops.length-(intOf i).toNat)
    case atStart=>exact⟨0,Nat.zero_le _,rfl,rfl,Below.refl _ _⟩
    case round =>
     obtain⟨k,hk,rfl,hsc,nr⟩:=hrel;by_cases hlt:k<l.ops.length
     ·obtain⟨b,off,ha,hbl,hcl⟩:=hl2.get (by simp;omega)
      subst ha;have hx:l.ops[k]?=some l.ops[k]:=List.getElem?_eq_getElem hlt;generalize hxk:l.ops[k]=x at hx;clear hxk;obtain⟨x1,x2,x3⟩:=x;obtain⟨g1,g2,g3⟩:=Sl.at3 hcl nr hbl hx;have HG:=Lib.hid fun h0=>zbL hx h0 hsc;have HS:=Lib.hid fun h0=>za4 hx h0 hsc;have nr1:∀ o,Nx w2 (wr.alloc o):=fun o=>zaG nr o;have t1:∀ w1,CallsIn FL 0 Tryd.prog 40 #[num x2,num 0,num 999999999] w1 _:=fun w1=>zbc x2 0 999999999 w1;have t2:∀ w1,CallsIn FL 0 Tryd.prog 40 #[num x3,num 0,num 999999999] w1 _:=fun w1=>zbc x3 0 999999999 w1;have hfx:zjq d.holders.length k (x1,x2,x3)=if 0≤x1∧x1≤(d.holders.length:Int)-1 then (if (0≤x2∧x2≤999999999)∧(0≤x3∧x3≤999999999) then (if x3≤x2 then 7 else if x3-x2 > 50 then 8 else 0) else 1) else 6:=rfl
      clear hsc hcl hx hl2;have bad:∀ {c:Int},zjq d.holders.length k (x1,x2,x3)=c→c≠0→Hid (logS d l=c):=fun {c} h h0=>by
       show _=_;rw [HL.out,HS.out (by rw [h];exact h0),h]
      by_cases hh:0≤x1∧x1≤(d.holders.length:Int)-1
      ·have kH:=fun o n=>zbK (keyH x1 o wr n nr) hh
       rw [if_pos hh] at hfx;by_cases p1:0≤x2∧x2≤999999999
       ·have t1:=fun w1=>zbK (t1 w1) p1
        by_cases p2:0≤x3∧x3≤999999999
        ·have t2:=fun w1=>zbK (t2 w1) p2
         rw [if_pos ⟨p1,p2⟩] at hfx;by_cases p3:x3≤x2
         ·rw [if_pos p3] at hfx
          have HF:=bad hfx (by decide);clear keyH HG HS hfx bad hh;gi_upto_region 11 with fail
          gi_big_quiet_th (first | (gi_at_call 51;refine kH _ _))
          gi_wp2_with (first
       | (gi_at_call 40;(first | (with_reducible refine jqa (t1 _) ?_) | (with_reducible refine jqa (t2 _) ?_));rintro e w3 ⟨rfl,rfl⟩)
       | gi_in)
          go_ret2;exact⟨_,by rw [HF.out];rfl,Nx.trans nwY (Nx.trans n12 (Nx.drewN (nr1 _) _)),fun h=>by rw [HF.out] at h;cases h⟩
         ·rw [if_neg p3] at hfx
          by_cases p4:x3-x2 > 50
          ·rw [if_pos p4] at hfx
           have HF:=bad hfx (by decide);clear keyH HG HS hfx bad hh;gi_upto_region 11 with fail
           gi_big_quiet_th (first | (gi_at_call 51;refine kH _ _))
           gi_wp2_with (first
       | (gi_at_call 40;(first | (with_reducible refine jqa (t1 _) ?_) | (with_reducible refine jqa (t2 _) ?_));rintro e w3 ⟨rfl,rfl⟩)
       | gi_in)
           go_ret2;exact⟨_,by rw [HF.out];rfl,Nx.trans nwY (Nx.trans n12 (Nx.drewN (nr1 _) _)),fun h=>by rw [HF.out] at h;cases h⟩
          ·rw [if_neg p4] at hfx
           have hz:=Lib.hid (HG.out hfx);clear keyH HG HS hfx bad hh;gi_upto_region 11 with fail
           gi_big_quiet_th (first | (gi_at_call 51;refine kH _ _))
           gi_wp2_with (first
       | (gi_at_call 40;(first | (with_reducible refine jqa (t1 _) ?_) | (with_reducible refine jqa (t2 _) ?_));rintro e w3 ⟨rfl,rfl⟩)
       | gi_in)
           go_roundw
           case rel=>exact⟨k+1,hlt,by simp,hz.out,Nx.drewN (nr1 _) _⟩
           case measure=>simp [intOf];omega
        ·have t2:=fun w1=>zbF (t2 w1) p2
         rw [if_neg fun h=>p2 h.2] at hfx;have HF:=bad hfx (by decide);clear keyH HG HS hfx bad hh;gi_upto_region 11 with fail
         gi_big_quiet_th (first | (gi_at_call 51;refine kH _ _))
         gi_wp2_with (first
       | (gi_at_call 40;(first | (with_reducible refine jqa (t1 _) ?_) | (with_reducible refine jqa (t2 _) ?_));rintro e w3 ⟨rfl,rfl⟩)
       | gi_in)
         go_ret2;exact⟨_,by rw [HF.out];rfl,Nx.trans nwY (Nx.trans n12 (Nx.drewN (nr1 _) _)),fun h=>by rw [HF.out] at h;cases h⟩
       ·have t1:=fun w1=>zbF (t1 w1) p1
        rw [if_neg fun h=>p1 h.1] at hfx;have HF:=bad hfx (by decide);clear keyH HG HS hfx bad hh t2;gi_upto_region 11 with fail
        gi_big_quiet_th (first | (gi_at_call 51;refine kH _ _))
        gi_wp2_with (first | (gi_at_call 40;refine jqa (t1 _) ?_;rintro e w3 ⟨rfl,rfl⟩) | gi_in)
        go_ret2;exact⟨_,by rw [HF.out];rfl,Nx.trans nwY (Nx.trans n12 (Nx.drewN (nr1 _) _)),fun h=>by rw [HF.out] at h;cases h⟩
      ·have kH:=fun o n=>zbF (keyH x1 o wr n nr) hh
       rw [if_neg hh] at hfx;have HF:=bad hfx (by decide);clear keyH HG HS hfx bad hh t1 t2;gi_upto_region 11 with fail
       gi_big_quiet_th (first | (gi_at_call 51;refine kH _ _));gi_wp2;go_ret2;exact⟨_,by rw [HF.out];rfl,Nx.trans nwY (Nx.trans n12 (Nx.drewN (nr1 _) _)),fun h=>by rw [HF.out] at h;cases h⟩
     ·obtain rfl:k=l.ops.length:=by omega
      have HZ:=Lib.hid (zbi hsc);have HE:Hid (logS d l=0):=by show _=_;rw [HL.out,HZ.out]
      clear hsc hl2 keyH;gi_wp2;go_ret2;exact⟨_,by rw [HE.out];rfl,Nx.trans nwY (Nx.trans n12 nr),fun _=>⟨HO.out,B,M,rfl,Nx.trans nwY (Nx.trans n12 nr),by omega,W2.out.nx nr⟩⟩
  ·have HA:Hid (logS d l=1):=by show _=_;unfold logS;rw [if_neg (by simp [hc]),if_pos hi]
   have k96:=fun w1=>zbF (zcK l.lo l.hi (-100) 100 w1) hi;clear hc cW hO hl;gi_enter Tryd.func48,Tryd.ntmps48
   gi_wp2_with (first
    | (gi_at_call 43;refine jqa k66 ?_;rintro e w1 ⟨B,M,rfl,n1,hB,hw⟩;obtain⟨q0,q1,q2⟩:=cq _ n1;clear hw)
    | (gi_at_call 63;refine jqa (k96 _) ?_;rintro e w2 ⟨rfl,n2⟩)
    | gi_in)
   go_ret2;exact⟨_,by rw [HA.out];rfl,Nx.trans nwY (Nx.trans n1 n2),fun h=>by rw [HA.out] at h;cases h⟩
 ·have k66:=zie d r Y (hd.nx nwY) hs (hg.nx nwY) hc
  have HA:Hid (logS d l=zaF d):=by show _=_;unfold logS;rw [if_pos hc]
  have hb:(zaF d != 0)=true:=by simpa using hc
  have HC:=Lib.hid hc;clear cW hc;gi_enter Tryd.func48,Tryd.ntmps48
  gi_wp2_with (first
   | (gi_at_call 43;refine jqa k66 ?_;rintro e w1 ⟨rfl,n1⟩)
   | gi_in)
  go_ret2;exact⟨_,by rw [HA.out];rfl,Nx.trans nwY n1,fun h=>absurd (HA.out.symm.trans h) HC.out⟩
end Go.Proofs.YtbbanmifdbeneaaDoor
