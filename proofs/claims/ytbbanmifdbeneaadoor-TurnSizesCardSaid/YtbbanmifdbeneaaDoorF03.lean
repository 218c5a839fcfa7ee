import Derived.Test.YtbbanmifdbeneaaDoorF02
set_option linter.all false
set_option maxRecDepth 100000
set_option maxHeartbeats 4000000
open Go.CallsIn renaming mono → jqa
open Go.Lib renaming hid → jqb
namespace Go.Proofs.YtbbanmifdbeneaaDoor
open Go.RowKit
def zbX (t:Nat) (_:Nat) (s:Int×Int×Int):Int:=if 0≤s.1∧s.1≤999999999 then (if (0≤s.2.1∧s.2.1≤(t:Int)-1)∧(0≤s.2.2∧s.2.2≤(t:Int)-1) then 0 else 6) else 1
def zch (t h:Nat) (_:Nat) (s:Int×Int×Int):Int:=if 0≤s.1∧s.1≤999999999 then (if (0≤s.2.1∧s.2.1≤(t:Int)-1)∧(0≤s.2.2∧s.2.2≤(h:Int)-1) then 0 else 6) else 1
def zaq (d:Dit):Int :=
 if d.swaps.length > 8 then 2 else
 if scan (zbX d.turns.length) 0 d.swaps≠0 then scan (zbX d.turns.length) 0 d.swaps else
 if d.loans.length > 8 then 2 else scan (zch d.turns.length d.holders.length) 0 d.loans
theorem Sl.at3 {w wr:World} {b off:Nat} {xs:List (Int×Int×Int)} (hcl:∀ (j k:Nat) (z:List Value) (x:Value),(xs.map three)[j]?=some z→z[k]?=some x→w.cell? ⟨b,off+j * 3+k,none⟩=some x) (n:Nx w wr) (hb:b<w.heap.size) {k:Nat} {x y z:Int} (hk:xs[k]?=some (x,y,z)) :
  wr.cell? ⟨b,off+k * 3,none⟩=some (num x)∧wr.cell? ⟨b,off+k * 3+1,none⟩=some (num y)∧wr.cell? ⟨b,off+k * 3+2,none⟩=some (num z):=by
 have h:=fun (i:Nat) (v:Value) (hv:(three (x,y,z))[i]?=some v)=>(n.cell (p:=⟨b,off+k * 3+i,none⟩) (by exact hb)).trans (hcl k i (three (x,y,z)) v (by simp [hk]) hv);exact⟨h 0 _ rfl,h 1 _ rfl,h 2 _ rfl⟩
theorem Sl.at2 {w wr:World} {b off:Nat} {xs:List (Int×Int)} (hcl:∀ (j k:Nat) (z:List Value) (x:Value),(xs.map two)[j]?=some z→z[k]?=some x→w.cell? ⟨b,off+j * 2+k,none⟩=some x) (n:Nx w wr) (hb:b<w.heap.size) {k:Nat} {x y:Int} (hk:xs[k]?=some (x,y)) :
  wr.cell? ⟨b,off+k * 2,none⟩=some (num x)∧wr.cell? ⟨b,off+k * 2+1,none⟩=some (num y):=by
 have h:=fun (i:Nat) (v:Value) (hv:(Go.Proofs.YtbbanmifdbeneaaDoor.two (x,y))[i]?=some v)=>(n.cell (p:=⟨b,off+k * 2+i,none⟩) (by exact hb)).trans (hcl k i (Go.Proofs.YtbbanmifdbeneaaDoor.two (x,y)) v (by simp [hk]) hv);exact⟨h 0 _ rfl,h 1 _ rfl⟩
theorem zbK {F:Fence} {n f:Nat} {args:Array Value} {w:World} {p:Prop} [Decidable p] {Q:World→Prop} (h:CallsIn F n Tryd.prog f args w fun e w'=>e=.returned (.bool (decide p))∧Q w') (hp:p):CallsIn F n Tryd.prog f args w fun e w'=>e=.returned (.bool true)∧Q w' :=
 h.mono fun e w' ⟨x,y⟩=>⟨by rw [x,decide_eq_true hp],y⟩
theorem zbF {F:Fence} {n f:Nat} {args:Array Value} {w:World} {p:Prop} [Decidable p] {Q:World→Prop} (h:CallsIn F n Tryd.prog f args w fun e w'=>e=.returned (.bool (decide p))∧Q w') (hp:¬ p):CallsIn F n Tryd.prog f args w fun e w'=>e=.returned (.bool false)∧Q w' :=
 h.mono fun e w' ⟨x,y⟩=>⟨by rw [x,decide_eq_false hp],y⟩
theorem zjO (B:Nat) (d:Dit) (w:World) (hd:DitAt w B 0 d) (hs:d.Small) :
  CallsIn FL 0 Tryd.prog 94 #[.pointer (some ⟨B,0,none⟩)] w fun e w'=>e=.returned (num (zaq d))∧Nx w w':=by
 obtain⟨v,c0,hv⟩:=hd.swaps;obtain⟨v1,c1,hv1⟩:=hd.loans;obtain⟨a,cap,rfl⟩:=hv.cases;obtain⟨a1,cap1,rfl⟩:=hv1.cases;rw [List.length_map] at c0 hv c1 hv1;simp only [Nat.zero_add] at c0 c1;have hlh:=hs.s;have hlt1:=hs.l;have n0:Nx w w:=Below.refl _ _;have keyT:∀ (n:Int) (w1:World),Nx w w1→CallsIn FL 0 Tryd.prog 98 #[.pointer (some ⟨B,0,none⟩),num n] w1 fun e w'=>e=.returned (.bool (decide (0≤n∧n≤d.turns.length-1)))∧w'=w1:=fun n w1 n1=>zlg B d n w1 (hd.nx n1) hs.t;have keyH:∀ (n:Int) (w1:World),Nx w w1→CallsIn FL 0 Tryd.prog 51 #[.pointer (some ⟨B,0,none⟩),num n] w1 fun e w'=>e=.returned (.bool (decide (0≤n∧n≤d.holders.length-1)))∧w'=w1:=fun n w1 n1=>zb6 B d n w1 (hd.nx n1) hs.h;have cB:∀ w1,Nx w w1→w1.cell? ⟨B,8,none⟩=some (.slice a1 d.loans.length cap1):=fun w1 n1=>(n1.cell (by exact hd.lt)).trans c1;gi_enter Tryd.func94,Tryd.ntmps94;by_cases h6:8<d.swaps.length
 ·have hp:zaq d=2:=by unfold zaq;rw [if_pos h6]
  have HP:Hid _:=hp;clear hp hv hv1 keyT keyH cB;gi_wp2;go_ret;exact⟨congrArg (fun n=>Ending.returned (num n)) (Eq.symm HP),n0⟩
 ·have HP1:Hid (scan (zbX d.turns.length) 0 d.swaps≠0→zaq d=scan (zbX d.turns.length) 0 d.swaps):=by
   intro h;unfold zaq;rw [if_neg h6,if_pos h]
  have HP2:Hid (scan (zbX d.turns.length) 0 d.swaps=0→zaq d=if d.loans.length > 8 then 2 else scan (zch d.turns.length d.holders.length) 0 d.loans):=by
   intro h;unfold zaq;rw [if_neg h6,if_neg (by rw [h];simp)]
  gi_wp2
  gi_loopw [20] (fun i wr=>∃ k:Nat,k≤d.swaps.length∧i=num k∧(scan (zbX d.turns.length) 0 d.swaps=scan (zbX d.turns.length) k (d.swaps.drop k))∧Nx w wr) (fun i _=>d.swaps.length-(intOf i).toNat)
  case atStart=>exact⟨0,Nat.zero_le _,rfl,rfl,n0⟩
  case round =>
   obtain⟨k,hk,rfl,hsc,n2⟩:=hrel;by_cases hlt:k<d.swaps.length
   ·obtain⟨b,off,ha,hbl,hcl⟩:=hv.get (by simp;omega)
    subst ha;have hx:d.swaps[k]?=some d.swaps[k]:=List.getElem?_eq_getElem hlt;generalize hxk:d.swaps[k]=x at hx;clear hxk;obtain⟨x1,x2,x3⟩:=x;obtain⟨g1,g2,g3⟩:=Sl.at3 hcl n2 hbl hx;have HG:=jqb fun h0=>zbL hx h0 hsc;have HS:=jqb fun h0=>za4 hx h0 hsc;have n5:∀ o,Nx w (wr.alloc o):=fun o=>n2.alloc (by exact n2.size) o;clear hsc hcl hx hv hv1 keyH cB;by_cases hh:0≤x1∧x1≤999999999
    ·by_cases hr:(0≤x2∧x2≤(d.turns.length:Int)-1)
     ·have k1:∀ w1,Nx w w1→_:=fun w1 n1=>zbK (keyT x2 w1 n1) hr
      by_cases hr3:(0≤x3∧x3≤(d.turns.length:Int)-1)
      ·have k2:∀ w1,Nx w w1→_:=fun w1 n1=>zbK (keyT x3 w1 n1) hr3
       have hf:zbX d.turns.length k (x1,x2,x3)=0:=by unfold zbX;rw [if_pos hh,if_pos ⟨hr,hr3⟩]
       have hz:=jqb (HG.out hf);clear keyT HG HS hf
       gi_wp2_with (first | (gi_at_call 40;refine jqa (zaQ hh _) ?_;rintro e w1 ⟨rfl,rfl⟩) | (gi_at_call 98;(first | (with_reducible refine jqa (k1 _ (n5 _)) ?_) | (with_reducible refine jqa (k2 _ (n5 _)) ?_));rintro e w1 ⟨rfl,rfl⟩) | gi_in)
       exact⟨⟨k+1,hlt,by simp,hz.out,n5 _⟩,by simp [intOf];omega⟩
      ·have k2:∀ w1,Nx w w1→_:=fun w1 n1=>zbF (keyT x3 w1 n1) hr3
       have hf:zbX d.turns.length k (x1,x2,x3)=6:=by unfold zbX;rw [if_pos hh,if_neg fun h=>hr3 h.2]
       have hz:=jqb ((HS.out (by rw [hf];decide)).trans hf);clear keyT HG HS hf
       gi_wp2_with (first | (gi_at_call 40;refine jqa (zaQ hh _) ?_;rintro e w1 ⟨rfl,rfl⟩) | (gi_at_call 98;(first | (with_reducible refine jqa (k1 _ (n5 _)) ?_) | (with_reducible refine jqa (k2 _ (n5 _)) ?_));rintro e w1 ⟨rfl,rfl⟩) | gi_in)
       go_ret;exact⟨by rw [HP1.out (by rw [hz.out];decide),hz.out];rfl,n5 _⟩
     ·have k1:∀ w1,Nx w w1→_:=fun w1 n1=>zbF (keyT x2 w1 n1) hr
      have hf:zbX d.turns.length k (x1,x2,x3)=6:=by unfold zbX;rw [if_pos hh,if_neg fun h=>hr h.1]
      have hz:=jqb ((HS.out (by rw [hf];decide)).trans hf);clear keyT HG HS hf
      gi_wp2_with (first | (gi_at_call 40;refine jqa (zaQ hh _) ?_;rintro e w1 ⟨rfl,rfl⟩) | (gi_at_call 98;(with_reducible refine jqa (k1 _ (n5 _)) ?_);rintro e w1 ⟨rfl,rfl⟩) | gi_in)
      go_ret;exact⟨by rw [HP1.out (by rw [hz.out];decide),hz.out];rfl,n5 _⟩
    ·have hf:zbX d.turns.length k (x1,x2,x3)=1:=by unfold zbX;rw [if_neg hh]
     have hz:=jqb ((HS.out (by rw [hf];decide)).trans hf);clear keyT HG HS hf
     gi_wp2_with (first | (gi_at_call 40;refine jqa (zbS hh _) ?_;rintro e w1 ⟨rfl,rfl⟩) | gi_in)
     go_ret;exact⟨by rw [HP1.out (by rw [hz.out];decide),hz.out];rfl,n5 _⟩
   ·obtain rfl:k=d.swaps.length:=by omega
    have HZ:Hid _:=zbi hsc;have f1:=cB _ n2;clear hsc hv;by_cases hmt:8<d.loans.length
    ·have HP3:Hid (zaq d=2):=by show _=_;rw [HP2.out HZ.out,if_pos hmt]
     clear hv1 keyH keyT cB;gi_wp2;go_ret;exact⟨by rw [HP3.out];rfl,by assumption⟩
    ·have HP3:Hid (zaq d=scan (zch d.turns.length d.holders.length) 0 d.loans):=by show _=_;rw [HP2.out HZ.out,if_neg hmt]
     gi_wp2
     gi_loopw [56] (fun i wr'=>∃ k:Nat,k≤d.loans.length∧i=num k∧(scan (zch d.turns.length d.holders.length) 0 d.loans=scan (zch d.turns.length d.holders.length) k (d.loans.drop k))∧Nx w wr') (fun i _=>d.loans.length-(intOf i).toNat)
     case atStart=>exact⟨0,Nat.zero_le _,rfl,rfl,by assumption⟩
     case round =>
      obtain⟨k,hk,rfl,hsc,n4⟩:=hrel;by_cases hlt:k<d.loans.length
      ·obtain⟨b,off,ha,hbl,hcl⟩:=hv1.get (by simp;omega)
       subst ha;have hx:d.loans[k]?=some d.loans[k]:=List.getElem?_eq_getElem hlt;generalize hxk:d.loans[k]=x at hx;clear hxk;obtain⟨x1,x2,x3⟩:=x;obtain⟨g1,g2,g3⟩:=Sl.at3 hcl n4 hbl hx;have HG:=jqb fun h0=>zbL hx h0 hsc;have HS:=jqb fun h0=>za4 hx h0 hsc;have n5:∀ o,Nx w (wr.alloc o):=fun o=>n4.alloc (by exact n4.size) o;clear hsc hcl hx hv1 cB;by_cases hh:0≤x1∧x1≤999999999
       ·by_cases hr:(0≤x2∧x2≤(d.turns.length:Int)-1)
        ·have k1:∀ w1,Nx w w1→_:=fun w1 n1=>zbK (keyT x2 w1 n1) hr
         by_cases hr3:(0≤x3∧x3≤(d.holders.length:Int)-1)
         ·have k2:∀ w1,Nx w w1→_:=fun w1 n1=>zbK (keyH x3 w1 n1) hr3
          have hf:zch d.turns.length d.holders.length k (x1,x2,x3)=0:=by unfold zch;rw [if_pos hh,if_pos ⟨hr,hr3⟩]
          have hz:=jqb (HG.out hf);clear keyT keyH HG HS hf
          gi_wp2_with (first | (gi_at_call 40;refine jqa (zaQ hh _) ?_;rintro e w1 ⟨rfl,rfl⟩) | (gi_at_call 98;(refine jqa (k1 _ (n5 _)) ?_);rintro e w1 ⟨rfl,rfl⟩) | (gi_at_call 51;(refine jqa (k2 _ (n5 _)) ?_);rintro e w1 ⟨rfl,rfl⟩) | gi_in)
          exact⟨⟨k+1,hlt,by simp,hz.out,n5 _⟩,by simp [intOf];omega⟩
         ·have k2:∀ w1,Nx w w1→_:=fun w1 n1=>zbF (keyH x3 w1 n1) hr3
          have hf:zch d.turns.length d.holders.length k (x1,x2,x3)=6:=by unfold zch;rw [if_pos hh,if_neg fun h=>hr3 h.2]
          have hz:=jqb ((HS.out (by rw [hf];decide)).trans hf);clear keyT keyH HG HS hf
          gi_wp2_with (first | (gi_at_call 40;refine jqa (zaQ hh _) ?_;rintro e w1 ⟨rfl,rfl⟩) | (gi_at_call 98;(refine jqa (k1 _ (n5 _)) ?_);rintro e w1 ⟨rfl,rfl⟩) | (gi_at_call 51;(refine jqa (k2 _ (n5 _)) ?_);rintro e w1 ⟨rfl,rfl⟩) | gi_in)
          go_ret;exact⟨by rw [HP3.out,hz.out];rfl,n5 _⟩
        ·have k1:∀ w1,Nx w w1→_:=fun w1 n1=>zbF (keyT x2 w1 n1) hr
         have hf:zch d.turns.length d.holders.length k (x1,x2,x3)=6:=by unfold zch;rw [if_pos hh,if_neg fun h=>hr h.1]
         have hz:=jqb ((HS.out (by rw [hf];decide)).trans hf);clear keyT keyH HG HS hf
         gi_wp2_with (first | (gi_at_call 40;refine jqa (zaQ hh _) ?_;rintro e w1 ⟨rfl,rfl⟩) | (gi_at_call 98;(refine jqa (k1 _ (n5 _)) ?_);rintro e w1 ⟨rfl,rfl⟩) | gi_in)
         go_ret;exact⟨by rw [HP3.out,hz.out];rfl,n5 _⟩
       ·have hf:zch d.turns.length d.holders.length k (x1,x2,x3)=1:=by unfold zch;rw [if_neg hh]
        have hz:=jqb ((HS.out (by rw [hf];decide)).trans hf);clear keyT keyH HG HS hf
        gi_wp2_with (first | (gi_at_call 40;refine jqa (zbS hh _) ?_;rintro e w1 ⟨rfl,rfl⟩) | gi_in)
        go_ret;exact⟨by rw [HP3.out,hz.out];rfl,n5 _⟩
      ·obtain rfl:k=d.loans.length:=by omega
       have HZ:=jqb (zbi hsc);clear hsc hv1 keyT keyH cB;gi_wp2;go_ret;exact⟨by rw [HP3.out,HZ.out];rfl,n4⟩
end Go.Proofs.YtbbanmifdbeneaaDoor
