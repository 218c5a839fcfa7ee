import Derived.Test.YtbbanmifdbeneaaDoorF03
set_option linter.all false
set_option maxRecDepth 100000
set_option maxHeartbeats 4000000
open Go.CallsIn renaming mono → jqa
namespace Go.Proofs.YtbbanmifdbeneaaDoor
open Go.RowKit
def zjv (b1 b2 b3 b4 b5 b6:Bool):Int:=if b1 then (if b2 then 5 else if b3 then (if b4 then (if b5 then (if b6 then 0 else 1) else 1) else 1) else 6) else 4
def zfJ (h:Nat) (l:List Plot) (i:Nat) (p:Plot):Int :=
 zjv (zbu p.name) ((l.take i).any fun o=>decide (o.name=p.name)) (decide (0≤p.holder∧p.holder≤(h:Int)-1)) (decide (0≤p.far∧p.far≤20)) (decide (0≤p.low∧p.low≤p.high∧p.high≤999999999)) (decide (0≤p.worth∧p.worth≤10000))
def zaO (d:Dit):Int :=
 if ¬ ((0≤d.flow.1∧d.flow.1≤d.flow.2∧d.flow.2≤100000)∧(0≤d.loss.1∧d.loss.1≤d.loss.2∧d.loss.2≤1000)) then 1 else
 if d.plots.length > 8 then 2 else scan (zfJ d.holders.length d.plots) 0 d.plots
theorem zqf (b1 b2 b3 b4 b5 b6:Bool):b1=false∨(b1=true∧b2=true)∨(b1=true∧b2=false∧b3=false)∨(b1=true∧b2=false∧b3=true∧b4=false)∨(b1=true∧b2=false∧b3=true∧b4=true∧b5=false) ∨
  (b1=true∧b2=false∧b3=true∧b4=true∧b5=true∧b6=false)∨(b1=true∧b2=false∧b3=true∧b4=true∧b5=true∧b6=true):=by
 cases b1<;>cases b2<;>cases b3<;>cases b4<;>cases b5<;>cases b6<;>simp
theorem Sl.at6 {w wr:World} {b off:Nat} {xs:List Plot} (hcl:∀ (j k:Nat) (z:List Value) (x:Value),(xs.map Plot.cells)[j]?=some z→z[k]?=some x→w.cell? ⟨b,off+j * 6+k,none⟩=some x) (n:Nx w wr) (hb:b<w.heap.size) {k:Nat} {p:Plot} (hk:xs[k]?=some p) :
  wr.cell? ⟨b,off+k * 6,none⟩=some (str p.name)∧wr.cell? ⟨b,off+k * 6+1,none⟩=some (num p.holder)∧wr.cell? ⟨b,off+k * 6+2,none⟩=some (num p.far)∧wr.cell? ⟨b,off+k * 6+3,none⟩=some (num p.low)∧wr.cell? ⟨b,off+k * 6+4,none⟩=some (num p.high)∧wr.cell? ⟨b,off+k * 6+5,none⟩=some (num p.worth):=by
 have h:=fun (i:Nat) (v:Value) (hv:(Plot.cells p)[i]?=some v)=>(n.cell (p:=⟨b,off+k * 6+i,none⟩) (by exact hb)).trans (hcl k i (Plot.cells p) v (by simp [hk]) hv);exact⟨h 0 _ rfl,h 1 _ rfl,h 2 _ rfl,h 3 _ rfl,h 4 _ rfl,h 5 _ rfl⟩
theorem zlb (B:Nat) (d:Dit) (w:World) (hd:DitAt w B 0 d) (hs:d.Small) :
  CallsIn FL 0 Tryd.prog 95 #[.pointer (some ⟨B,0,none⟩)] w fun e w'=>e=.returned (num (zaO d))∧Nx w w':=by
 obtain⟨v,c13,hv⟩:=hd.plots;obtain⟨a,cap,rfl⟩:=hv.cases;rw [List.length_map] at c13 hv;simp only [Nat.zero_add] at c13;have hcap:=hd.cap13 _ _ _ (by simpa using c13);have hlh:=hs.p;have n0:Nx w w:=Below.refl _ _;have c9:=hd.flow1;have c10:=hd.flow2;have c11:=hd.loss1;have c12:=hd.loss2;simp only [Nat.zero_add] at c9 c10 c11 c12;have cA:∀ w1,Nx w w1→w1.cell? ⟨B,13,none⟩=some (.slice a d.plots.length cap)∧w1.cell? ⟨B,11,none⟩=some (num d.loss.1)∧w1.cell? ⟨B,12,none⟩=some (num d.loss.2):=fun w1 n1=>⟨(n1.cell (by exact hd.lt)).trans c13,(n1.cell (by exact hd.lt)).trans c11,(n1.cell (by exact hd.lt)).trans c12⟩;have keyI:∀ x y hi w1,Nx w w1→CallsIn FL 0 Tryd.prog 63 #[.agg #[num x,num y],num 0,num hi] w1 fun e w'=>e=.returned (.bool (decide (0≤x∧x≤y∧y≤hi)))∧Nx w w':=fun x y hi w1 n1=>(zcK x y 0 hi w1).mono fun e w' ⟨p,q⟩=>⟨p,Nx.trans n1 q⟩;gi_enter Tryd.func95,Tryd.ntmps95;by_cases hf1:0≤d.flow.1∧d.flow.1≤d.flow.2∧d.flow.2≤100000
 ·have k1:=fun w1 n1=>zbK (keyI d.flow.1 d.flow.2 100000 w1 n1) hf1
  by_cases hf2:0≤d.loss.1∧d.loss.1≤d.loss.2∧d.loss.2≤1000
  ·have k2:=fun w1 n1=>zbK (keyI d.loss.1 d.loss.2 1000 w1 n1) hf2
   by_cases h8:8<d.plots.length
   ·have HP:Hid (zaO d=2):=by show _=_;unfold zaO;rw [if_neg (fun h=>h ⟨hf1,hf2⟩),if_pos h8]
    clear keyI hv
    gi_wp2_with (first | (gi_at_call 63;(first | (with_reducible refine jqa (k1 _ (by assumption)) ?_) | (with_reducible refine jqa (k2 _ (by assumption)) ?_));rintro e w1 ⟨rfl,n1⟩;obtain⟨e1,e2,e3⟩:=cA _ n1) | gi_in)
    go_ret;exact⟨by rw [HP.out];rfl,by assumption⟩
   ·have HP:Hid (zaO d=scan (zfJ d.holders.length d.plots) 0 d.plots):=by show _=_;unfold zaO;rw [if_neg (fun h=>h ⟨hf1,hf2⟩),if_neg h8]
    gi_wp2_with (first | (gi_at_call 63;(first | (with_reducible refine jqa (k1 _ (by assumption)) ?_) | (with_reducible refine jqa (k2 _ (by assumption)) ?_));rintro e w1 ⟨rfl,n1⟩;obtain⟨e1,e2,e3⟩:=cA _ n1) | gi_in)
    clear k1 k2
    gi_loopw [36] (fun i wr=>∃ k:Nat,k≤d.plots.length∧i=num k∧(scan (zfJ d.holders.length d.plots) 0 d.plots=scan (zfJ d.holders.length d.plots) k (d.plots.drop k))∧Nx w wr) (fun i _=>d.plots.length-(intOf i).toNat)
    case atStart=>exact⟨0,Nat.zero_le _,rfl,rfl,by assumption⟩
    case round =>
     obtain⟨k,hk,rfl,hsc,n2⟩:=hrel;by_cases hlt:k<d.plots.length
     ·obtain⟨b,off,ha,hbl,hcl⟩:=hv.get (by simp;omega)
      subst ha;have hx:d.plots[k]?=some d.plots[k]:=List.getElem?_eq_getElem hlt;have hxl:=hs.pn _ (List.getElem_mem hlt);generalize hxk:d.plots[k]=x at hx hxl;clear hxk;obtain⟨g0,g1,g2,g3,g4,g5⟩:=Sl.at6 hcl n2 hbl hx;generalize hW:wr.alloc (.cells #[str x.name,num x.holder,num x.far,num x.low,num x.high,num x.worth] 55)=W;have hwW:Nx w W:=by rw [← hW];exact n2.alloc (by exact n2.size) _
      have hz:W.heap[wr.heap.size]?=some (.cells #[str x.name,num x.holder,num x.far,num x.low,num x.high,num x.worth] 55):=by rw [← hW];exact heap_alloc_new wr _
      have hWs:wr.heap.size<W.heap.size:=by rw [← hW];simp
      have nW:Nx W W:=Below.refl _ _;have cN:∀ w1,Nx W w1→w1.cell? ⟨wr.heap.size,0,none⟩=some (str x.name)∧w1.cell? ⟨wr.heap.size,1,none⟩=some (num x.holder)∧w1.cell? ⟨wr.heap.size,2,none⟩=some (num x.far)∧w1.cell? ⟨wr.heap.size,3,none⟩=some (num x.low)∧w1.cell? ⟨wr.heap.size,4,none⟩=some (num x.high)∧w1.cell? ⟨wr.heap.size,5,none⟩=some (num x.worth)∧w1.cell? ⟨B,13,none⟩=some (.slice (some ⟨b,off,none⟩) d.plots.length cap):=by
       intro w1 n1;refine⟨(n1.cell (by exact hWs)).trans ?_,(n1.cell (by exact hWs)).trans ?_,(n1.cell (by exact hWs)).trans ?_,(n1.cell (by exact hWs)).trans ?_,(n1.cell (by exact hWs)).trans ?_,(n1.cell (by exact hWs)).trans ?_,(cA _ (Nx.trans hwW n1)).1⟩<;>simp [World.cell?,hz]
      have HG:=Lib.hid fun h0=>zbL hx h0 hsc;have HS:=Lib.hid fun h0=>za4 hx h0 hsc;have k136:∀ w1,Nx W w1→CallsIn FL 0 Tryd.prog 96 #[str x.name] w1 fun e w'=>e=.returned (.bool (zbu x.name))∧Nx W w':=fun w1 n1=>(zin x.name w1 hxl).mono fun e w' ⟨y,z⟩=>⟨y,Nx.trans n1 z⟩;have k139:∀ w1,Nx W w1→CallsIn FL 0 Tryd.prog 99 #[.slice (some ⟨b,off,none⟩) k cap,.func (.func 100) #[] #[.pointer (some ⟨wr.heap.size,0,none⟩)]] w1 fun e w'=>e=.returned (.bool ((d.plots.take k).any fun o=>decide (o.name=x.name)))∧Nx W w':=by
       intro w1 n1;have nw1:=Nx.trans hwW n1;have:=Sl.take (cap:=cap) (k:=k) (by simp;omega) (Nat.lt_of_lt_of_le hbl nw1.size) (fun j k z x h1 h2=>(nw1.cell (p:=⟨b,off+j * 6+k,none⟩) (by exact hbl)).trans (hcl j k z x h1 h2));rw [← List.map_take] at this;exact (zgd _ (d.plots.take k) wr.heap.size x w1 this (by simp;omega) (cN _ n1).1 (Nat.lt_of_lt_of_le hWs n1.size)).mono fun e w' ⟨y,z⟩=>⟨y,Nx.trans n1 z⟩
      have k89:∀ w1,Nx W w1→CallsIn FL 0 Tryd.prog 51 #[.pointer (some ⟨B,0,none⟩),num x.holder] w1 fun e w'=>e=.returned (.bool (decide (0≤x.holder∧x.holder≤(d.holders.length:Int)-1)))∧w'=w1:=fun w1 n1=>zb6 B d x.holder w1 (hd.nx (Nx.trans hwW n1)) hs.h;have k96:∀ w1,Nx W w1→CallsIn FL 0 Tryd.prog 63 #[.agg #[num x.low,num x.high],num 0,num 999999999] w1 fun e w'=>e=.returned (.bool (decide (0≤x.low∧x.low≤x.high∧x.high≤999999999)))∧Nx W w':=fun w1 n1=>(zcK x.low x.high 0 999999999 w1).mono fun e w' ⟨p,q⟩=>⟨p,Nx.trans n1 q⟩;have k67a:=fun w1=>zbc x.far 0 20 w1;have k67b:=fun w1=>zbc x.worth 0 10000 w1;generalize hpf:zfJ d.holders.length d.plots k x=pf at HG HS;unfold zfJ at hpf;have HF:=Lib.hid hpf;clear hpf;generalize zbu x.name=b1 at HF k136;generalize ((d.plots.take k).any fun o=>decide (o.name=x.name))=b2 at HF k139;generalize decide (0≤x.holder∧x.holder≤(d.holders.length:Int)-1)=b3 at HF k89;generalize decide (0≤x.far∧x.far≤20)=b4 at HF k67a;generalize decide (0≤x.low∧x.low≤x.high∧x.high≤999999999)=b5 at HF k96;generalize decide (0≤x.worth∧x.worth≤10000)=b6 at HF k67b;have hkc:k≤cap:=by omega
      have f0:=(cA _ n2).1;clear hsc hx hv hcl keyI cA;have fin:∀ w1,Nx W w1→Nx w w1:=fun w1 n1=>Nx.trans hwW n1;rcases zqf b1 b2 b3 b4 b5 b6 with rfl | ⟨rfl,rfl⟩ | ⟨rfl,rfl,rfl⟩ | ⟨rfl,rfl,rfl,rfl⟩ | ⟨rfl,rfl,rfl,rfl,rfl⟩ | ⟨rfl,rfl,rfl,rfl,rfl,rfl⟩ | ⟨rfl,rfl,rfl,rfl,rfl,rfl⟩
      all_goals (
       gi_wp2_with (first
        | (gi_at_call 96;(refine jqa (k136 _ (by assumption)) ?_);rintro e w1 ⟨rfl,n1⟩;obtain⟨e0,e1,e2,e3,e4,e5,e13⟩:=cN _ n1)
        | (gi_at_call 99;(refine jqa (k139 _ (by assumption)) ?_);rintro e w1 ⟨rfl,n1⟩;obtain⟨e0,e1,e2,e3,e4,e5,e13⟩:=cN _ n1)
        | (gi_at_call 51;(refine jqa (k89 _ (by assumption)) ?_);rintro e w1 ⟨rfl,rfl⟩)
        | (gi_at_call 63;(refine jqa (k96 _ (by assumption)) ?_);rintro e w1 ⟨rfl,n1⟩;obtain⟨e0,e1,e2,e3,e4,e5,e13⟩:=cN _ n1)
        | (gi_at_call 40;(first | (with_reducible refine jqa (k67a _) ?_) | (with_reducible refine jqa (k67b _) ?_));rintro e w1 ⟨rfl,rfl⟩)
        | gi_in))
      all_goals (try (
       have hz:=HS.out (by rw [← HF.out];simp [zjv]);go_ret;exact⟨by rw [HP.out,hz,← HF.out];rfl,fin _ (by assumption)⟩))
      exact⟨⟨k+1,hlt,by simp,HG.out (by rw [← HF.out];rfl),fin _ (by assumption)⟩,by simp [intOf];omega⟩
     ·obtain rfl:k=d.plots.length:=by omega
      have HZ:=Lib.hid (zbi hsc);clear hsc hv keyI cA;gi_wp2;go_ret;exact⟨by rw [HP.out,HZ.out];rfl,n2⟩
  ·have k2:=fun w1 n1=>zbF (keyI d.loss.1 d.loss.2 1000 w1 n1) hf2
   have HP:Hid (zaO d=1):=by show _=_;unfold zaO;rw [if_pos (by intro h;exact hf2 h.2)]
   clear keyI hv
   gi_wp2_with (first | (gi_at_call 63;(first | (with_reducible refine jqa (k1 _ (by assumption)) ?_) | (with_reducible refine jqa (k2 _ (by assumption)) ?_));rintro e w1 ⟨rfl,n1⟩;obtain⟨e1,e2,e3⟩:=cA _ n1) | gi_in)
   go_ret;exact⟨by rw [HP.out];rfl,by assumption⟩
 ·have k1:=fun w1 n1=>zbF (keyI d.flow.1 d.flow.2 100000 w1 n1) hf1
  have HP:Hid (zaO d=1):=by show _=_;unfold zaO;rw [if_pos (by intro h;exact hf1 h.1)]
  clear keyI hv
  gi_wp2_with (first | (gi_at_call 63;(with_reducible refine jqa (k1 _ (by assumption)) ?_);rintro e w1 ⟨rfl,n1⟩;obtain⟨e1,e2,e3⟩:=cA _ n1) | gi_in)
  go_ret;exact⟨by rw [HP.out];rfl,by assumption⟩
end Go.Proofs.YtbbanmifdbeneaaDoor
