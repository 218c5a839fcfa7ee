import Derived.Test.YtbbanmifdbeneaaDoorF33
import Derived.Test.YtbbanmifdbeneaaDoorF12
set_option linter.all false
set_option maxRecDepth 100000
set_option maxHeartbeats 4000000
open Go.Lib renaming hid → jqa
open List renaming take_of_length_le → jqb
namespace Go.Proofs.YtbbanmifdbeneaaDoor
open Go.RowKit
def sumL:List Nat→Nat
 | []=>0
 | x :: l=>x+sumL l
def zbG (d:Dit) (k:Nat):Bool:=decide (d.holders.length > 40) || decide (d.turns.length > 40) || decide (d.feasts.length > 40) || decide (d.swaps.length > 40) || decide (d.loans.length > 40) || decide (d.plots.length > 40) || decide (k > 40) ||
 decide (sumL (d.holders.map (·.length))+sumL (d.plots.map (·.name.length)) > 1000)
theorem zgw:∀ (l:List Nat) (k:Nat) (h:k<l.length),sumL (l.take (k+1))=sumL (l.take k)+l[k]
 | x :: l,0,_=>by simp [sumL]
 | x :: l,k+1,h=>by
  have:=zgw l k (by simpa using h);simp only [List.take_succ_cons,sumL,this,List.getElem_cons_succ];omega
theorem zji:∀ (l:List Nat) (B:Nat),(∀ x∈l,x≤B)→sumL l≤l.length * B
 | [],_,_=>by simp [sumL]
 | x :: l,B,h=>by
  have h1:=zji l B fun y hy=>h y (List.mem_cons_of_mem _ hy);have h2:=h x (List.mem_cons_self ..);simp only [sumL,List.length_cons,Nat.succ_mul];omega
structure Dit.Big (d:Dit):Prop where
 h:d.holders.length≤281474976710656
 t:d.turns.length≤281474976710656
 f:d.feasts.length≤281474976710656
 s:d.swaps.length≤281474976710656
 l:d.loans.length≤281474976710656
 p:d.plots.length≤281474976710656
 hn:∀ s∈d.holders,s.length≤281474976710656
 pn:∀ p∈d.plots,p.name.length≤281474976710656
theorem zlS (d:Dit) (r:zaR) (lo hi:Int) (lv:Value) (xs:List (List Value)) (w:World) (hd:DitSl w d r) (hs:d.Big) (hl:Sl w lv 3 xs) (hx:xs.length≤281474976710656) :
  CallsIn FL 0 Tryd.prog 5 #[d.val r,.agg #[num lo,num hi,lv]] w fun e w'=>e=.returned (.bool (zbG d xs.length))∧Nx w w':=by
 obtain⟨al,capl,rfl⟩:=hl.cases;generalize hW:(w.alloc (.cells (d.cellsA r) 31)).alloc (.cells #[num lo,num hi,.slice al xs.length capl] 37)=W;have nW:Nx w W:=by rw [← hW];exact zaG (zaG (Below.refl _ _) _) _
 have sW:W.heap.size=w.heap.size+2:=by rw [← hW];simp
 have cD:∀ i v,(d.cellsA r)[i]?=some v→W.cell? ⟨w.heap.size,i,none⟩=some v:=fun i v h=>by rw [← hW,zaH (by simp)];exact zaA rfl h
 have cL:W.cell? ⟨w.heap.size+1,2,none⟩=some (.slice al xs.length capl):=by rw [← hW];exact zaA (by simp) rfl
 obtain⟨ah,caph,eh⟩:=hd.holders.cases;obtain⟨at',capt,et⟩:=hd.turns.cases;obtain⟨af,capf,ef⟩:=hd.feasts.cases;obtain⟨as',caps,es⟩:=hd.swaps.cases;obtain⟨ao,capo,eo⟩:=hd.loans.cases;obtain⟨ap,capp,ep⟩:=hd.plots.cases;rw [List.length_map] at eh et ef es eo ep;have h0:W.cell? ⟨w.heap.size,0,none⟩=some r.h:=cD 0 _ rfl;have h1:W.cell? ⟨w.heap.size,1,none⟩=some r.t:=cD 1 _ rfl;have h6:W.cell? ⟨w.heap.size,6,none⟩=some r.f:=cD 6 _ rfl;have h7:W.cell? ⟨w.heap.size,7,none⟩=some r.s:=cD 7 _ rfl;have h8:W.cell? ⟨w.heap.size,8,none⟩=some r.l:=cD 8 _ rfl;have h13:W.cell? ⟨w.heap.size,13,none⟩=some r.p:=cD 13 _ rfl;rw [eh] at h0;rw [et] at h1;rw [ef] at h6;rw [es] at h7;rw [eo] at h8;rw [ep] at h13;have hh:=hd.holders.nx nW;have hp:=hd.plots.nx nW;rw [eh] at hh;rw [ep] at hp;have HS:=jqa hs;have hs1:=hs.h;have hs2:=hs.t;have hs3:=hs.f;have hs4:=hs.s;have hs5:=hs.l;have hs6:=hs.p;clear hs cD hd hl et ef es eo eh ep;have fin7:∀ w1,Nx W w1→w1.cell? ⟨w.heap.size,0,none⟩=some (.slice ah d.holders.length caph)∧w1.cell? ⟨w.heap.size,13,none⟩=some (.slice ap d.plots.length capp):=fun w1 n=>⟨(n.cell (by show _<_;simp only;omega)).trans h0,(n.cell (by show _<_;simp only;omega)).trans h13⟩;gi_enter Tryd.func5,Tryd.ntmps5;by_cases q1:40<(d.holders.length:Int)
 ·have H:Hid (zbG d xs.length=true):=by show _=_;have:d.holders.length > 40:=(by omega);simp [zbG,this]
  gi_wp2;go_ret;exact⟨by rw [H.out];rfl,nW⟩
 by_cases q2:40<(d.turns.length:Int)
 ·have H:Hid (zbG d xs.length=true):=by show _=_;have:d.turns.length > 40:=(by omega);simp [zbG,this]
  gi_wp2;go_ret;exact⟨by rw [H.out];rfl,nW⟩
 by_cases q3:40<(d.feasts.length:Int)
 ·have H:Hid (zbG d xs.length=true):=by show _=_;have:d.feasts.length > 40:=(by omega);simp [zbG,this]
  gi_wp2;go_ret;exact⟨by rw [H.out];rfl,nW⟩
 by_cases q4:40<(d.swaps.length:Int)
 ·have H:Hid (zbG d xs.length=true):=by show _=_;have:d.swaps.length > 40:=(by omega);simp [zbG,this]
  gi_wp2;go_ret;exact⟨by rw [H.out];rfl,nW⟩
 by_cases q5:40<(d.loans.length:Int)
 ·have H:Hid (zbG d xs.length=true):=by show _=_;have:d.loans.length > 40:=(by omega);simp [zbG,this]
  gi_wp2;go_ret;exact⟨by rw [H.out];rfl,nW⟩
 by_cases q6:40<(d.plots.length:Int)
 ·have H:Hid (zbG d xs.length=true):=by show _=_;have:d.plots.length > 40:=(by omega);simp [zbG,this]
  gi_wp2;go_ret;exact⟨by rw [H.out];rfl,nW⟩
 by_cases q7:40<(xs.length:Int)
 ·have H:Hid (zbG d xs.length=true):=by show _=_;have:xs.length > 40:=(by omega);simp [zbG,this]
  gi_wp2;go_ret;exact⟨by rw [H.out];rfl,nW⟩
 have H:Hid (zbG d xs.length=decide (sumL (d.holders.map (·.length))+sumL (d.plots.map (·.name.length)) > 1000)):=by
  show _=_;have e1:¬ d.holders.length > 40:=by omega
  have e2:¬ d.turns.length > 40:=by omega
  have e3:¬ d.feasts.length > 40:=by omega
  have e4:¬ d.swaps.length > 40:=by omega
  have e5:¬ d.loans.length > 40:=by omega
  have e6:¬ d.plots.length > 40:=by omega
  have e7:¬ xs.length > 40:=by omega
  simp [zbG,e1,e2,e3,e4,e5,e6,e7]
 have LH:=jqa (show ∀ x∈d.holders.map (·.length),x≤281474976710656 by
  intro x hx;obtain⟨s,h,rfl⟩:=List.mem_map.1 hx;exact HS.out.hn s h)
 have LP:=jqa (show ∀ x∈d.plots.map (·.name.length),x≤281474976710656 by
  intro x hx;obtain⟨s,h,rfl⟩:=List.mem_map.1 hx;exact HS.out.pn s h)
 have bH:∀ k,sumL ((d.holders.map (·.length)).take k)≤40 * 281474976710656:=fun k=>by
  refine Nat.le_trans (zji _ 281474976710656 fun x hx=>LH.out x (List.mem_of_mem_take hx)) (Nat.mul_le_mul_right _ ?_);simp only [List.length_take,List.length_map];omega
 have bP:∀ k,sumL ((d.plots.map (·.name.length)).take k)≤40 * 281474976710656:=fun k=>by
  refine Nat.le_trans (zji _ 281474976710656 fun x hx=>LP.out x (List.mem_of_mem_take hx)) (Nat.mul_le_mul_right _ ?_);simp only [List.length_take,List.length_map];omega
 have BH:=jqa bH;have BP:=jqa bP;have HH:=jqa hh;have HP:=jqa hp;clear bH bP hh hp;gi_wp2
 gi_loopw [5,6] (fun n i wr=>∃ k:Nat,k≤d.holders.length∧i=num k∧n=num (sumL ((d.holders.map (·.length)).take k))∧Nx W wr) (fun _ i _=>d.holders.length-(intOf i).toNat)
 case atStart=>exact⟨0,Nat.zero_le _,rfl,rfl,Below.refl _ _⟩
 case round =>
  obtain⟨k,hk,rfl,rfl,nr⟩:=hrel;obtain⟨c0,c13⟩:=fin7 _ nr;by_cases hlt:k<d.holders.length
  ·obtain⟨b,off,ha,hbl,hcl⟩:=(HH.out.nx nr).get (by simp;omega)
   subst ha;have g1:wr.cell? ⟨b,off+k,none⟩=some (str d.holders[k]):=by
    have:=hcl k 0 [str d.holders[k]] _ (by simp [hlt]) rfl
    rwa [Nat.mul_one] at this
   have hsum:=zgw (d.holders.map (·.length)) k (by simpa using hlt);rw [List.getElem_map] at hsum;have HSM:=jqa hsum;have hb1:=BH.out k;have hb2:=LH.out (d.holders[k].length) (List.mem_map.2 ⟨_,List.getElem_mem hlt,rfl⟩);generalize d.holders[k]=x at g1 HSM hb2;generalize sumL ((d.holders.map (·.length)).take k)=z at HSM hb1 ⊢;clear hcl hsum;gi_wp2;exact⟨⟨k+1,hlt,by simp,by rw [HSM.out];simp,nr⟩,by simp [intOf];omega⟩
  ·obtain rfl:k=d.holders.length:=by omega
   rw [show sumL ((d.holders.map (·.length)).take d.holders.length)=sumL (d.holders.map (·.length)) by rw [jqb (by simp)]];have hb1:=BH.out d.holders.length;rw [show sumL ((d.holders.map (·.length)).take d.holders.length)=sumL (d.holders.map (·.length)) by rw [jqb (by simp)]] at hb1;generalize hz:sumL (d.holders.map (·.length))=z at hb1 ⊢;have HZ:=jqa hz;clear hz;gi_wp2
   gi_loopw [5,7] (fun n i wx=>∃ k:Nat,k≤d.plots.length∧i=num k∧n=num (z+sumL ((d.plots.map (·.name.length)).take k))∧Nx W wx) (fun _ i _=>d.plots.length-(intOf i).toNat)
   case atStart=>exact⟨0,Nat.zero_le _,rfl,rfl,nr⟩
   case round =>
    obtain⟨k,hk,rfl,rfl,n2⟩:=hrel;obtain⟨c0,c13⟩:=fin7 _ n2;by_cases hlt:k<d.plots.length
    ·obtain⟨b,off,ha,hbl,hcl⟩:=(HP.out.nx n2).get (by simp;omega)
     subst ha;have g1:=hcl k 0 (Plot.cells d.plots[k]) (str d.plots[k].name) (by simp [hlt]) rfl;rw [Nat.add_zero] at g1;have hsum:=zgw (d.plots.map (·.name.length)) k (by simpa using hlt);rw [List.getElem_map] at hsum;have HSM:=jqa hsum;have hb3:=BP.out k;have hb2:=LP.out (d.plots[k].name.length) (List.mem_map.2 ⟨_,List.getElem_mem hlt,rfl⟩);generalize d.plots[k]=x at g1 HSM hb2;generalize sumL ((d.plots.map (·.name.length)).take k)=y at HSM hb3 ⊢;clear hcl hsum;gi_wp2;exact⟨⟨k+1,hlt,by simp,by rw [HSM.out];simp;omega,n2⟩,by simp [intOf];omega⟩
    ·obtain rfl:k=d.plots.length:=by omega
     rw [show sumL ((d.plots.map (·.name.length)).take d.plots.length)=sumL (d.plots.map (·.name.length)) by rw [jqb (by simp)]];have hb3:=BP.out d.plots.length;rw [show sumL ((d.plots.map (·.name.length)).take d.plots.length)=sumL (d.plots.map (·.name.length)) by rw [jqb (by simp)]] at hb3;have H2:Hid (zbG d xs.length=decide (z+sumL (d.plots.map (·.name.length)) > 1000)):=by show _=_;rw [← HZ.out];exact H.out
     generalize sumL (d.plots.map (·.name.length))=y at hb3 H2 ⊢;clear H;gi_wp2;go_ret;exact⟨by rw [H2.out];simp;omega,Nx.trans nW n2⟩
end Go.Proofs.YtbbanmifdbeneaaDoor
