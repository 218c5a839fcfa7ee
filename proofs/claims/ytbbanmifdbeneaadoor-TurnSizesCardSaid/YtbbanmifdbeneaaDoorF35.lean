import Derived.Test.YtbbanmifdbeneaaDoorF11
set_option linter.all false
set_option maxRecDepth 100000
set_option maxHeartbeats 4000000
open Go.Act renaming put → jqa
open List renaming setIfInBounds_toArray → jqb, set_cons_succ → jqc, set_cons_zero → jqd
open Go.CallsIn renaming mono → jqe
open Go.World renaming cell?_setCell_other → jqf, cell?_setCell_same → jqi, frozen?_setCell → jqj
open Int renaming natCast_add → jqg, natCast_one → jqh
namespace Go.Proofs.YtbbanmifdbeneaaDoor
open Go.RowKit
def Dit.fits (d:Dit) (holder most:Int) (c:Choice) (p:Plot):Bool:=(d.needs p).2 && (decide (p.holder=holder) && decide (c.hours+(d.needs p).1≤most))
def Choice.add (c:Choice) (d:Dit) (k:Int) (p:Plot):Choice:=⟨c.plots++[k],c.hours+(d.needs p).1,c.worth+p.worth⟩
def goS (d:Dit) (holder most:Int):List Plot→Choice→Int→Choice→Choice
 | [],_,_,b=>b
 | p :: ps,c,k,b=>goS d holder most ps c (k+1) (if d.fits holder most c p then goS d holder most ps (c.add d k p) (k+1) (if (c.add d k p).better b then c.add d k p else b) else b)
def tryS (d:Dit) (holder most:Int) (c:Choice) (k:Nat) (b:Choice):Choice:=goS d holder most (d.plots.drop k) c k (if c.better b then c else b)
theorem zjk (d:Dit) (holder most:Int):∀ (ps:List Plot) (c:Choice) (k:Int) (b:Choice),c.plots.length+ps.length≤8→b.plots.length≤8→(goS d holder most ps c k b).plots.length≤8
 | [],_,_,_,_,hb=>hb
 | p :: ps,c,k,b,hc,hb=>by
  simp only [List.length_cons] at hc;unfold goS;refine zjk d holder most ps c (k+1) _ (by omega) ?_;split
  ·refine zjk d holder most ps _ (k+1) _ (by simp [Choice.add];omega) ?_
   split
   ·simp [Choice.add];omega
   ·exact hb
  ·exact hb
theorem zos {d:Dit} (hO:d.Ok) {p:Plot} (hp:0≤p.high∧p.high≤999999999):0≤(d.needs p).1∧(d.needs p).1≤2000000000:=by
 have hg:=zmU hO (p:=p);unfold Dit.needs;split
 ·simp
 ·split
  ·simp
  ·rename_i h0 h1
   have h2:0≤p.high+(d.gets p).1-1:=by omega
   have:=zcg (p.high+(d.gets p).1-1) (d.gets p).1;have:=Int.tdiv_nonneg h2 hg.1;dsimp only;omega
structure TryAt (w0 w:World) (T D Pw H Mo Tr B:Nat) (d:Dit) (r:zaR) (holder most:Int):Prop where
 nx:Nx w0 w
 T0:w0.heap.size≤T
 ne:D≠T∧Pw≠T∧H≠T∧Mo≠T∧Tr≠T∧B≠T
 lt:D<w.heap.size∧Pw<w.heap.size∧H<w.heap.size∧Mo<w.heap.size∧Tr<w.heap.size∧B<w.heap.size∧T<w.heap.size
 dc:∀ i v,(d.cellsA r)[i]?=some v→w.cell? ⟨D,i,none⟩=some v
 bd:∃ wb,DitAt wb B 0 d∧Nx wb w∧wb.heap.size≤T
 p:w.cell? ⟨Pw,0,none⟩=some (.pointer (some ⟨B,0,none⟩))
 h:w.cell? ⟨H,0,none⟩=some (num holder)
 mo:w.cell? ⟨Mo,0,none⟩=some (num most)
 tr:w.cell? ⟨Tr,0,none⟩=some (.func (.func 36) #[] #[.pointer (some ⟨T,0,none⟩),.pointer (some ⟨D,0,none⟩),.pointer (some ⟨Pw,0,none⟩),.pointer (some ⟨H,0,none⟩),.pointer (some ⟨Mo,0,none⟩),.pointer (some ⟨Tr,0,none⟩)])
theorem TryAt.keep {w0 w w' : World} {T D Pw H Mo Tr B:Nat} {d:Dit} {r:zaR} {holder most:Int} (h:TryAt w0 w T D Pw H Mo Tr B d r holder most) (g:w.grownBy w' (some T)):TryAt w0 w' T D Pw H Mo Tr B d r holder most:=by
 obtain⟨n1,n2,n3,n4,n5,n6⟩:=h.ne;obtain⟨l1,l2,l3,l4,l5,l6,l7⟩:=h.lt;have k:∀ {b i:Nat},b<w.heap.size→b≠T→w'.cell? ⟨b,i,none⟩=w.cell? ⟨b,i,none⟩:=fun {b i} hb hn=>zbC (g.block b hb (fun e=>hn (by cases e;rfl)));have s:=g.size;exact⟨h.nx.grown g (fun r e=>by cases e;exact h.T0),h.T0,h.ne,by omega,fun i v e=>(k l1 n1).trans (h.dc i v e),(by obtain⟨wb,h1,h2,h3⟩:=h.bd;exact⟨wb,h1,h2.grown g (fun r e=>by cases e;exact h3),h3⟩),(k l2 n2).trans h.p,(k l3 n3).trans h.h,(k l4 n4).trans h.mo,(k l5 n5).trans h.tr⟩
structure BestAt (w:World) (T:Nat) (b:Choice):Prop where
 v:∃ v,w.cell? ⟨T,0,none⟩=some v∧PlS w v b.plots∧v.ownBlock≠some T
 h:w.cell? ⟨T,1,none⟩=some (num b.hours)
 wo:w.cell? ⟨T,2,none⟩=some (num b.worth)
 fz:∀ i,w.frozen? ⟨T,i,none⟩=false
theorem BestAt.nx {w w' : World} {T:Nat} {b:Choice} (h:BestAt w T b) (n:Nx w w') (hT:T<w.heap.size):BestAt w' T b:=by
 obtain⟨v,h1,h2,h3⟩:=h.v;exact⟨⟨v,(n.cell (p:=⟨T,0,none⟩) (by exact hT)).trans h1,h2.nx n,h3⟩,(n.cell (p:=⟨T,1,none⟩) (by exact hT)).trans h.h,(n.cell (p:=⟨T,2,none⟩) (by exact hT)).trans h.wo,fun i=>(n.frozen (p:=⟨T,i,none⟩) (by exact hT)).trans (h.fz i)⟩
theorem PlS.but {w w' : World} {v:Value} {l:List Int} {T:Nat} (h:PlS w v l) (hT:v.ownBlock≠some T) (g:w.grownBy w' (some T)):PlS w' v l:=by
 rcases h with h | ⟨b,cap,rfl,hb,hn,hc⟩
 ·exact .inl h
 ·refine .inr ⟨b,cap,rfl,Nat.lt_of_lt_of_le hb g.size,hn,fun j x hj=>?_⟩
  rw [zbC (g.block b hb (fun e=>hT (by simpa [Value.ownBlock] using e)))];exact hc j x hj
theorem zaW {w w' : World} (n:Nx w w') (row:Option Nat):w.grownBy w' row:=⟨n.os,n.tape,n.output,n.size,fun i hi _=>n.block i hi⟩
theorem BestAt.set {w:World} {T:Nat} {b c:Choice} {v:Value} (h:BestAt w T b) (hv:PlS w v c.plots) (hn:v.ownBlock≠some T) :
  BestAt (((w.setCell ⟨T,0,none⟩ v).setCell ⟨T,1,none⟩ (num c.hours)).setCell ⟨T,2,none⟩ (num c.worth)) T c∧w.grownBy (((w.setCell ⟨T,0,none⟩ v).setCell ⟨T,1,none⟩ (num c.hours)).setCell ⟨T,2,none⟩ (num c.worth)) (some T):=by
 have g:w.grownBy (((w.setCell ⟨T,0,none⟩ v).setCell ⟨T,1,none⟩ (num c.hours)).setCell ⟨T,2,none⟩ (num c.worth)) (some T):=by
  refine⟨rfl,rfl,rfl,by simp,fun i hi hne=>?_⟩;have:i≠T:=fun e=>hne (by rw [e]);exact (heap_setCell_other _ _ i _ this).trans ((heap_setCell_other _ _ i _ this).trans (heap_setCell_other _ _ i _ this))
 obtain⟨u,h1,_,_⟩:=h.v;have a1:(w.setCell ⟨T,0,none⟩ v).cell? ⟨T,1,none⟩=some (num b.hours):=(jqf _ _ _ _ (by simp)).trans h.h;have a2:((w.setCell ⟨T,0,none⟩ v).setCell ⟨T,1,none⟩ (num c.hours)).cell? ⟨T,2,none⟩=some (num b.worth):=(jqf _ _ _ _ (by simp)).trans ((jqf _ _ _ _ (by simp)).trans h.wo);refine⟨⟨⟨v,?_,hv.but hn g,hn⟩,?_,jqi _ _ _ a2,fun i=>by rw [jqj,jqj,jqj];exact h.fz i⟩,g⟩
 ·exact (jqf _ _ _ _ (by simp)).trans ((jqf _ _ _ _ (by simp)).trans (jqi _ _ _ h1))
 ·exact (jqf _ _ _ _ (by simp)).trans (jqi _ _ _ a1)
def zoP (w:World) (T:Nat) (b' : Choice) (e:Ending) (w' : World):Prop:=e=.returned (.tuple #[])∧w.grownBy w' (some T)∧BestAt w' T b'
theorem zph (w0:World) (T D Pw H Mo Tr B:Nat) (d:Dit) (r:zaR) (holder most:Int) (hd:DitSl w0 d r) (hO:d.Ok) (hmo:most≤4000000000000000000) :
  ∀ (n k:Nat) (c b:Choice) (v:Value) (w:World),d.plots.length-k=n→k≤d.plots.length→TryAt w0 w T D Pw H Mo Tr B d r holder most→BestAt w T b→PlS w v c.plots→v.ownBlock≠some T→c.plots.length≤k→b.plots.length≤8→(0≤c.hours∧c.hours≤4000000000000000000)→(0≤c.worth∧c.worth≤10000 * k) →
   CallsIn FL 0 Tryd.prog 36 #[.agg #[v,num c.hours,num c.worth],num k,.pointer (some ⟨T,0,none⟩),.pointer (some ⟨D,0,none⟩),.pointer (some ⟨Pw,0,none⟩),.pointer (some ⟨H,0,none⟩),.pointer (some ⟨Mo,0,none⟩),.pointer (some ⟨Tr,0,none⟩)] w
    (zoP w T (tryS d holder most c k b)):=by
 intro n
 induction n using Nat.strongRecOn with
 | _ n ih =>
  intro k c b v w hn hk hA hB hv hvT hcl hbl hch hcw;have hp8:=hO.p8;generalize hW:w.alloc (.cells #[v,num c.hours,num c.worth] 84)=W;have nW:Nx w W:=by rw [← hW];exact (Below.refl _ _).alloc (Nat.le_refl _) _
  have hsW:W.heap.size=w.heap.size+1:=by rw [← hW];simp
  have cC:∀ i u,#[v,num c.hours,num c.worth][i]?=some u→W.cell? ⟨w.heap.size,i,none⟩=some u:=fun i u h=>by rw [← hW];exact zaw _ _ _ _ _ h
  have hlt:=hA.lt;have hB1:=hB.nx nW (by omega);have hA1:=hA.keep (zaW nW _);obtain⟨bv,b0,b3,b4⟩:=hB1.v;have b1:=hB1.h;have b2:=hB1.wo;have bf0:=hB1.fz 0;have bf1:=hB1.fz 1;have bf2:=hB1.fz 2;have c0:=cC 0 _ rfl;have c1:=cC 1 _ rfl;have c2:=cC 2 _ rfl;have hvW:=hv.nx nW;have k83:CallsIn FL 0 Tryd.prog 37 #[.agg #[v,num c.hours,num c.worth],.agg #[bv,num b.hours,num b.worth]] W fun e w'=>e=.returned (.bool (c.better b))∧Nx W w':=zlk v bv c b W hvW.sl b3.sl (by omega) (by omega);have hT:Hid (tryS d holder most c k b=goS d holder most (d.plots.drop k) c k (if c.better b then c else b)):=rfl;have hc1:∀ w1,Nx W w1→w1.cell? ⟨w.heap.size,0,none⟩=some v∧w1.cell? ⟨w.heap.size,1,none⟩=some (num c.hours)∧w1.cell? ⟨w.heap.size,2,none⟩=some (num c.worth):=fun w1 n1 =>
   ⟨(n1.cell (p:=⟨w.heap.size,0,none⟩) (by show w.heap.size<_;omega)).trans c0,(n1.cell (p:=⟨w.heap.size,1,none⟩) (by show w.heap.size<_;omega)).trans c1,(n1.cell (p:=⟨w.heap.size,2,none⟩) (by show w.heap.size<_;omega)).trans c2⟩
  have hb1:∀ w1,Nx W w1→BestAt w1 T b:=fun w1 n1=>hB1.nx n1 (by omega);obtain⟨va,vcap,hve⟩:=hv.sl.cases;rw [List.length_map] at hve;have goal3:∀ (W3:World) (b3:Choice),W.grownBy W3 (some T)→BestAt W3 T b3→b3.plots.length≤8→tryS d holder most c k b=goS d holder most (d.plots.drop k) c k b3 →
    (W3.cell? ⟨w.heap.size,0,none⟩=some v∧W3.cell? ⟨w.heap.size,1,none⟩=some (num c.hours)∧W3.cell? ⟨w.heap.size,2,none⟩=some (num c.worth))∧TryAt w0 W3 T D Pw H Mo Tr B d r holder most∧PlS W3 v c.plots∧w.grownBy W3 (some T):=by
   intro W3 b3 g _ _ _;have k:∀ i,W3.cell? ⟨w.heap.size,i,none⟩=W.cell? ⟨w.heap.size,i,none⟩:=fun i=>zbC (g.block w.heap.size (by omega) (fun e=>by simp at e;omega));exact⟨⟨(k 0).trans c0,(k 1).trans c1,(k 2).trans c2⟩,hA1.keep g,hvW.but hvT g,(zaW nW (some T)).trans g⟩
  have hend:Hid (tryS d holder most c k b=goS d holder most (d.plots.drop k) c k (if c.better b then c else b)):=hT;clear hT;by_cases hbt:c.better b=true
  rotate_left
  all_goals first
   | (have hbt2:c.better b=false:=by simpa using hbt
      rw [hbt2] at k83;have hT3:Hid (tryS d holder most c k b=goS d holder most (d.plots.drop k) c k b):=by show _=_;rw [hend.out,if_neg hbt]
      subst hve;gi_enter Tryd.func36,Tryd.ntmps36;gi_upto_region 3 with (first | (gi_at_call 37;refine jqe k83 ?_;rintro e w1 ⟨rfl,n1⟩) | gi_in)
      obtain⟨b3,hB3,hl3,hT3⟩:∃ b3:Choice,BestAt w1 T b3∧b3.plots.length≤8∧Hid (tryS d holder most c k b=goS d holder most (d.plots.drop k) c k b3):=⟨b,hb1 _ n1,hbl,hT3⟩;have hg3:=zaW n1 (some T);clear hbt hbt2 hb1 hB1 hB;generalize w1=W3 at hB3 hg3 ⊢)
   | (have hT3:Hid (tryS d holder most c k b=goS d holder most (d.plots.drop k) c k c):=by show _=_;rw [hend.out,if_pos hbt]
      have fz:∀ w1,Nx W w1→(w1.frozen? ⟨T,0,none⟩=false∧w1.frozen? ⟨T,1,none⟩=false∧w1.frozen? ⟨T,2,none⟩=false):=fun w1 n1=>⟨(hb1 w1 n1).fz 0,(hb1 w1 n1).fz 1,(hb1 w1 n1).fz 2⟩;have hcel:∀ w1,Nx W w1→(w1.cell? ⟨T,0,none⟩=some bv∧w1.cell? ⟨T,1,none⟩=some (num b.hours)∧w1.cell? ⟨T,2,none⟩=some (num b.worth)):=fun w1 n1=>⟨(n1.cell (p:=⟨T,0,none⟩) (by show T<_;omega)).trans b0,(n1.cell (p:=⟨T,1,none⟩) (by show T<_;omega)).trans b1,(n1.cell (p:=⟨T,2,none⟩) (by show T<_;omega)).trans b2⟩;rw [hbt] at k83;have key3:∀ w1,Nx W w1→Hid (BestAt (((w1.setCell ⟨T,0,none⟩ v).setCell ⟨T,1,none⟩ (num c.hours)).setCell ⟨T,2,none⟩ (num c.worth)) T c∧W.grownBy (((w1.setCell ⟨T,0,none⟩ v).setCell ⟨T,1,none⟩ (num c.hours)).setCell ⟨T,2,none⟩ (num c.worth)) (some T)):=by
       intro w1 n1;obtain⟨z1,z2⟩:=(hb1 w1 n1).set (c:=c) (hvW.nx n1) hvT;exact⟨z1,(zaW n1 (some T)).trans z2⟩
      subst hve;clear hb1 hB1 hB;gi_enter Tryd.func36,Tryd.ntmps36;gi_upto_region 3 with (first | (gi_at_call 37;refine jqe k83 ?_;rintro e w1 ⟨rfl,n1⟩;obtain⟨d0,d1,d2⟩:=hc1 _ n1;obtain⟨f0,f1,f2⟩:=fz _ n1;obtain⟨e0,e1,e2⟩:=hcel _ n1;have K3:=key3 _ n1) | gi_in)
      have hg3:=K3.out.2;obtain⟨b3,hB3,hl3,hT3⟩:∃ b3:Choice,BestAt (((w1.setCell ⟨T,0,none⟩ (.slice va c.plots.length vcap)).setCell ⟨T,1,none⟩ (num c.hours)).setCell ⟨T,2,none⟩ (num c.worth)) T b3∧b3.plots.length≤8∧Hid (tryS d holder most c k b=goS d holder most (d.plots.drop k) c k b3):=⟨c,K3.out.1,by omega,hT3⟩;clear hbt K3 fz hcel key3 d0 d1 d2 f0 f1 f2 e0 e1 e2;generalize ((w1.setCell ⟨T,0,none⟩ (.slice va c.plots.length vcap)).setCell ⟨T,1,none⟩ (num c.hours)).setCell ⟨T,2,none⟩ (num c.worth)=W3 at hB3 hg3 ⊢)
  all_goals (
   obtain⟨⟨d0,d1,d2⟩,hA3,hv3,hgw3⟩:=goal3 W3 b3 hg3 hB3 hl3 hT3.out;clear goal3 hend hc1 cC c0 c1 c2 k83 b0 b1 b2 bf0 bf1 bf2 hvW hA1 hA hv hW;gi_wp2
   gi_loopw [10] (fun i wr=>∃ (j:Nat) (b' : Choice),k≤j∧j≤d.plots.length∧i=num j∧W3.grownBy wr (some T)∧BestAt wr T b'∧b'.plots.length≤8∧Hid (tryS d holder most c k b=goS d holder most (d.plots.drop j) c j b')) (fun i _=>d.plots.length-(intOf i).toNat)
   case atStart=>exact⟨k,b3,Nat.le_refl _,hk,rfl,⟨rfl,rfl,rfl,Nat.le_refl _,fun _ _ _=>rfl⟩,hB3,hl3,hT3⟩
   case round =>
    obtain⟨j,b',hkj,hj,rfl,hgr,hBr,hlr,hTr⟩:=hrel;have hAr:=hA3.keep hgr;have hvr:=hv3.but hvT hgr;have hszr:=hgr.size;have hsz3:=hgw3.size;have hltr:=hAr.lt;have cbk:∀ i u,W3.cell? ⟨w.heap.size,i,none⟩=some u→wr.cell? ⟨w.heap.size,i,none⟩=some u:=fun i u h=>(zbC (hgr.block w.heap.size (by have:=hg3.size;omega) (fun e=>by simp at e;omega))).trans h;have d0r:=cbk _ _ d0;have d1r:=cbk _ _ d1;have d2r:=cbk _ _ d2;obtain⟨pa,pcap,hpe⟩:=hd.plots.cases;rw [List.length_map] at hpe;have d13:wr.cell? ⟨D,13,none⟩=some r.p:=hAr.dc 13 _ rfl;rw [hpe] at d13;by_cases hlj:j<d.plots.length
    ·have hp:d.plots[j]?=some d.plots[j]:=List.getElem?_eq_getElem hlj
     have hdj:=List.drop_eq_getElem_cons hlj;generalize d.plots[j]=p at hp hdj;have hpl:=hO.pl j p hp;have hnb:=zos hO (p:=p) (by omega);have hDB:DitAt wr B 0 d:=by obtain⟨wb,h1,h2,h3⟩:=hAr.bd;exact h1.nx h2
     have kn:=zm3 B d j p wr hDB hO hp;have hsl:=hd.plots;rw [hpe] at hsl;obtain⟨pb,off,ha,hbl2,hcl2⟩:=hsl.get (by simp;omega);subst ha;have hpb:=hAr.p;have cells:∀ w2,Nx wr w2→((w2.cell? ⟨D,13,none⟩=some (.slice (some ⟨pb,off,none⟩) d.plots.length pcap)∧w2.cell? ⟨pb,off+j * 6+1,none⟩=some (num p.holder)∧w2.cell? ⟨pb,off+j * 6+5,none⟩=some (num p.worth)∧w2.cell? ⟨H,0,none⟩=some (num holder)) ∧
       (w2.cell? ⟨w.heap.size,1,none⟩=some (num c.hours)∧w2.cell? ⟨Mo,0,none⟩=some (num most))):=by
      intro w2 n2;obtain⟨_,q1,_,_,_,q5⟩:=Sl.at6 hcl2 (Nx.trans hAr.nx n2) hbl2 hp;exact⟨⟨(n2.cell (p:=⟨D,13,none⟩) (by show D<_;omega)).trans d13,q1,q5,(n2.cell (p:=⟨H,0,none⟩) (by show H<_;omega)).trans hAr.h⟩,(n2.cell (p:=⟨w.heap.size,1,none⟩) (by show w.heap.size<_;have:=hg3.size;omega)).trans d1r,(n2.cell (p:=⟨Mo,0,none⟩) (by show Mo<_;omega)).trans hAr.mo⟩
     have hfit:Hid (d.fits holder most c p=((d.needs p).2 && (decide (p.holder=holder) && decide (c.hours+(d.needs p).1≤most)))):=rfl;have hadd:Hid (c.add d j p=⟨c.plots++[(j:Int)],c.hours+(d.needs p).1,c.worth+p.worth⟩):=rfl;generalize (d.needs p).1=h at kn hnb hfit hadd;generalize (d.needs p).2=ok at kn hfit
     cases ok with
     | false =>
      have hft:Hid (d.fits holder most c p=false):=by show _=_;rw [hfit.out];rfl
      have hTn:Hid (tryS d holder most c k b=goS d holder most (d.plots.drop (j+1)) c (j+1:Nat) b'):=by
       show _=_;rw [hTr.out,hdj,goS,if_neg (by rw [hft.out];simp),jqg,jqh]
      gi_wp2_with (first | (gi_at_call 38;refine jqe kn ?_;rintro e w2 ⟨rfl,n2⟩;obtain⟨⟨z1,z2,z3,z4⟩,z5⟩:=cells w2 n2) | gi_in)
      gi_upto_region 7 with fail
      gi_big_quiet_th (fail);gi_wp2;exact⟨⟨j+1,b',by omega,hlj,by simp,hgr.trans (zaW (Nx.drewN n2 _) _),hBr.nx (Nx.drewN n2 _) (by omega),hlr,hTn⟩,by simp [intOf];omega⟩
     | true =>
      by_cases hho:p.holder=holder
      ·by_cases hmost:c.hours+h≤most
       ·have hTn:Hid (tryS d holder most c k b=goS d holder most (d.plots.drop (j+1)) c (j+1:Nat) (tryS d holder most (c.add d j p) (j+1) b')):=by
         show _=_;rw [hTr.out,hdj,goS,if_pos (by rw [hfit.out];simp [hho,hmost]),jqg,jqh];rfl
        have hb1:(p.holder == holder)=true:=by simpa using hho
        have hb2:decide (c.hours+h≤most)=true:=by simpa using hmost
        clear hho
        gi_wp2_with (first | (gi_at_call 38;refine jqe kn ?_;rintro e w2 ⟨rfl,n2⟩;obtain⟨⟨z1,z2,z3,z4⟩,z5⟩:=cells w2 n2) | gi_in)
        gi_upto_region 7 with fail
        gi_big_quiet_th (fail);gi_upto_region 8 with fail
        have n8:Nx wr (w2.drewN nq):=Nx.drewN n2 nq;clear z1 z2 z3 z4 z5;generalize w2.drewN nq=w8 at n8 ⊢;have hA8:=hAr.keep (zaW n8 (some T));have hB8:=hBr.nx n8 (by omega);have hv8:=hvr.nx n8;have hlt8:=hA8.lt;have facts:∀ x,w8.grownBy x (some T)→(x.cell? ⟨Tr,0,none⟩=some (.func (.func 36) #[] #[.pointer (some ⟨T,0,none⟩),.pointer (some ⟨D,0,none⟩),.pointer (some ⟨Pw,0,none⟩),.pointer (some ⟨H,0,none⟩),.pointer (some ⟨Mo,0,none⟩),.pointer (some ⟨Tr,0,none⟩)]) ∧
          x.cell? ⟨w.heap.size,0,none⟩=some (.slice va c.plots.length vcap)∧x.cell? ⟨w.heap.size,1,none⟩=some (num c.hours)∧x.cell? ⟨w.heap.size,2,none⟩=some (num c.worth)∧x.cell? ⟨D,13,none⟩=some (.slice (some ⟨pb,off,none⟩) d.plots.length pcap)∧x.cell? ⟨pb,off+j * 6+5,none⟩=some (num p.worth))∧PlS x (.slice va c.plots.length vcap) c.plots:=by
         intro x gx;have hAx:=hA8.keep gx;have kx:∀ i u,wr.cell? ⟨w.heap.size,i,none⟩=some u→x.cell? ⟨w.heap.size,i,none⟩=some u:=fun i u h=>(zbC (gx.block w.heap.size (by have:=hg3.size;have:=n8.size;omega) (fun e=>by simp at e;omega))).trans ((n8.cell (p:=⟨w.heap.size,i,none⟩) (by show w.heap.size<_;have:=hg3.size;omega)).trans h);have d13x:x.cell? ⟨D,13,none⟩=some r.p:=hAx.dc 13 _ rfl;rw [hpe] at d13x;obtain⟨_,_,_,_,_,q5⟩:=Sl.at6 hcl2 hAx.nx hbl2 hp;exact⟨⟨hAx.tr,kx _ _ d0r,kx _ _ d1r,kx _ _ d2r,d13x,q5⟩,hv8.but hvT gx⟩
        have g88:w8.grownBy w8.drew (some T):=⟨rfl,rfl,rfl,Nat.le_refl _,fun _ _ _=>rfl⟩;have hwo:=hpl.2.2.2.2.2;clear cells kn;refine zbg (fun x=>w8.grownBy x (some T)) (by kernel_rfl) ?_;change wpAnyC _ _ _ _ _ _ _ 24 #[false,false,false,false,false,false,false,false,false,false,false,false,false,false,false,false,false,false,false,false,false,false,false,false] _ _;refine zat (i:=0) (oi:=⟨some 50,.load 85 (.tmp 7),_,_,_,none⟩) (v:=.func (.func 36) #[] #[.pointer (some ⟨T,0,none⟩),.pointer (some ⟨D,0,none⟩),.pointer (some ⟨Pw,0,none⟩),.pointer (some ⟨H,0,none⟩),.pointer (some ⟨Mo,0,none⟩),.pointer (some ⟨Tr,0,none⟩)]) rfl rfl (by kernel_rfl) (by kernel_rfl) (by kernel_rfl) (fun _ _ _ h=>h) (zlh rfl (fun x hx=>(facts x hx).1.1)) ?_;simp only [jqa,jqb,jqc,jqd];refine zae (l':=#[true,false,false,false,false,false,false,false,false,false,false,false,false,false,false,false,false,false,false,false,false,false,false,false]) rfl ?_;refine zat (i:=1) (oi:=⟨some 51,.fieldAddr 84 (.tmp 8) 0,_,_,_,none⟩) (v:=.pointer (some ⟨w.heap.size,0,none⟩)) rfl rfl (by kernel_rfl) (by kernel_rfl) (by kernel_rfl) (fun _ _ _ h=>h) (zkS rfl) ?_;simp only [jqa,jqb,jqc,jqd];refine zae (l':=#[true,true,false,false,false,false,false,false,false,false,false,false,false,false,false,false,false,false,false,false,false,false,false,false]) rfl ?_;refine zat (i:=2) (oi:=⟨some 52,.load 48 (.tmp 51),_,_,_,none⟩) (v:=.slice va c.plots.length vcap) rfl rfl (by kernel_rfl) (by kernel_rfl) (by kernel_rfl) (fun _ _ _ h=>h) (zna rfl (fun x hx=>(facts x hx).1.2.1)) ?_
        simp only [jqa,jqb,jqc,jqd];refine zae (l':=#[true,true,true,false,false,false,false,false,false,false,false,false,false,false,false,false,false,false,false,false,false,false,false,false]) rfl ?_;refine zat (i:=3) (oi:=⟨some 53,.call { callee:=.value (.func 39),args:=#[.tmp 52],argTypes:=#[48] },_,_,_,none⟩) (v:=zof (.slice va c.plots.length vcap)) rfl rfl (by kernel_rfl) (by kernel_rfl) (by kernel_rfl) (fun _ _ _ h=>h) (zpC rfl (fun x hx=>(facts x hx).2) (by omega)) ?_;simp only [jqa,jqb,jqc,jqd];refine zae (l':=#[true,true,true,true,false,false,false,false,false,false,false,false,false,false,false,false,false,false,false,false,false,false,false,false]) rfl ?_;refine zat (i:=4) (oi:=⟨some 54,.move (.tmp 10),_,_,_,none⟩) (v:=num j) rfl rfl (by kernel_rfl) (by kernel_rfl) (by kernel_rfl) (fun _ _ _ h=>h) (zaN rfl) ?_;simp only [jqa,jqb,jqc,jqd];refine zae (l':=#[true,true,true,true,true,false,false,false,false,false,false,false,false,false,false,false,false,false,false,false,false,false,false,false]) rfl ?_;refine zat (i:=7) (oi:=⟨some 57,.fieldAddr 84 (.tmp 8) 1,_,_,_,none⟩) (v:=.pointer (some ⟨w.heap.size,1,none⟩)) rfl rfl (by kernel_rfl) (by kernel_rfl) (by kernel_rfl) (fun _ _ _ h=>h) (zln rfl) ?_;simp only [jqa,jqb,jqc,jqd];refine zae (l':=#[true,true,true,true,true,false,false,true,false,false,false,false,false,false,false,false,false,false,false,false,false,false,false,false]) rfl ?_
        refine zat (i:=8) (oi:=⟨some 58,.load 3 (.tmp 57),_,_,_,none⟩) (v:=num c.hours) rfl rfl (by kernel_rfl) (by kernel_rfl) (by kernel_rfl) (fun _ _ _ h=>h) (zdq rfl (fun x hx=>(facts x hx).1.2.2.1)) ?_;simp only [jqa,jqb,jqc,jqd];refine zae (l':=#[true,true,true,true,true,false,false,true,true,false,false,false,false,false,false,false,false,false,false,false,false,false,false,false]) rfl ?_;refine zat (i:=9) (oi:=⟨some 59,.move (.tmp 11),_,_,_,none⟩) (v:=num h) rfl rfl (by kernel_rfl) (by kernel_rfl) (by kernel_rfl) (fun _ _ _ h=>h) (zaN rfl) ?_;simp only [jqa,jqb,jqc,jqd];refine zae (l':=#[true,true,true,true,true,false,false,true,true,true,false,false,false,false,false,false,false,false,false,false,false,false,false,false]) rfl ?_;refine zat (i:=10) (oi:=⟨some 60,.binOp .add 3 (.tmp 58) (.tmp 59) 3,_,_,_,none⟩) (v:=num (c.hours+h)) rfl rfl (by kernel_rfl) (by kernel_rfl) (by kernel_rfl) (fun _ _ _ h=>h) (zkA rfl rfl (by omega)) ?_;simp only [jqa,jqb,jqc,jqd];refine zae (l':=#[true,true,true,true,true,false,false,true,true,true,true,false,false,false,false,false,false,false,false,false,false,false,false,false]) rfl ?_;refine zat (i:=11) (oi:=⟨some 61,.fieldAddr 84 (.tmp 8) 2,_,_,_,none⟩) (v:=.pointer (some ⟨w.heap.size,2,none⟩)) rfl rfl (by kernel_rfl) (by kernel_rfl) (by kernel_rfl) (fun _ _ _ h=>h) (zk1 rfl) ?_;simp only [jqa,jqb,jqc,jqd];refine zae (l':=#[true,true,true,true,true,false,false,true,true,true,true,true,false,false,false,false,false,false,false,false,false,false,false,false]) rfl ?_
        refine zat (i:=12) (oi:=⟨some 62,.load 3 (.tmp 61),_,_,_,none⟩) (v:=num c.worth) rfl rfl (by kernel_rfl) (by kernel_rfl) (by kernel_rfl) (fun _ _ _ h=>h) (zdq rfl (fun x hx=>(facts x hx).1.2.2.2.1)) ?_;simp only [jqa,jqb,jqc,jqd];refine zae (l':=#[true,true,true,true,true,false,false,true,true,true,true,true,true,false,false,false,false,false,false,false,false,false,false,false]) rfl ?_;refine zat (i:=13) (oi:=⟨some 63,.fieldAddr 31 (.tmp 3) 11,_,_,_,none⟩) (v:=.pointer (some ⟨D,13,none⟩)) rfl rfl (by kernel_rfl) (by kernel_rfl) (by kernel_rfl) (fun _ _ _ h=>h) (zoO rfl) ?_;simp only [jqa,jqb,jqc,jqd];refine zae (l':=#[true,true,true,true,true,false,false,true,true,true,true,true,true,true,false,false,false,false,false,false,false,false,false,false]) rfl ?_;refine zat (i:=14) (oi:=⟨some 64,.load 29 (.tmp 63),_,_,_,none⟩) (v:=.slice (some ⟨pb,off,none⟩) d.plots.length pcap) rfl rfl (by kernel_rfl) (by kernel_rfl) (by kernel_rfl) (fun _ _ _ h=>h) (zma rfl (fun x hx=>(facts x hx).1.2.2.2.2.1)) ?_;simp only [jqa,jqb,jqc,jqd];refine zae (l':=#[true,true,true,true,true,false,false,true,true,true,true,true,true,true,true,false,false,false,false,false,false,false,false,false]) rfl ?_;refine zat (i:=15) (oi:=⟨some 65,.move (.tmp 10),_,_,_,none⟩) (v:=num j) rfl rfl (by kernel_rfl) (by kernel_rfl) (by kernel_rfl) (fun _ _ _ h=>h) (zaN rfl) ?_;simp only [jqa,jqb,jqc,jqd];refine zae (l':=#[true,true,true,true,true,false,false,true,true,true,true,true,true,true,true,true,false,false,false,false,false,false,false,false]) rfl ?_
        refine zat (i:=16) (oi:=⟨some 66,.indexAddr 29 (.tmp 64) (.tmp 65),_,_,_,none⟩) (v:=.pointer (some ⟨pb,off+j * 6,none⟩)) rfl rfl (by kernel_rfl) (by kernel_rfl) (by kernel_rfl) (fun _ _ _ h=>h) (zkV rfl rfl hlj) ?_;simp only [jqa,jqb,jqc,jqd];refine zae (l':=#[true,true,true,true,true,false,false,true,true,true,true,true,true,true,true,true,true,false,false,false,false,false,false,false]) rfl ?_;refine zat (i:=17) (oi:=⟨some 67,.fieldAddr 55 (.tmp 66) 4,_,_,_,none⟩) (v:=.pointer (some ⟨pb,off+j * 6+5,none⟩)) rfl rfl (by kernel_rfl) (by kernel_rfl) (by kernel_rfl) (fun _ _ _ h=>h) (zpm rfl) ?_;simp only [jqa,jqb,jqc,jqd];refine zae (l':=#[true,true,true,true,true,false,false,true,true,true,true,true,true,true,true,true,true,true,false,false,false,false,false,false]) rfl ?_;refine zat (i:=18) (oi:=⟨some 68,.load 3 (.tmp 67),_,_,_,none⟩) (v:=num p.worth) rfl rfl (by kernel_rfl) (by kernel_rfl) (by kernel_rfl) (fun _ _ _ h=>h) (zdq rfl (fun x hx=>(facts x hx).1.2.2.2.2.2)) ?_;simp only [jqa,jqb,jqc,jqd];refine zae (l':=#[true,true,true,true,true,false,false,true,true,true,true,true,true,true,true,true,true,true,true,false,false,false,false,false]) rfl ?_;refine zat (i:=19) (oi:=⟨some 69,.binOp .add 3 (.tmp 62) (.tmp 68) 3,_,_,_,none⟩) (v:=num (c.worth+p.worth)) rfl rfl (by kernel_rfl) (by kernel_rfl) (by kernel_rfl) (fun _ _ _ h=>h) (zkA rfl rfl (by omega)) ?_;simp only [jqa,jqb,jqc,jqd]
        refine zae (l':=#[true,true,true,true,true,false,false,true,true,true,true,true,true,true,true,true,true,true,true,true,false,false,false,false]) rfl ?_;refine zat (i:=21) (oi:=⟨some 71,.move (.tmp 10),_,_,_,none⟩) (v:=num j) rfl rfl (by kernel_rfl) (by kernel_rfl) (by kernel_rfl) (fun _ _ _ h=>h) (zaN rfl) ?_;simp only [jqa,jqb,jqc,jqd];refine zae (l':=#[true,true,true,true,true,false,false,true,true,true,true,true,true,true,true,true,true,true,true,true,false,true,false,false]) rfl ?_;refine zat (i:=22) (oi:=⟨some 72,.binOp .add 3 (.tmp 71) (.const (.int .i64 1)) 3,_,_,_,none⟩) (v:=num ((j:Int)+1)) rfl rfl (by kernel_rfl) (by kernel_rfl) (by kernel_rfl) (fun _ _ _ h=>h) (zpD rfl (by omega)) ?_;simp only [jqa,jqb,jqc,jqd];refine zae (l':=#[true,true,true,true,true,false,false,true,true,true,true,true,true,true,true,true,true,true,true,true,false,true,true,false]) rfl ?_;refine zau (i:=5) (o:=⟨some 55,.buildSlice 48 1 #[(0,.tmp 54)],_,_,_,none⟩) (by kernel_rfl) rfl rfl g88 ?_;intro K hK
        gi_big_op
        refine hK _ _ ?_;refine zae (l':=#[true,true,true,true,true,true,false,true,true,true,true,true,true,true,true,true,true,true,true,true,false,true,true,false]) rfl ?_;have na:Nx w8 (w8.alloc (.cells #[num j] 3)).drew:=Below.drew ((Below.refl _ _).alloc (Nat.le_refl _) _);obtain⟨g,ncap,w9,happ,hp9,n9,hg9⟩:=zg1 (.slice va c.plots.length vcap) c.plots (w8.alloc (.cells #[num j] 3)).drew (hv8.nx na) (by omega) ⟨w8.heap.size,0,none⟩ j (zaw w8 _ _ _ _ rfl);simp [go_sem] at happ;refine zau (i:=6) (o:=⟨some 56,.call { callee:=.builtin .append,args:=#[.tmp 53,.tmp 55],argTypes:=#[48,48] },_,_,_,none⟩) (by kernel_rfl) rfl rfl (zaW na _) ?_;intro K hK
        gi_big_op
        refine hK _ _ ?_;refine zae (l':=#[true,true,true,true,true,true,true,true,true,true,true,true,true,true,true,true,true,true,true,true,false,true,true,false]) rfl ?_;have n89:=Nx.trans na n9;refine zau (i:=20) (o:=⟨some 70,.build 84 #[(0,.tmp 56),(1,.tmp 60),(2,.tmp 69)],_,_,_,none⟩) (by kernel_rfl) rfl rfl (zaW n89 _) ?_;intro K hK
        gi_big_op
        refine hK _ _ ?_;refine zae (l':=#[true,true,true,true,true,true,true,true,true,true,true,true,true,true,true,true,true,true,true,true,true,true,true,false]) rfl ?_;refine zau (i:=23) (o:=⟨some 73,.call { callee:=.value (.tmp 50),args:=#[.tmp 70,.tmp 72],argTypes:=#[84,3] },_,_,_,none⟩) (by kernel_rfl) rfl rfl (zaW n89 _) ?_;intro K2 hK2;go_simp;have hlen9:(c.add d j p).plots.length≤j+1:=by rw [hadd.out];simp;omega
        have hih:=ih (d.plots.length-(j+1)) (by omega) (j+1) (c.add d j p) b' (.slice (some ⟨g,0,none⟩) (c.plots.length+1) ncap) w9 rfl hlj (hA8.keep (zaW n89 _)) (hB8.nx n89 (by omega)) (by rw [hadd.out];exact hp9) (by simp only [Value.ownBlock,ne_eq,Option.some.injEq];have:=na.size;omega) hlen9 hlr (by rw [hadd.out];dsimp only;omega) (by rw [hadd.out];dsimp only;omega);have hrl:(tryS d holder most (c.add d j p) (j+1) b').plots.length≤8:=by
         unfold tryS;refine zjk d holder most _ _ _ _ (by rw [List.length_drop];omega) ?_
         split<;>omega
        rw [hadd.out] at hih hrl hTn;dsimp only at hih;rw [jqg,jqh] at hih;refine jqe hih ?_;rintro e w10 ⟨rfl,g10,hB10⟩;refine hK2 _ _ ?_;refine zbk (by kernel_rfl) ((zaW n89 (some T)).trans g10) ?_;gi_wp2;exact⟨⟨j+1,_,by omega,hlj,by simp,hgr.trans ((zaW (Nx.trans n8 n89) _).trans g10),hB10,hrl,hTn⟩,by simp [intOf];omega⟩
       ·have hft:Hid (d.fits holder most c p=false):=by show _=_;rw [hfit.out];simp [hho,hmost]
        have hb1:(p.holder == holder)=true:=by simpa using hho
        have hb2:decide (c.hours+h≤most)=false:=by simpa using hmost
        clear hho;have hTn:Hid (tryS d holder most c k b=goS d holder most (d.plots.drop (j+1)) c (j+1:Nat) b'):=by
         show _=_;rw [hTr.out,hdj,goS,if_neg (by rw [hft.out];simp),jqg,jqh]
        gi_wp2_with (first | (gi_at_call 38;refine jqe kn ?_;rintro e w2 ⟨rfl,n2⟩;obtain⟨⟨z1,z2,z3,z4⟩,z5⟩:=cells w2 n2) | gi_in)
        gi_upto_region 7 with fail
        gi_big_quiet_th (fail);gi_wp2;exact⟨⟨j+1,b',by omega,hlj,by simp,hgr.trans (zaW (Nx.drewN n2 _) _),hBr.nx (Nx.drewN n2 _) (by omega),hlr,hTn⟩,by simp [intOf];omega⟩
      ·have hft:Hid (d.fits holder most c p=false):=by show _=_;rw [hfit.out];simp [hho]
       have hb1:(p.holder == holder)=false:=by simpa using hho
       have hTn:Hid (tryS d holder most c k b=goS d holder most (d.plots.drop (j+1)) c (j+1:Nat) b'):=by
        show _=_;rw [hTr.out,hdj,goS,if_neg (by rw [hft.out];simp),jqg,jqh]
       gi_wp2_with (first | (gi_at_call 38;refine jqe kn ?_;rintro e w2 ⟨rfl,n2⟩;obtain⟨⟨z1,z2,z3,z4⟩,z5⟩:=cells w2 n2) | gi_in)
       gi_upto_region 7 with fail
       gi_big_quiet_th (fail);gi_wp2;exact⟨⟨j+1,b',by omega,hlj,by simp,hgr.trans (zaW (Nx.drewN n2 _) _),hBr.nx (Nx.drewN n2 _) (by omega),hlr,hTn⟩,by simp [intOf];omega⟩
    ·obtain rfl:j=d.plots.length:=by omega
     have hz:=hTr.out;rw [List.drop_length] at hz;have HZ:Hid (tryS d holder most c k b=b'):=hz;clear hz;gi_wp2
     go_end0
     exact⟨rfl,hgw3.trans hgr,by rw [HZ.out];exact hBr⟩)
end Go.Proofs.YtbbanmifdbeneaaDoor
