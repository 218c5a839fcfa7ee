import Derived.Test.YtbbanmifdbeneaaDoorF07
import Derived.Test.YtbbanmifdbeneaaDoorF11
import Derived.Test.YtbbanmifdbeneaaDoorF12
import Derived.Test.YtbbanmifdbeneaaDoorF25
import Derived.Test.YtbbanmifdbeneaaDoorProg
import Derived.Conc.SmallLaws
import Derived.WalkKit
set_option linter.all false
set_option maxRecDepth 100000
set_option maxHeartbeats 4000000
open List renaming mem_map → jqa, getElem?_eq_getElem → jqd
open Option renaming map_some → jqb
open Nat renaming lt_of_lt_of_le → jqc
open Array renaming getElem?_eq_some_iff → jqe
namespace Go.Proofs.YtbbanmifdbeneaaDoor
open Go.RowKit Go.Con
theorem zaZ {w w' : World} (e:w'.heap=w.heap) (a:Addr):w'.cell? a=w.cell? a:=by unfold World.cell?;rw [e]
theorem Sl.hp {w w' : World} {v:Value} {sz:Nat} {xs:List (List Value)} (h:Sl w v sz xs) (e:w'.heap=w.heap):Sl w' v sz xs:=by
 obtain⟨cap,h | ⟨b,off,h1,h2,h3⟩⟩:=h
 ·exact⟨cap,.inl h⟩
 ·exact⟨cap,.inr ⟨b,off,h1,by rw [e];exact h2,fun j k l x hj hk=>by rw [zaZ e];exact h3 j k l x hj hk⟩⟩
theorem Kind.hp {w w' : World} {v:Value} (h:Kind w v) (e:w'.heap=w.heap):Kind w' v:=fun a n c hv=>by
 obtain⟨cs,t,fz,h1⟩:=h a n c hv;exact⟨cs,t,fz,by rw [e];exact h1⟩
theorem DitAt.hp {w w' : World} {B o:Nat} {d:Dit} (h:DitAt w B o d) (e:w'.heap=w.heap):DitAt w' B o d:=by
 have k:∀ a,w'.cell? a=w.cell? a:=zaZ e;exact⟨by rw [e];exact h.lt,h.holders.imp fun _ x=>⟨(k _).trans x.1,x.2.hp e⟩,h.turns.imp fun _ x=>⟨(k _).trans x.1,x.2.hp e⟩,(k _).trans h.begin_,(k _).trans h.week,(k _).trans h.from_,(k _).trans h.long,h.feasts.imp fun _ x=>⟨(k _).trans x.1,x.2.hp e⟩,h.swaps.imp fun _ x=>⟨(k _).trans x.1,x.2.hp e⟩,h.loans.imp fun _ x=>⟨(k _).trans x.1,x.2.hp e⟩,
  (k _).trans h.flow1,(k _).trans h.flow2,(k _).trans h.loss1,(k _).trans h.loss2,h.plots.imp fun _ x=>⟨(k _).trans x.1,x.2.hp e⟩,fun a m cap hv=>h.cap0 a m cap ((k _).symm.trans hv),fun a m cap hv=>h.cap13 a m cap ((k _).symm.trans hv),fun i v hi hv=>(h.kinds i v hi ((k _).symm.trans hv)).hp e⟩
theorem WatAt.hp {w w' : World} {B:Nat} {d:Dit} {ends:Nat→Int} {long:Int} (h:WatAt w B d ends long) (e:w'.heap=w.heap):WatAt w' B d ends long:=by
 have k:∀ a,w'.cell? a=w.cell? a:=zaZ e;exact⟨h.dit.hp e,fun i hi=>(k _).trans (h.ends i hi),(k _).trans h.long⟩
theorem MapAt.hp {w w' : World} {M:Nat} {keys:List Int} {oth:Int→List Int} (h:MapAt w M keys oth) (e:w'.heap=w.heap):MapAt w' M keys oth:=by
 obtain⟨D,k,hk,⟨es,clock,hb,F,hs,hD⟩,hc⟩:=h.own;refine⟨by rw [e];exact h.lt,D,k,hk,⟨es,clock,by rw [e];exact hb,F,hs,hD⟩,fun c hr=>⟨(hc c hr).1,fun hm=>?_⟩⟩;obtain⟨b,cap,h1,h2,h3⟩:=(hc c hr).2 hm;exact⟨b,cap,h1,by rw [e];exact h2,fun j x hj=>(zaZ e _).trans (h3 j x hj)⟩
theorem Wtr.hp {w w' : World} {B M:Nat} {d:Dit} {ends:Nat→Int} {long:Int} {keys:List Int} {oth:Int→List Int} (h:Wtr w B M d ends long keys oth) (e:w'.heap=w.heap):Wtr w' B M d ends long keys oth :=
 ⟨h.wat.hp e,h.usual.imp fun _ x=>⟨(zaZ e _).trans x.1,x.2.hp e⟩,(zaZ e _).trans h.others,h.map.hp e⟩
theorem Glob1.hp {w w' : World} (h:Glob1 w) (e:w'.heap=w.heap):Glob1 w':=⟨by rw [e];exact h.size,(zaZ e _).trans h.n0,(zaZ e _).trans h.n1⟩
theorem Glob.hp {w w' : World} (h:Glob w) (e:w'.heap=w.heap):Glob w' :=
 ⟨by rw [e];exact h.size,(zaZ e _).trans h.c0,(zaZ e _).trans h.c1,(zaZ e _).trans h.c2,(zaZ e _).trans h.c3,(zaZ e _).trans h.n0,(zaZ e _).trans h.n1⟩
theorem DitSl.hp {w w' : World} {d:Dit} {r:zaR} (h:DitSl w d r) (e:w'.heap=w.heap):DitSl w' d r :=
 ⟨h.holders.hp e,h.turns.hp e,h.feasts.hp e,h.swaps.hp e,h.loans.hp e,h.plots.hp e,h.cap0,h.cap13,fun v hv=>(h.kinds v hv).hp e⟩
def outL (d:Dit) (l:Lg) (n:Int):Nat→List Int
 | 0=>[]
 | k+1=>outL d l n k++(match l.ops[k]? with | some o=>if d.out o.1 o.2.1 o.2.2 n then [(k:Int)] else [] | none=>[])
theorem zfU (d:Dit) (l:Lg) (n:Int):∀ k,(outL d l n k).length≤k
 | 0=>Nat.le_refl _
 | k+1=>by
  have:=zfU d l n k;unfold outL;rw [List.length_append];split
  ·split<;>simp<;>omega
  ·simp;omega
structure WkAt (w:World) (N L Pw C B M c:Nat) (n:Int) (d:Dit) (l:Lg) (lv:Value):Prop where
 wtr:Wtr w B M d d.ends d.cyc d.keys d.oth
 g:Glob1 w
 hn:w.cell? ⟨N,0,none⟩=some (num n)
 l2:w.cell? ⟨L,2,none⟩=some lv
 hl:Sl w lv 3 (l.ops.map three)
 hp:w.cell? ⟨Pw,0,none⟩=some (.pointer (some ⟨B,0,none⟩))
 hc:w.cell? ⟨C,0,none⟩=some (.chan (some (2 * c)))
 lt:N<w.heap.size∧L<w.heap.size∧Pw<w.heap.size∧C<w.heap.size
section
variable {w w' : World} {N L Pw C B M c:Nat} {n:Int} {d:Dit} {l:Lg} {lv:Value}
theorem WkAt.nx (h:WkAt w N L Pw C B M c n d l lv) (k:Nx w w'):WkAt w' N L Pw C B M c n d l lv:=by
 obtain⟨l1,l2,l3,l4⟩:=h.lt;have s:=k.size;exact⟨h.wtr.nx k,h.g.nx k,(k.cell (p:=⟨N,0,none⟩) l1).trans h.hn,(k.cell (p:=⟨L,2,none⟩) l2).trans h.l2,h.hl.nx k,(k.cell (p:=⟨Pw,0,none⟩) l3).trans h.hp,(k.cell (p:=⟨C,0,none⟩) l4).trans h.hc,by omega⟩
theorem WkAt.hp' (h:WkAt w N L Pw C B M c n d l lv) (e:w'.heap=w.heap):WkAt w' N L Pw C B M c n d l lv :=
 ⟨h.wtr.hp e,h.g.hp e,(zaZ e _).trans h.hn,(zaZ e _).trans h.l2,h.hl.hp e,(zaZ e _).trans h.hp,(zaZ e _).trans h.hc,by rw [e];exact h.lt⟩
end
noncomputable def zeI:Code:=match Tryd.f64.body with | some c=>c | none=>.skip
def seqL:Code→Code | .seq x _=>x | c=>c
def seqR:Code→Code | .seq _ y=>y | c=>c
noncomputable def x97a:Code:=seqL zeI
noncomputable def x97b:Code:=seqL (seqR zeI)
noncomputable def x97c:Code:=seqR (seqR zeI)
theorem zmJ:zeI=.seq x97a (.seq x97b x97c):=by kernel_rfl
abbrev FW:Fence:=Fence.list (64 :: LF) none
theorem toFW {n m f:Nat} {args:Array Value} {w:World} {R:Ending→World→Prop} (h:CallsIn FL n Tryd.prog f args w R):CallsIn FW m Tryd.prog f args w R :=
 zeU (F:=FL) (F':=FW) (fun _ hf=>List.mem_cons_of_mem _ hf) rfl rfl rfl h
theorem zpi (w:World) (N L Pw C:Nat) (n:Int) (hn:w.cell? ⟨N,0,none⟩=some (num n)) :
  x97a.wpIn FW 0 Tryd.prog (fun e a w'=>e=.normal∧a.defers=[]∧(a.tmps=#[.pointer (some ⟨N,0,none⟩),.pointer (some ⟨L,0,none⟩),.pointer (some ⟨Pw,0,none⟩),.pointer (some ⟨C,0,none⟩),.pointer (some ⟨w.heap.size,0,none⟩),undef,undef,num n,.agg #[num n,.slice none 0 0],
    undef,undef,undef,undef,undef,undef,undef,undef,undef,undef,undef,undef,undef,undef,undef,undef,undef,undef,undef,undef,undef]∧w'=w.alloc (.cells #[num n,.slice none 0 0] 111)))
   ⟨#[.pointer (some ⟨N,0,none⟩),.pointer (some ⟨L,0,none⟩),.pointer (some ⟨Pw,0,none⟩),.pointer (some ⟨C,0,none⟩),undef,undef,undef,undef,undef,undef,undef,undef,undef,undef,undef,undef,undef,undef,undef,undef,undef,undef,undef,undef,undef,undef,undef,undef,undef,undef],[]⟩ w:=by
 simp only [x97a,zeI,seqL,Tryd.f64];gi_wp2
structure zkX (d:Dit) (l:Lg):Prop where
 few:l.ops.length≤20
 op:∀ (i:Nat) (o:Int×Int×Int),l.ops[i]?=some o→(0≤o.1∧o.1≤(d.holders.length:Int)-1)∧(0≤o.2.1∧o.2.1≤999999999)∧(0≤o.2.2∧o.2.2≤999999999)∧o.2.1<o.2.2∧o.2.2-o.2.1≤50
theorem zoZ (w0 w:World) (N L Pw C B M c Hd:Nat) (n:Int) (d:Dit) (l:Lg) (lv:Value) (hO:d.Ok) (hL:zkX d l) (hn : -100≤n∧n≤100) (hk:WkAt w0 N L Pw C B M c n d l lv) (hHd:w0.heap.size=Hd) (h0:Nx w0 w) (hlt:Hd<w.heap.size)
  (q0:w.cell? ⟨Hd,0,none⟩=some (num n)) (q1:w.cell? ⟨Hd,1,none⟩=some (.slice none 0 0)) (q2:w.frozen? ⟨Hd,1,none⟩=false) :
  x97b.wpIn FW 0 Tryd.prog (fun e a w'=>e=.normal∧a.defers=[]∧(a.tmps.size=30∧a.tmps[3]?=some (.pointer (some ⟨C,0,none⟩))∧a.tmps[4]?=some (.pointer (some ⟨Hd,0,none⟩))∧Nx w0 w'∧∃ v,w'.cell? ⟨Hd,0,none⟩=some (num n)∧w'.cell? ⟨Hd,1,none⟩=some v∧FlatR w' (Hd+1) v (outL d l n l.ops.length)))
   ⟨#[.pointer (some ⟨N,0,none⟩),.pointer (some ⟨L,0,none⟩),.pointer (some ⟨Pw,0,none⟩),.pointer (some ⟨C,0,none⟩),.pointer (some ⟨Hd,0,none⟩),undef,undef,num n,.agg #[num n,.slice none 0 0],
    undef,undef,undef,undef,undef,undef,undef,undef,undef,undef,undef,undef,undef,undef,undef,undef,undef,undef,undef,undef,undef],[]⟩ w:=by
 obtain⟨a,cap,rfl⟩:=hk.hl.cases;rw [List.length_map] at hk;have hk1:=hk.nx h0;have z2:=hk1.l2;simp only [x97b,zeI,seqL,seqR,Tryd.f64];gi_wp2
 gi_loopw [12] (fun i wr=>∃ (k:Nat) (v:Value),k≤l.ops.length∧i=num k∧Nx w0 wr∧Hd<wr.heap.size∧wr.cell? ⟨Hd,0,none⟩=some (num n)∧wr.cell? ⟨Hd,1,none⟩=some v∧wr.frozen? ⟨Hd,1,none⟩=false∧FlatR wr (Hd+1) v (outL d l n k)) (fun i _=>l.ops.length-(intOf i).toNat)
 case atStart=>exact⟨0,_,Nat.zero_le _,rfl,h0,hlt,q0,q1,q2,FlatR.nil _ _⟩
 case round =>
  obtain⟨k,v,hkl,rfl,nr,hlr,r0,r1,r2,hF⟩:=hrel;clear hk1 z2 q0 q1 q2;by_cases hlt2:k<l.ops.length
  ·have hkr:=hk.nx nr
   obtain⟨b,off,ha,hbl,hcl⟩:=hk.hl.get (by simp;omega);subst ha;have hx:l.ops[k]?=some l.ops[k]:=jqd hlt2;generalize hxk:l.ops[k]=x at hx;clear hxk;obtain⟨x1,x2,x3⟩:=x;obtain⟨g1,g2,g3⟩:=Sl.at3 hcl nr hbl hx;obtain⟨p1,p2,p3,p4,p5⟩:=hL.op k _ hx;dsimp only at p1 p2 p3 p4 p5;have hsucc:Hid (outL d l n (k+1)=outL d l n k++(if d.out x1 x2 x3 n then [(k:Int)] else [])):=by show _=_;rw [outL,hx]
   have hlen:=zfU d l n k;have hfew:=hL.few;have nx3:∀ o,Nx wr (wr.alloc o):=fun o=>zaG (Below.refl _ _) o;have e1:=fun o=>((hkr.nx (nx3 o)).hp);have e2:=fun o=>((hkr.nx (nx3 o)).hn);have k98:=fun o=>toFW (m:=0) (zpd B M d x1 x2 x3 n (wr.alloc o) (hkr.nx (nx3 o)).wtr hO (hkr.nx (nx3 o)).g p2 p3 hn (by omega));have keep:∀ o w4,Nx (wr.alloc o) w4→Nx w0 w4∧Hd<w4.heap.size∧w4.cell? ⟨Hd,0,none⟩=some (num n)∧w4.cell? ⟨Hd,1,none⟩=some v∧w4.frozen? ⟨Hd,1,none⟩=false∧FlatR w4 (Hd+1) v (outL d l n k):=by
    intro o w4 n4;have n5:Nx wr w4:=Nx.trans (nx3 o) n4;exact⟨Nx.trans nr n5,jqc hlr n5.size,(n5.cell (p:=⟨Hd,0,none⟩) hlr).trans r0,(n5.cell (p:=⟨Hd,1,none⟩) hlr).trans r1,(n5.frozen (p:=⟨Hd,1,none⟩) hlr).trans r2,
     hF.kept (row:=none) ⟨n5.os,n5.tape,n5.output,n5.size,fun i hi _=>n5.block i hi⟩ (by cases v.ownBlock<;>simp)⟩
   clear hcl hk hkr;by_cases ho:d.out x1 x2 x3 n=true
   ·rw [if_pos ho] at hsucc
    rw [ho] at k98;gi_upto_region 5 with (first
     | (gi_at_call 65;refine CallsIn.mono (k98 _) ?_;rintro e w4 ⟨rfl,n4⟩;obtain⟨m1,m2,m3,m4,m5,m6⟩:=keep _ _ n4)
     | gi_in)
    have hob:v.ownBlock≠some Hd:=by
     intro e;obtain⟨_,⟨rfl,_⟩ | ⟨g,cap',cur,rfl,hg1,_⟩⟩:=m6.1
     ·cases e
     ·simp only [Value.ownBlock,Option.some.injEq] at e;omega
    have na:Nx w4 (w4.alloc (.cells #[num k] 3)):=zaG (Below.refl _ _) _;have m6' : FlatR (w4.alloc (.cells #[num k] 3)) (Hd+1) v (outL d l n k):=m6.kept (row:=none) (World.grownBy_alloc w4 _ none) (by cases v.ownBlock<;>simp);obtain⟨v',w6,happ,hF6,hg6,hat6⟩:=zgf (Hd+1) v (outL d l n k) k (w4.alloc (.cells #[num k] 3)) m6' ⟨w4.heap.size,0,none⟩ 1 (zaA rfl rfl) (by omega) (by simp;omega);obtain⟨g',cap',hv'⟩:∃ g' cap',v'=.slice (some ⟨g',0,none⟩) (outL d l n k++[(k:Int)]).length cap'∧Hd+1≤g':=by
     obtain⟨_,⟨_,h0⟩ | ⟨g,cap',cur,rfl,hg1,_⟩⟩:=hF6.1
     ·simp at h0
     ·exact⟨g,cap',rfl,hg1⟩
    obtain⟨hv',hg'⟩:=hv';have hl4:Hd<(w4.alloc (.cells #[num k] 3)).heap.size:=by simp;omega
    have hb6:w6.heap[Hd]?=w4.heap[Hd]?:=(hg6.block Hd hl4 (fun e=>hob e.symm)).trans (heap_alloc_old _ _ m2);have t1:w6.cell? ⟨Hd,0,none⟩=some (num n):=(zbC hb6).trans m3;have t2:w6.cell? ⟨Hd,1,none⟩=some v:=(zbC hb6).trans m4;have t3:w6.frozen? ⟨Hd,1,none⟩=false:=(za3 hb6).trans m5;have n06:Nx w0 w6:=(Nx.trans m1 na).grown hg6 (fun r e=>by
     obtain⟨_,⟨rfl,_⟩ | ⟨g,cap',cur,rfl,hg1,_⟩⟩:=m6.1
     ·cases e
     ·simp only [Value.ownBlock,Option.some.injEq] at e;omega)
    have hs6:=hg6.size;have hsa:(w4.alloc (.cells #[num k] 3)).heap.size=w4.heap.size+1:=by simp
    subst hv';have hlen1:(outL d l n k++[(k:Int)]).length=(outL d l n k).length+1:=by simp
    have HF6:=Lib.hid hF6;rw [hlen1] at happ;simp [go_sem] at happ;clear keep k98 m6 m6' hF hF6 hat6 hg6 hb6 hob;gi_wp2;refine⟨⟨k+1,_,hlt2,by simp,Below.setCell n06 (p:=⟨Hd,1,none⟩) (by show _≤_;simp only;omega) _,by simp;omega,(World.cell?_setCell_other _ _ _ _ (by simp)).trans t1,World.cell?_setCell_same _ _ _ t2,by rw [World.frozen?_setCell];exact t3,?_⟩,by simp [intOf];omega⟩;rw [hsucc.out,← hlen1];refine HF6.out.kept (row:=some Hd) ⟨rfl,rfl,rfl,by simp,fun i hi hne=>?_⟩ (.inr (by simp only [Value.ownBlock,ne_eq,Option.some.injEq];omega));exact heap_setCell_other _ _ i _ (by intro e;exact hne (by rw [e]))
   ·rw [if_neg ho] at hsucc
    have ho2:d.out x1 x2 x3 n=false:=by simpa using ho
    rw [ho2] at k98
    gi_wp2_with (first
     | (gi_at_call 65;refine CallsIn.mono (k98 _) ?_;rintro e w4 ⟨rfl,n4⟩;obtain⟨m1,m2,m3,m4,m5,m6⟩:=keep _ _ n4)
     | gi_in)
    exact⟨⟨k+1,v,hlt2,by simp,m1,m2,m3,m4,m5,by rw [hsucc.out,List.append_nil];exact m6⟩,by simp [intOf];omega⟩
  ·obtain rfl:k=l.ops.length:=by omega
   gi_wp2
end Go.Proofs.YtbbanmifdbeneaaDoor
namespace Go.Proofs.YtbbanmifdbeneaaDoor
open Go.RowKit Go.Con Go.Conc
theorem zoo {dst:Option Nat} {x y:Nat} {ty:TypeId} {pos:String} {af:Array Edge} {c:Nat} (e:Operand→Value) (w:World) (h:e (.tmp x)=.chan (some c)) :
  (execOp e ⟨dst,.send (.tmp x) (.tmp y),ty,pos,af,none⟩).run Tryd.prog w=.ok (.comm #[scase c (e (.tmp y)) undef] true .send) w∧(execOp e ⟨dst,.send (.tmp x) (.tmp y),ty,pos,af,none⟩).events Tryd.prog w #[]=#[]:=by
 simp [execOp,go_sem,h];rfl
theorem zhV {dst:Option Nat} {x:Nat} {pos:String} {af:Array Edge} {c:Nat} (e:Operand→Value) (w:World) (h:e (.tmp x)=.chan (some c)) :
  (execOp e ⟨dst,.recv 108 (.tmp x) false,111,pos,af,none⟩).run Tryd.prog w=.ok (.comm #[rcase c (.agg #[.int .i64 0,.slice none 0 0])] true (.recv false)) w∧(execOp e ⟨dst,.recv 108 (.tmp x) false,111,pos,af,none⟩).events Tryd.prog w #[]=#[]:=by
 simp [execOp,go_sem,h];rfl
theorem zo5:∃ i:TypeInfo,Tryd.prog.info? 111=some i∧i.bytes=32:=by
 have h:(Tryd.prog.info? 111).map (fun i=>i.bytes)=some 32:=by kernel_rfl
 cases hi:Tryd.prog.info? 111 with
 | none=>rw [hi] at h;cases h
 | some i =>
  rw [hi] at h;simp only [jqb,Option.some.injEq] at h;exact⟨i,rfl,h⟩
theorem zn7 {dst:Option Nat} {x:Nat} {pos:String} {ty:TypeId} {af:Array Edge} {n:Nat} (hn:n≤1000) (e:Operand→Value) (w:World) (h:e (.tmp x)=.int .i64 n) :
  (execOp e ⟨dst,.makeChan 127 (.tmp x),ty,pos,af,none⟩).run Tryd.prog w=.ok (.value (.chan (some w.heap.size))) { w with heap:=w.heap.push (.chan n #[] false 0 0 false) }∧(execOp e ⟨dst,.makeChan 127 (.tmp x),ty,pos,af,none⟩).events Tryd.prog w #[]=#[]:=by
 obtain⟨i,hi,hb⟩:=zo5;have h1:=run_makeChan (P:=Tryd.prog) (w:=w) Tryd.underlying127 hi .i64 n (by omega) (by rw [hb];omega);have h2:=events_makeChan (P:=Tryd.prog) (w:=w) Tryd.underlying127 hi .i64 n (by omega) (by rw [hb];omega);simp [execOp,go_sem,h,h1,h2]
end Go.Proofs.YtbbanmifdbeneaaDoor
namespace Go.Proofs.YtbbanmifdbeneaaDoor
open Go.RowKit Go.Con
abbrev zcG:Lone:={ v:=fun f=>LF.contains f || f == 64,lm:=false }
abbrev LWk:List Nat:=[65,72,75,44,45,54,68,73]
abbrev zkK:Lone:={ v:=fun f=>LWk.contains f,lm:=false }
abbrev T2:Two:=⟨zcG,zkK⟩
def zmv [Lone] (P:Program) (maps:Bool) (f:Nat):Bool:=match P.funcs[f]? with
 | some fn=>match fn.body with | some body=>zbe P maps body | none=>false
 | none=>false
theorem zhG [Lone] {P:Program} {maps:Bool} {f:Nat} (h:zmv P maps f=true):okFn P maps f:=by
 unfold zmv at h
 split at h
 ·rename_i fn hf
  split at h
  ·rename_i body hb
   exact⟨fn,body,hf,hb,h⟩
  ·cases h
 ·cases h
theorem zpu:LWk.all (@zmv zkK Tryd.prog false)=true:=by kernel_rfl
def KW (d:Dit) (l:Lg) (n:Int) (h:Nat→Value):Option (Array Value×TypeId×(Nat×Nat))→Prop
 | none=>(∀ b,h b=.agg #[num n,.slice none 0 0])∧outL d l n l.ops.length=[]
 | some (cells,e,fz)=>∃ cap,(∀ b,h b=.agg #[num n,.slice (some ⟨b,0,none⟩) (outL d l n l.ops.length).length cap])∧e=3∧fz=(0,0)∧cells.size=cap∧(outL d l n l.ops.length).length≤cap∧cells.toList.take (outL d l n l.ops.length).length=(outL d l n l.ops.length).map num
theorem zle {cs:Array Value} (h:∀ u∈cs,∃ n,u=num n) (σ:Rn):cs.map (ren σ)=cs:=by
 conv=>rhs;rw [← Array.map_id cs]
 exact Array.map_congr_left fun u hu=>by obtain⟨n,rfl⟩:=h u hu;simp [ren]
theorem zp7:∀ f,FW.fn f→@zaL zkK Tryd.prog (.func f)=true→@okFn zkK Tryd.prog false f:=by
 intro f _ hg;have hv:LWk.contains f=true:=by
  unfold zaL at hg;dsimp only at hg
  split at hg
  ·simp only [Bool.and_eq_true] at hg;exact hg.2
  ·cases hg
 refine @zhG zkK _ _ _ ?_;exact List.all_eq_true.1 zpu f (by simpa using hv)
def opsOf:Code→Array Oper | .region _ ops _=>ops | _=>#[]
noncomputable def ops97:Array Oper:=opsOf x97c
theorem zpk:x97c=.region 7 ops97 false:=by kernel_rfl
end Go.Proofs.YtbbanmifdbeneaaDoor
namespace Go.Proofs.YtbbanmifdbeneaaDoor
open Go.RowKit Go.Con Go.Conc
local instance:Lone:=zkK
theorem zjc {dst:Option Nat} {ty:TypeId} {pos:String} {af:Array Edge} {x:Nat} {a:Addr} {v:Value} {w:World} (e:Operand→Value) (h:e (.tmp x)=.pointer (some a)) (hc:w.cell? a=some v) (τ:Tape) :
  (execOp e ⟨dst,.load 127 (.tmp x),ty,pos,af,none⟩).run Tryd.prog { w with tape:=τ }=.ok (.value v) { w with tape:=τ }:=by
 have hc' : ({ w with tape:=τ }:World).cell? a=some v:=hc;simp [execOp,go_sem,h,hc']
theorem zgH {dst:Option Nat} {ty:TypeId} {pos:String} {af:Array Edge} {x b:Nat} {v1 v2:Value} {w:World} (e:Operand→Value) (h:e (.tmp x)=.pointer (some ⟨b,0,none⟩)) (h1:w.cell? ⟨b,0,none⟩=some v1) (h2:w.cell? ⟨b,1,none⟩=some v2) (τ:Tape) :
  (execOp e ⟨dst,.load 111 (.tmp x),ty,pos,af,none⟩).run Tryd.prog { w with tape:=τ }=.ok (.value (.agg #[v1,v2])) { w with tape:=τ }:=by
 have h1' : ({ w with tape:=τ }:World).cell? ⟨b,0,none⟩=some v1:=h1;have h2' : ({ w with tape:=τ }:World).cell? ⟨b,1,none⟩=some v2:=h2;simp [execOp,go_sem,h,h1',h2']
theorem zpj {t:Array Value} {i:Nat} {v:Value} (h:t[i]?=some v):t.getD i undef=v:=by simp [h]
theorem zaf {f:Nat} {t:Array Value} {k:List Item} {i:Nat} {v:Value} (h:t[i]?=some v):(Fr f t k).eval (.tmp i)=v:=by
 show t.getD i undef=v;exact zpj h
theorem zmE (Ac:Nat→Prop) (B0:Nat) (W:World) (N L Pw C B M c:Nat) (n:Int) (d:Dit) (l:Lg) (lv:Value) (hO:d.Ok) (hL:zkX d l) (hn : -100≤n∧n≤100) (hk:WkAt W N L Pw C B M c n d l lv)
  (hAc:∀ b,Ac b→b<W.heap.size) :
  GoW Tryd.prog (fun _=>False) Ac B0 c (zc3 B0 (KW d l n)) (Fr 64 #[.pointer (some ⟨N,0,none⟩),.pointer (some ⟨L,0,none⟩),.pointer (some ⟨Pw,0,none⟩),.pointer (some ⟨C,0,none⟩),undef,undef,undef,undef,undef,undef,undef,undef,undef,undef,undef,undef,undef,undef,undef,undef,undef,undef,undef,undef,undef,undef,undef,undef,undef,undef] [.code zeI]) W:=by
 rw [zmJ];refine Gw.seq ?_;refine Gw.lone (F:=FW) (fun t1 W1=>t1=#[.pointer (some ⟨N,0,none⟩),.pointer (some ⟨L,0,none⟩),.pointer (some ⟨Pw,0,none⟩),.pointer (some ⟨C,0,none⟩),.pointer (some ⟨W.heap.size,0,none⟩),undef,undef,num n,.agg #[num n,.slice none 0 0],
    undef,undef,undef,undef,undef,undef,undef,undef,undef,undef,undef,undef,undef,undef,undef,undef,undef,undef,undef,undef,undef]∧W1.heap=(W.alloc (.cells #[num n,.slice none 0 0] 111)).heap)
  rfl rfl rfl (List.mem_cons_self ..) zp7 (by kernel_rfl) (by kernel_rfl) (fun τ=>?_) ?_
 ·have hk2:({ W with tape:=τ }:World).cell? ⟨N,0,none⟩=some (num n):=hk.hn
  have hw:=zpi { W with tape:=τ } N L Pw C n hk2;refine wpIn_mono hw ?_;rintro e a w' ⟨h1,h2,h3,rfl⟩;exact⟨h1,h2,h3,rfl⟩
 rintro t1 W1 ⟨rfl,hW1⟩;have hsz:W1.heap.size=W.heap.size+1:=by rw [hW1];simp
 refine Gw.seq ?_;refine Gw.lone (F:=FW) (fun t2 W2=>t2.size=30∧t2[3]?=some (.pointer (some ⟨C,0,none⟩))∧t2[4]?=some (.pointer (some ⟨W.heap.size,0,none⟩))∧WkAt W2 N L Pw C B M c n d l lv∧∃ v,W2.cell? ⟨W.heap.size,0,none⟩=some (num n)∧W2.cell? ⟨W.heap.size,1,none⟩=some v∧FlatR W2 (W.heap.size+1) v (outL d l n l.ops.length))
  rfl rfl rfl (List.mem_cons_self ..) zp7 (by kernel_rfl) (by kernel_rfl) (fun τ=>?_) ?_
 ·have hkw:WkAt { W with tape:=τ,os:=W1.os,output:=W1.output } N L Pw C B M c n d l lv:=hk.hp' rfl
  have h0:Nx { W with tape:=τ,os:=W1.os,output:=W1.output } { W1 with tape:=τ }:=⟨rfl,rfl,rfl,by show W.heap.size≤W1.heap.size;omega,fun i hi=>by
   show W1.heap[i]?=W.heap[i]?;rw [hW1];exact heap_alloc_old _ _ hi⟩
  have hcell:∀ i u,#[num n,.slice none 0 0][i]?=some u→({ W1 with tape:=τ }:World).cell? ⟨W.heap.size,i,none⟩=some u:=fun i u h=>(zaZ (w:=W.alloc (.cells #[num n,.slice none 0 0] 111)) (w':={ W1 with tape:=τ }) hW1 _).trans (zaA rfl h);refine wpIn_mono (zoZ _ { W1 with tape:=τ } N L Pw C B M c W.heap.size n d l lv hO hL hn hkw rfl h0 (by show _<W1.heap.size;omega) (hcell 0 _ rfl) (hcell 1 _ rfl) ?_) ?_
  ·have hz:=heap_alloc_new W (.cells #[num n,.slice none 0 0] 111)
   unfold World.frozen?;dsimp only;rw [hW1,hz];rfl
  ·rintro e a w' ⟨h1,h2,h3,h4,h5,h6,h7⟩
   exact⟨h1,h2,h3,h4,h5,hkw.nx h6,h7⟩
 rintro t2 W2 ⟨hs,ht3,ht4,hk2,v,q0,q1,hF⟩;rw [zpk];refine Gw.region ?_;have hr:List.range ops97.size=[0,1,2]:=by kernel_rfl
 rw [hr];refine Gw.op (o:=⟨some 28,.load 127 (.tmp 3),_,_,_,none⟩) (.chan (some (2 * c))) W2 rfl rfl (by kernel_rfl) rfl (zjc _ (zaf ht3) hk2.hc) id ?_;refine Gw.op (o:=⟨some 29,.load 111 (.tmp 4),_,_,_,none⟩) (.agg #[num n,v]) W2 rfl rfl (by kernel_rfl) rfl (zgH _ (zaf (by simp [putD,ht4])) q0 q1) id ?_;refine Gw.send (o:=⟨none,.send (.tmp 28) (.tmp 29),_,_,_,none⟩) (x:=.tmp 28) (y:=.tmp 29) (z:=undef) (v:=.agg #[num n,v]) rfl rfl rfl rfl (zaf (by simp [putD,hs])) (zaf (by simp [putD,hs])) (fun e w h=>zoo e w h) Tryd.func64 rfl ?_;intro ρ D own A W' hh;obtain⟨hown,hcase⟩:=hF.1;rcases hcase with ⟨rfl,h0⟩ | ⟨g,cap,cur,rfl,hg1,hg2,hg3,hg4,hg5,hg6⟩
 ·refine⟨hh.low,.inl ⟨fun _=>.agg #[num n,.slice none 0 0],fun _=>?_,fun σ=>by simp [ren,renA,renL],fun _=>rfl,?_⟩⟩
  ·simp [ren,renA,renL]
  ·exact List.eq_nil_of_length_eq_zero h0
 ·refine hh.flat (N:=W.heap.size) (g:=g) (j:=29) hAc (by omega) ?_ (v:=.agg #[num n,.slice (some ⟨g,0,none⟩) (outL d l n l.ops.length).length cap]) ?_ (h0:=fun b=>.agg #[num n,.slice (some ⟨b,0,none⟩) (outL d l n l.ops.length).length cap]) rfl ?_ ?_ hg2 (zle (hF.2 g cur 3 (0,0) rfl hg2)) ?_
  ·have:=hk.g.size
   show 2≤_;exact this
  ·simp [putD,hs]
  ·intro D' hsv
   simp only [supV,ren,renA,renL,jqb,Value.agg.injEq,Array.mk.injEq,List.cons.injEq,Value.slice.injEq,Option.some.injEq,renAddr_eq,and_true,true_and] at hsv;exact dbl_eq.1 hsv
  ·intro σ m
   simp [ren,renA,renL,zak]
  ·exact⟨cap,fun _=>rfl,rfl,rfl,by simpa using hg5,hg3,by simpa using hg6⟩
end Go.Proofs.YtbbanmifdbeneaaDoor
namespace Go.Proofs.YtbbanmifdbeneaaDoor
open Go.RowKit Go.Con Go.Conc Go.WideShapes
theorem zpw {v:Value} {k:Lit} (h:keyOf Tryd.prog 3 v=some k):∃ c:Int,v=num c∧k=.int .i64 c∧(-9223372036854775808≤c∧c≤9223372036854775807):=by
 unfold keyOf at h;simp only [Tryd.underlying3] at h
 cases v with
 | int q a =>
  simp [mapKey,Tryd.underlying3] at h;obtain⟨⟨rfl,hw⟩,rfl⟩:=h;refine⟨a,rfl,rfl,?_⟩;simp [Lit.wf,IntKind.min,IntKind.max,IntKind.bits,IntKind.signed] at hw;omega
 | _=>simp [mapKey,Tryd.underlying3] at h
theorem MapAt.entries {w:World} {M:Nat} {keys:List Int} {oth:Int→List Int} (h:MapAt w M keys oth):∃ es k,w.heap[M]?=some (.map es k)∧∀ e∈es,∃ c,e.key=num c∧c∈keys∧∃ b cap,e.val=.slice (some ⟨b,0,none⟩) (oth c).length cap∧b<w.heap.size∧∀ j x,(oth c)[j]?=some x→w.cell? ⟨b,j,none⟩=some (num x):=by
 obtain⟨D,n,_,⟨es,clock,hb,F,hs,rfl⟩,hc⟩:=h.own;refine⟨es,clock,hb,fun e he=>?_⟩;have hem:e∈es.toList:=Array.mem_toList_iff.2 he;obtain⟨y,hy⟩:=F.reads e hem;obtain⟨z,hz,hzd⟩:=WideElems.rd_val hy;have hkey:=WideElems.rd_key hy;obtain⟨c,e1,e2,hr⟩:=zpw hkey;have hrg:WideElems.rg Tryd.prog 3 za8 e=y:=WideElems.rg_of hy;have hm:WideElems.rg Tryd.prog 3 za8 e∈es.toList.map (WideElems.rg Tryd.prog 3 za8):=jqa.2 ⟨e,hem,rfl⟩;have hhas:Maps.has (DataW.map ((es.toList.map (WideElems.rg Tryd.prog 3 za8)).foldr DataW.insert [])) (.int .i64 c)=true :=
  List.any_eq_true.2 ⟨_,mem_sorted.2 hm,by rw [hrg,e2];exact WideAt.sameKey_self trivial⟩
 obtain⟨h1,h2⟩:=hc c hr;have hk:c∈keys:=by rw [h1] at hhas;simpa using hhas
 obtain⟨b,cap,h3,h4,h5⟩:=h2 hk;refine⟨c,e1,hk,b,cap,?_,h4,h5⟩;have h6:=(atKey_sorted (es.toList.map (WideElems.rg Tryd.prog 3 za8)) (Maps.fit_rising zgO F) (.int .i64 c) trivial).2 _ hm (by rw [hrg,e2]) .nil;rw [h3,hrg,hzd] at h6;obtain⟨z1,z2⟩:=z;dsimp only at h6;exact zcX (h6 ▸ hz)
theorem zon {es:Array MapEntry} {clock:Nat} (F:WideElems.Fit Tryd.prog 3 za8 es clock) {c:Int} {b n cap:Nat} (hhas:Maps.has (DataW.map ((es.toList.map (WideElems.rg Tryd.prog 3 za8)).foldr DataW.insert [])) (.int .i64 c)=true)
  (hat:∀ z,(DataW.map ((es.toList.map (WideElems.rg Tryd.prog 3 za8)).foldr DataW.insert [])).atKey (.int .i64 c) z=.agg [.lit (.int .i64 b),.lit (.int .i64 n),.lit (.int .i64 cap)]):∃ e∈es,e.val=.slice (some ⟨b,0,none⟩) n cap:=by
 obtain⟨p,hp,hpk⟩:=List.any_eq_true.1 hhas;obtain⟨e,he,rfl⟩:=jqa.1 (mem_sorted.1 hp);obtain⟨y,hy⟩:=F.reads e he;obtain⟨z,hz,hzd⟩:=WideElems.rd_val hy;have hrg:WideElems.rg Tryd.prog 3 za8 e=y:=WideElems.rg_of hy;have h6:=(atKey_sorted (es.toList.map (WideElems.rg Tryd.prog 3 za8)) (Maps.fit_rising zgO F) (.int .i64 c) trivial).2 _ (jqa.2 ⟨e,he,rfl⟩) (WideAt.sameKey_eq hpk) .nil;rw [hat,hrg,hzd] at h6;obtain⟨z1,z2⟩:=z;dsimp only at h6;exact⟨e,Array.mem_toList_iff.1 he,zcX (h6 ▸ hz)⟩
end Go.Proofs.YtbbanmifdbeneaaDoor
namespace Go.Proofs.YtbbanmifdbeneaaDoor
open Go.RowKit Go.Con Go.Conc
section
local instance:Lone:=zcG
structure Old (w w' : World):Prop where
 size:w.heap.size≤w'.heap.size
 cell:∀ a:Addr,a.block<w.heap.size→w'.cell? a=w.cell? a
 kind:∀ b,CellsAt w b→CellsAt w' b
 map:∀ (b:Nat) (es:Array MapEntry) (k:Nat),w.heap[b]?=some (Obj.map es k)→w'.heap[b]?=some (Obj.map es k)
theorem Old.refl (w:World):Old w w:=⟨Nat.le_refl _,fun _ _=>rfl,fun _ h=>h,fun _ _ _ h=>h⟩
theorem Old.trans {a b c:World} (h:Old a b) (k:Old b c):Old a c:=⟨Nat.le_trans h.size k.size,fun x hx=>(k.cell x (jqc hx h.size)).trans (h.cell x hx),fun x hx=>k.kind x (h.kind x hx),fun b es m hb=>k.map b es m (h.map b es m hb)⟩
theorem Old.heap {w w' : World} (hs:w.heap.size≤w'.heap.size) (h:∀ b,b<w.heap.size→w'.heap[b]?=w.heap[b]?):Old w w' :=
 ⟨hs,fun a ha=>zbC (h a.block ha),fun b hb=>by
  have hl:=hb.lt;obtain⟨c,e,fz,hb⟩:=hb;exact⟨c,e,fz,(h b hl).trans hb⟩,fun b es k hb=>(h b (jqe.1 hb).1).trans hb⟩
theorem Old.same {w w' : World} (e:w'.heap=w.heap):Old w w':=.heap (by rw [e];exact Nat.le_refl _) fun b _=>by rw [e]
theorem Old.nx {w w' : World} (n:Nx w w'):Old w w':=.heap n.size fun b hb=>n.block b hb
theorem zgF (S:Nat→Prop) (w:World) (a:Addr):(zcz S w).cell? a=w.cell? a:=by
 unfold World.cell?;rw [zcR]
 cases w.heap[a.block]? with
 | none=>rfl
 | some o =>
  by_cases hS:S a.block
  ·simp only [jqb,if_pos hS]
   cases o<;>rfl
  ·simp only [jqb,if_neg hS]
theorem zia {S:Nat→Prop} {w:World} {a:Addr} (h:¬ S a.block):(zcz S w).frozen? a=w.frozen? a:=by
 unfold World.frozen?;rw [zcR]
 cases w.heap[a.block]? with
 | none=>rfl
 | some o=>simp only [jqb,if_neg h]
theorem Old.freeze (S:Nat→Prop) (w:World):Old w (zcz S w) :=
 ⟨by rw [zc1];exact Nat.le_refl _,fun a _=>zgF S w a,fun b hb=>by
  obtain⟨c,e,fz,h⟩:=hb;unfold CellsAt;rw [zcR,h];simp only [jqb];split
  ·exact⟨_,_,_,rfl⟩
  ·exact⟨_,_,_,rfl⟩,fun b es k hb=>by
  rw [zcR,hb];simp only [jqb]
  split<;>rfl⟩
end
section
variable {W Wc Wn:World} {n:Nat} {roots X:Nat→Prop}
theorem zgj (h:CutOf (Rch W n roots X) W Wc) {b i:Nat} {k:Int} (hb:Rch W n roots X b) (hc:W.cell? ⟨b,i,none⟩=some (num k)):Wc.cell? ⟨b,i,none⟩=some (num k):=h.cell b i _ hb hc trivial
theorem zmb (h:CutOf (Rch W n roots X) W Wc) (hX:∀ b,b<Wn.heap.size→X b) (hold:Old Wn W) {r i sz:Nat} {v:Value} {xs:List (List Value)} (hr:Rch W n roots X r) (hc:W.cell? ⟨r,i,none⟩=some v)
  (hs:Sl Wn v sz xs) (hk:Kind Wn v) (hp:∀ l∈xs,∀ x∈l,∀ S,Nice S x):Wc.cell? ⟨r,i,none⟩=some v∧Sl Wc v sz xs∧Kind Wc v:=by
 obtain⟨cap,⟨h1,rfl⟩ | ⟨b,off,rfl,hb,hcs⟩⟩:=hs
 ·exact⟨h.cell r i _ hr hc trivial,⟨cap,.inl ⟨h1,rfl⟩⟩,fun a n c e=>by cases e⟩
 ·obtain⟨cs,e,fz,hkd⟩:=hk _ _ _ rfl
  obtain⟨cs',e',fz',hkW⟩:∃ cs' e' fz',W.heap[b]?=some (.cells cs' e' fz'):=hold.kind b ⟨_,_,_,hkd⟩;have hR:Rch W n roots X b:=.cell hr hc (.inr (.inl ⟨_,_,_,rfl,rfl⟩)) (.inl ⟨_,_,_,hkW⟩) (hX b hb);refine⟨h.cell r i _ hr hc hR,⟨cap,.inr ⟨b,off,rfl,?_,fun j k l x hj hk'=>?_⟩⟩,fun a n c e=>by cases e;exact h.kind b hR ⟨_,_,_,hkW⟩⟩
  ·rw [h.size];exact (jqe.1 hkW).1
  ·refine h.cell b _ _ hR ?_ (hp l (List.mem_of_getElem? hj) x (List.mem_of_getElem? hk') _)
   rw [hold.cell ⟨b,off+j * sz+k,none⟩ hb];exact hcs j k l x hj hk'
theorem zeS {l:List (List UInt8)}:∀ z∈l.map (fun s=>[str s]),∀ x∈z,∀ S,Nice S x:=by
 intro z hz x hx S;obtain⟨s,_,rfl⟩:=jqa.1 hz;simp only [List.mem_singleton] at hx;subst hx;trivial
theorem zlG {l:List Int}:∀ z∈l.map (fun s=>[num s]),∀ x∈z,∀ S,Nice S x:=by
 intro z hz x hx S;obtain⟨s,_,rfl⟩:=jqa.1 hz;simp only [List.mem_singleton] at hx;subst hx;trivial
theorem zed {l:List (Int×Int)}:∀ z∈l.map two,∀ x∈z,∀ S,Nice S x:=by
 intro z hz x hx S;obtain⟨s,_,rfl⟩:=jqa.1 hz;simp only [two,List.mem_cons,List.not_mem_nil,or_false] at hx;rcases hx with rfl | rfl<;>trivial
theorem zcp {l:List (Int×Int×Int)}:∀ z∈l.map three,∀ x∈z,∀ S,Nice S x:=by
 intro z hz x hx S;obtain⟨s,_,rfl⟩:=jqa.1 hz;simp only [three,List.mem_cons,List.not_mem_nil,or_false] at hx;rcases hx with rfl | rfl | rfl<;>trivial
theorem zd2 {l:List Plot}:∀ z∈l.map Plot.cells,∀ x∈z,∀ S,Nice S x:=by
 intro z hz x hx S;obtain⟨s,_,rfl⟩:=jqa.1 hz;simp only [Plot.cells,List.mem_cons,List.not_mem_nil,or_false] at hx;rcases hx with rfl | rfl | rfl | rfl | rfl | rfl<;>trivial
theorem zqn (h:CutOf (Rch W n roots X) W Wc) (hn:2≤n) (hX:∀ b,b<Wn.heap.size→X b) (hold:Old Wn W) {N L Pw C B M c:Nat} {k:Int} {d:Dit} {l:Lg} {lv:Value} (hO:d.Ok)
  (hw:Wtr Wn B M d d.ends d.cyc d.keys d.oth) (hl:Sl Wn lv 3 (l.ops.map three)) (hkl:Kind Wn lv) (hg:Glob1 W)
  (rN:roots N) (rL:roots L) (rP:roots Pw) (rC:roots C) (cN:W.cell? ⟨N,0,none⟩=some (num k)) (cL:W.cell? ⟨L,2,none⟩=some lv) (cP:W.cell? ⟨Pw,0,none⟩=some (.pointer (some ⟨B,0,none⟩))) (cC:W.cell? ⟨C,0,none⟩=some (.chan (some (2 * c)))) :
  WkAt Wc N L Pw C B M c k d l lv:=by
 have up:∀ {b i:Nat},b<Wn.heap.size→W.cell? ⟨b,i,none⟩=Wn.cell? ⟨b,i,none⟩:=fun {b i} hb=>hold.cell ⟨b,i,none⟩ hb;have hBl:=hw.wat.dit.lt;have kindC:∀ {b i:Nat} {v:Value},W.cell? ⟨b,i,none⟩=some v→zgp W b:=fun hc=>.inl (zbr hc);have bW:∀ i v,Wn.cell? ⟨B,i,none⟩=some v→W.cell? ⟨B,i,none⟩=some v:=fun i v hv=>(up hBl).trans hv;have rB:Rch W n roots X B:=.cell (.root rP) cP (.inl ⟨_,rfl,rfl⟩) (kindC (bW 26 _ hw.wat.long)) (hX B hBl);have nB:∀ i k,Wn.cell? ⟨B,i,none⟩=some (num k)→Wc.cell? ⟨B,i,none⟩=some (num k):=fun i k hv=>zgj h rB (bW i _ hv);have D:=hw.wat.dit;have kd:∀ i v,i<14→Wn.cell? ⟨B,0+i,none⟩=some v→Kind Wn v:=fun i v hi hv=>D.kinds i v hi hv;have sl:∀ (i sz:Nat) (v:Value) (xs:List (List Value)),i<14→Wn.cell? ⟨B,0+i,none⟩=some v→Sl Wn v sz xs→(∀ l∈xs,∀ x∈l,∀ S,Nice S x)→Wc.cell? ⟨B,0+i,none⟩=some v∧Sl Wc v sz xs∧Kind Wc v :=
  fun i sz v xs hi hv hs hp=>zmb h hX hold rB (bW _ _ hv) hs (kd i v hi hv) hp
 obtain⟨es,clk,hM,hent⟩:=hw.map.entries;have hMl:=hw.map.lt;have hMW:W.heap[M]?=some (.map es clk):=hold.map M es clk hM;have rM:Rch W n roots X M:=.cell rB (bW 28 _ hw.others) (.inr (.inr rfl)) (.inr ⟨es,clk,hMW⟩) (hX M hMl);have ht12:=hO.cyc.few;have hlenO:∀ c∈d.keys,(d.oth c).length=d.turns.length:=hO.chg.len;have rowR:∀ e∈es,∀ b cap (c:Int),c∈d.keys→e.val=.slice (some ⟨b,0,none⟩) (d.oth c).length cap→b<Wn.heap.size→(∀ j x,(d.oth c)[j]?=some x→Wn.cell? ⟨b,j,none⟩=some (num x))→Rch W n roots X b:=by
  intro e he b cap c hc hv hb hcs;have hx:(d.oth c)[0]?=some ((d.oth c)[0]'(by have:=hlenO c hc;omega)):=jqd _;exact .entry rM hMW he (.inr (.inl ⟨_,_,_,hv,rfl⟩)) (kindC ((up hb).trans (hcs 0 _ hx))) (hX b hb)
 have hMc:Wc.heap[M]?=some (.map es clk):=h.map M es clk rM hMW fun e he=>by
  obtain⟨c,e1,hc,b,cap,e2,hb,hcs⟩:=hent e he;rw [e1,e2];exact⟨trivial,rowR e he b cap c hc e2 hb hcs⟩
 obtain⟨vu,hu1,hu2⟩:=hw.usual;have hul:(d.turns.map (·.1)).length=d.turns.length:=by simp
 have hu:Wc.cell? ⟨B,27,none⟩=some vu∧Sl Wc vu 1 ((d.turns.map (·.1)).map fun x=>[num x])∧Kind Wc vu:=by
  refine zmb h hX hold rB (bW 27 _ hu1) hu2 ?_ zlG;intro a m c hv;obtain⟨cap,⟨h1,_⟩ | ⟨b,off,h1,h2,h3⟩⟩:=hu2
  ·have:=congrArg List.length h1
   simp at this;rw [this] at ht12;simp at ht12
  ·rw [hv] at h1
   simp only [Value.slice.injEq,Option.some.injEq] at h1;rw [h1.1];have hx:((d.turns.map (·.1)).map fun x=>[num x])[0]?=some [num ((d.turns.map (·.1))[0]'(by simp;omega))]:=by
    rw [List.getElem?_map,jqd (by simp;omega)];rfl
   exact zbr (h3 0 0 _ _ hx rfl)
 have hlc:=zmb h hX hold (.root rL) cL hl hkl zcp;have g1:Rch W n roots X 0:=.glob (by omega);refine⟨⟨⟨⟨?_,?_,?_,nB _ _ D.begin_,nB _ _ D.week,nB _ _ D.from_,nB _ _ D.long,?_,?_,?_,nB _ _ D.flow1,nB _ _ D.flow2,nB _ _ D.loss1,nB _ _ D.loss2,?_,?_,?_,?_⟩,fun i hi=>nB _ _ (hw.wat.ends i hi),nB _ _ hw.wat.long⟩,⟨vu,hu.1,hu.2.1⟩,h.cell B 28 _ rB (bW 28 _ hw.others) rM,?_⟩,⟨by rw [h.size];exact hg.size,zgj h g1 hg.n0,zgj h g1 hg.n1⟩,zgj h (.root rN) cN,hlc.1,hlc.2.1,h.cell Pw 0 _ (.root rP) cP rB,h.cell C 0 _ (.root rC) cC (by show 2 * c % 2=0;omega),?_⟩
 ·rw [h.size];exact jqc hBl hold.size
 ·obtain⟨v,h1,h2⟩:=D.holders;exact⟨v,(sl 0 _ v _ (by omega) h1 h2 zeS).1,(sl 0 _ v _ (by omega) h1 h2 zeS).2.1⟩
 ·obtain⟨v,h1,h2⟩:=D.turns;exact⟨v,(sl 1 _ v _ (by omega) h1 h2 zed).1,(sl 1 _ v _ (by omega) h1 h2 zed).2.1⟩
 ·obtain⟨v,h1,h2⟩:=D.feasts;exact⟨v,(sl 6 _ v _ (by omega) h1 h2 zed).1,(sl 6 _ v _ (by omega) h1 h2 zed).2.1⟩
 ·obtain⟨v,h1,h2⟩:=D.swaps;exact⟨v,(sl 7 _ v _ (by omega) h1 h2 zcp).1,(sl 7 _ v _ (by omega) h1 h2 zcp).2.1⟩
 ·obtain⟨v,h1,h2⟩:=D.loans;exact⟨v,(sl 8 _ v _ (by omega) h1 h2 zcp).1,(sl 8 _ v _ (by omega) h1 h2 zcp).2.1⟩
 ·obtain⟨v,h1,h2⟩:=D.plots;exact⟨v,(sl 13 _ v _ (by omega) h1 h2 zd2).1,(sl 13 _ v _ (by omega) h1 h2 zd2).2.1⟩
 ·intro a m cap hv
  obtain⟨v,h1,h2⟩:=D.holders;have:=(sl 0 _ v _ (by omega) h1 h2 zeS).1;exact D.cap0 a m cap (h1.trans (this.symm.trans hv))
 ·intro a m cap hv
  obtain⟨v,h1,h2⟩:=D.plots;have:=(sl 13 _ v _ (by omega) h1 h2 zd2).1;exact D.cap13 a m cap (h1.trans (this.symm.trans hv))
 ·intro i v hi hv
  have nm:∀ (j:Nat) (k:Int),j=i→Wn.cell? ⟨B,0+j,none⟩=some (num k)→Kind Wc v:=fun j k e hj=>by
   subst e;have:=(nB _ _ hj).symm.trans hv;cases this
   exact Kind.num _
  have ks:∀ (j sz:Nat) (u:Value) (xs:List (List Value)),j=i→j<14→Wn.cell? ⟨B,0+j,none⟩=some u→Sl Wn u sz xs→(∀ l∈xs,∀ x∈l,∀ S,Nice S x)→Kind Wc v:=fun j sz u xs e hj14 hj hs hp=>by
   subst e;obtain⟨h1,_,h3⟩:=sl j sz u xs hj14 hj hs hp;have:=h1.symm.trans hv;cases this
   exact h3
  rcases i with _ | _ | _ | _ | _ | _ | _ | _ | _ | _ | _ | _ | _ | _ | i
  ·obtain⟨u,h1,h2⟩:=D.holders;exact ks 0 _ u _ rfl (by omega) h1 h2 zeS
  ·obtain⟨u,h1,h2⟩:=D.turns;exact ks 1 _ u _ rfl (by omega) h1 h2 zed
  ·exact nm 2 _ rfl D.begin_
  ·exact nm 3 _ rfl D.week
  ·exact nm 4 _ rfl D.from_
  ·exact nm 5 _ rfl D.long
  ·obtain⟨u,h1,h2⟩:=D.feasts;exact ks 6 _ u _ rfl (by omega) h1 h2 zed
  ·obtain⟨u,h1,h2⟩:=D.swaps;exact ks 7 _ u _ rfl (by omega) h1 h2 zcp
  ·obtain⟨u,h1,h2⟩:=D.loans;exact ks 8 _ u _ rfl (by omega) h1 h2 zcp
  ·exact nm 9 _ rfl D.flow1
  ·exact nm 10 _ rfl D.flow2
  ·exact nm 11 _ rfl D.loss1
  ·exact nm 12 _ rfl D.loss2
  ·obtain⟨u,h1,h2⟩:=D.plots;exact ks 13 _ u _ rfl (by omega) h1 h2 zd2
  ·omega
 ·have hsz:=hold.size
  refine⟨by rw [h.size];omega,?_⟩;obtain⟨DD,m,hm,⟨es',clock,hb,F,hs,hD⟩,hc⟩:=hw.map.own;rw [hM] at hb;simp only [Option.some.injEq,Obj.map.injEq] at hb;obtain⟨rfl,rfl⟩:=hb;refine⟨DD,m,hm,⟨es,clk,hMc,F,hs,hD⟩,fun c hr=>⟨(hc c hr).1,fun hk=>?_⟩⟩;obtain⟨b,cap,h1,h2,h3⟩:=(hc c hr).2 hk;subst hD;obtain⟨e,he,hv⟩:=zon F (by rw [(hc c hr).1];simpa using hk) h1;have hR:=rowR e he b cap c hk hv h2 h3;exact⟨b,cap,h1,by rw [h.size];omega,fun j x hj=>zgj h hR ((up h2).trans (h3 j x hj))⟩
 ·have k:∀ {b i:Nat} {v:Value},W.cell? ⟨b,i,none⟩=some v→b<Wc.heap.size:=fun hc=>by
   obtain⟨_,_,_,hh⟩:=zbr hc;rw [h.size];exact (jqe.1 hh).1
  exact⟨k cN,k cL,k cP,k cC⟩
end
noncomputable def zdi:Code:=match Tryd.f49.body with | some c=>c | none=>.skip
def zbj:Code→Code | .block _ x=>x | c=>c
def zfq:Code→Code | .loop x=>x | c=>c
noncomputable def y0:Code:=seqL zdi
noncomputable def y1:Code:=seqL (seqR zdi)
noncomputable def y2:Code:=seqL (seqL (seqR (seqR zdi)))
noncomputable def yX:Code:=zfq (zbj (seqR (seqL (seqR (seqR zdi)))))
noncomputable def y8:Code:=seqL (seqR (seqR (seqR zdi)))
theorem zlQ:zdi=.seq y0 (.seq y1 (.seq (.seq y2 (.block 0 (.loop yX))) (.seq y8 .ret))):=by kernel_rfl
noncomputable def y3:Code:=seqL (seqL yX)
noncomputable def y5:Code:=zbj (seqL (seqR yX))
noncomputable def y6:Code:=seqR (seqR yX)
theorem zoX:yX=.seq (.seq y3 (.cond (.tmp 23) .skip (.exit 0))) (.seq (.block 1 y5) y6):=by kernel_rfl
abbrev F73:Fence:=Fence.list [49] none
theorem znJ (w:World) (B:Nat) (lo hi:Int) (lv:Value) :
  y0.wpIn F73 0 Tryd.prog (fun e a w'=>e=.normal∧a.defers=[]∧(a.tmps=#[.pointer (some ⟨B,0,none⟩),.agg #[num lo,num hi,lv],.pointer (some ⟨w.heap.size,0,none⟩),.pointer (some ⟨w.heap.size+1,0,none⟩),.chan none,
    undef,undef,undef,undef,undef,undef,undef,undef,undef,undef,undef,undef,undef,undef,undef,undef,undef,undef,undef,undef,undef,undef,undef,undef]∧w'=(w.alloc (.cells #[.pointer (some ⟨B,0,none⟩)] 77)).alloc (.cells #[num lo,num hi,lv] 37)))
   ⟨#[.pointer (some ⟨B,0,none⟩),.agg #[num lo,num hi,lv],undef,undef,undef,undef,undef,undef,undef,undef,undef,undef,undef,undef,undef,undef,undef,undef,undef,undef,undef,undef,undef,undef,undef,undef,undef,undef,undef],[]⟩ w:=by
 simp only [y0,zdi,seqL,Tryd.f49];gi_wp2
theorem zkf (w:World) (L N:Nat) (n hi:Int) (hN:w.cell? ⟨N,0,none⟩=some (num n)) (hL:w.cell? ⟨L,1,none⟩=some (num hi)) (a0 a1 a2 a4 a5 a7 a8 a9 a10 a11 a12 a13 a14 a15 a16 a17 a18 a19 a20 a21 a22 a23 a24 a25 a26 a27 a28:Value) :
  y3.wpIn F73 0 Tryd.prog (fun e a w'=>e=.normal∧a.defers=[]∧(a.tmps=#[a0,a1,a2,.pointer (some ⟨L,0,none⟩),a4,a5,.pointer (some ⟨N,0,none⟩),a7,a8,a9,a10,a11,a12,a13,a14,a15,a16,a17,a18,num n,.pointer (some ⟨L,0,none⟩),.pointer (some ⟨L,1,none⟩),num hi,.bool (decide (n≤hi)),a24,a25,a26,a27,a28]∧w'=w))
   ⟨#[a0,a1,a2,.pointer (some ⟨L,0,none⟩),a4,a5,.pointer (some ⟨N,0,none⟩),a7,a8,a9,a10,a11,a12,a13,a14,a15,a16,a17,a18,a19,a20,a21,a22,a23,a24,a25,a26,a27,a28],[]⟩ w:=by
 simp only [y3,yX,zbj,zfq,zdi,seqL,seqR,Tryd.f49];gi_wp2
theorem znt (w:World) (N:Nat) (n:Int) (hn : -1000≤n∧n≤1000) (hN:w.cell? ⟨N,0,none⟩=some (num n)) (a0 a1 a2 a3 a4 a5 a7 a8 a9 a10 a11 a12 a13 a14 a15 a16 a17 a18 a19 a20 a21 a22 a23 a24 a25 a26 a27 a28:Value) :
  y6.wpIn F73 0 Tryd.prog (fun e a w'=>e=.normal∧a.defers=[]∧(a.tmps=#[a0,a1,a2,a3,a4,a5,.pointer (some ⟨w.heap.size,0,none⟩),a7,a8,a9,a10,a11,a12,a13,a14,a15,a16,a17,a18,a19,a20,a21,a22,a23,num n,num (n+1),a26,num n,a28]∧w'=w.alloc (.cells #[num (n+1)] 3)))
   ⟨#[a0,a1,a2,a3,a4,a5,.pointer (some ⟨N,0,none⟩),a7,a8,a9,a10,a11,a12,a13,a14,a15,a16,a17,a18,a19,a20,a21,a22,a23,a24,a25,a26,a27,a28],[]⟩ w:=by
 simp only [y6,yX,zbj,zfq,zdi,seqL,seqR,Tryd.f49];gi_wp2
theorem znT (w:World) (L:Nat) (lo:Int) (hL:w.cell? ⟨L,0,none⟩=some (num lo)) (a0 a1 a2 a4 a5 a6 a7 a8 a9 a10 a11 a12 a13 a14 a15 a16 a17 a18 a19 a20 a21 a22 a23 a24 a25 a26 a27 a28:Value) :
  y2.wpIn F73 0 Tryd.prog (fun e a w'=>e=.normal∧a.defers=[]∧(a.tmps=#[a0,a1,a2,.pointer (some ⟨L,0,none⟩),a4,a5,.pointer (some ⟨w.heap.size,0,none⟩),a7,a8,a9,a10,a11,a12,a13,a14,a15,.pointer (some ⟨L,0,none⟩),.pointer (some ⟨L,0,none⟩),num lo,a19,a20,a21,a22,a23,a24,a25,a26,a27,a28]∧w'=w.alloc (.cells #[num lo] 3)))
   ⟨#[a0,a1,a2,.pointer (some ⟨L,0,none⟩),a4,a5,a6,a7,a8,a9,a10,a11,a12,a13,a14,a15,a16,a17,a18,a19,a20,a21,a22,a23,a24,a25,a26,a27,a28],[]⟩ w:=by
 simp only [y2,zdi,seqL,seqR,Tryd.f49];gi_wp2
theorem zol (w:World) (C:Nat) (v:Value) (hC:w.cell? ⟨C,0,none⟩=some v) (a0 a1 a2 a3 a4 a6 a7 a8 a9 a10 a11 a12 a13 a14 a15 a16 a17 a18 a19 a20 a21 a22 a23 a24 a25 a26 a27 a28:Value) :
  y8.wpIn F73 0 Tryd.prog (fun e a w'=>e=.normal∧a.defers=[]∧(a.tmps=#[a0,a1,a2,a3,v,.pointer (some ⟨C,0,none⟩),a6,a7,a8,a9,a10,a11,a12,a13,a14,a15,a16,a17,a18,a19,a20,a21,a22,a23,a24,a25,a26,a27,v]∧w'=w))
   ⟨#[a0,a1,a2,a3,a4,.pointer (some ⟨C,0,none⟩),a6,a7,a8,a9,a10,a11,a12,a13,a14,a15,a16,a17,a18,a19,a20,a21,a22,a23,a24,a25,a26,a27,a28],[]⟩ w:=by
 simp only [y8,zdi,seqL,seqR,Tryd.f49];gi_wp2
end Go.Proofs.YtbbanmifdbeneaaDoor
namespace Go.Proofs.YtbbanmifdbeneaaDoor
open Go.RowKit Go.Con Go.Conc
local instance:Lone:=zcG
theorem Sl.old {w w' : World} {v:Value} {sz:Nat} {xs:List (List Value)} (h:Sl w v sz xs) (o:Old w w'):Sl w' v sz xs:=by
 obtain⟨cap,h | ⟨b,off,h1,h2,h3⟩⟩:=h
 ·exact⟨cap,.inl h⟩
 ·exact⟨cap,.inr ⟨b,off,h1,jqc h2 o.size,fun j k l x hj hk=>(o.cell _ h2).trans (h3 j k l x hj hk)⟩⟩
theorem Kind.old {w w' : World} {v:Value} (h:Kind w v) (o:Old w w'):Kind w' v:=fun a n c hv=>o.kind _ (h a n c hv)
theorem Glob.old {w w' : World} (h:Glob w) (o:Old w w'):Glob w':=by
 have s:=h.size;have k:∀ {b i:Nat} {v:Value},b<2→w.cell? ⟨b,i,none⟩=some v→w'.cell? ⟨b,i,none⟩=some v:=fun hb hc=>(o.cell _ (by show _<_;exact jqc hb s)).trans hc;exact⟨Nat.le_trans s o.size,k (by omega) h.c0,k (by omega) h.c1,k (by omega) h.c2,k (by omega) h.c3,k (by omega) h.n0,k (by omega) h.n1⟩
theorem DitSl.old {w w' : World} {d:Dit} {r:zaR} (h:DitSl w d r) (o:Old w w'):DitSl w' d r :=
 ⟨h.holders.old o,h.turns.old o,h.feasts.old o,h.swaps.old o,h.loans.old o,h.plots.old o,h.cap0,h.cap13,fun v hv=>(h.kinds v hv).old o⟩
structure zmf (Wn W:World) (B M:Nat) (d:Dit) (l:Lg) (lv:Value):Prop where
 ok:d.Ok
 log:zkX d l
 clock : -100≤l.lo∧l.lo≤l.hi∧l.hi≤100
 wtr:Wtr Wn B M d d.ends d.cyc d.keys d.oth
 sl:Sl Wn lv 3 (l.ops.map three)
 kd:Kind Wn lv
 glob:Glob W
 old:Old Wn W
 two:2≤Wn.heap.size
def kks:Nat→List Nat
 | 0=>[]
 | j+1=>j :: kks j
theorem zfc:∀ j,(kks j).length=j
 | 0=>rfl
 | j+1=>by simp [kks,zfc j]
def zcx (B0:Nat) (d:Dit) (l:Lg) (kk:Nat):Hand:=zc3 B0 (KW d l (l.lo+kk))
def capN (l:Lg):Nat:=(l.hi-l.lo+1).toNat
theorem znW:(List.range 162).all (zbM Tryd.prog)=true:=by kernel_rfl
theorem zmH:∀ t,zbM Tryd.prog t=true:=by
 intro t;by_cases h:t<162
 ·exact List.all_eq_true.1 znW t (List.mem_range.2 h)
 ·have hs:Tryd.prog.types.size=162:=by kernel_rfl
  unfold zbM;rw [if_neg (show ¬ t<Tryd.prog.types.size by rw [hs];exact h)]
theorem zqs {w:World} (h:Glob w):∀ b,b<Tryd.prog.globals.size→zgp w b:=by
 intro b hb;have hs:Tryd.prog.globals.size=2:=by kernel_rfl
 rw [hs] at hb;rcases b with _ | _ | b
 ·exact .inl (zbr h.n0)
 ·exact .inl (zbr h.c0)
 ·omega
theorem zhu (m:Bool):∀ f,F73.fn f→zaL Tryd.prog (.func f)=true→okFn Tryd.prog m f:=by
 intro f hf hg;have:f=49:=by simpa [Fence.list] using hf
 subst this;have h0:zaL Tryd.prog (.func 49)=false:=by kernel_rfl
 rw [h0] at hg;cases hg
end Go.Proofs.YtbbanmifdbeneaaDoor
