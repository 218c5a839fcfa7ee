import Derived.Test.YtedomogjmhommaaH47
import Derived.Test.YtedomogjmhommaaH49
import Derived.Test.YtedomogjmhommaaChecked
import Derived.Test.YtedomogjmhommaaRows
import Derived.ProofKit
import Derived.LaidMore
import Derived.OpenShut
import Derived.Stop.Joined
import Derived.Conc.LeavingOf
import Derived.Conc.Holds
set_option linter.all false
set_option maxRecDepth 100000
set_option maxHeartbeats 8000000
namespace Go.Proofs.Ytedomogjmhommaa
open Go.RowKit
theorem zku (d:Dry) (r:R2) (k:Nat) (x:Stp) (s:St) (w:World) (hd:DrySl w d r) (hk:d.steps[k]?=some x) :
 CallsIn FW 0 Try.prog 37 #[d.val r,num k,s.val] w fun e w'=>e=.returned (.bool (za5 x s))∧Nx w w':=by
 obtain⟨rh,rs⟩:=r
 obtain⟨ha,hcap,rfl⟩:=hd.heats.cases
 obtain⟨sa,scap,rfl⟩:=hd.steps.cases
 have hkl:k<d.steps.length:=(List.getElem?_eq_some_iff.1 hk).1
 have hs:=hd.sl
 obtain⟨b,off,rfl,hbl,hcl⟩:=hd.steps.get (by simp;omega)
 rw [List.length_map,List.length_map] at *
 have E0:∀ i v,(Stp.cells x)[i]?=some v→w.cell? ⟨b,off+k * 6+i,none⟩=some v:=fun i v h=>Sl.at hcl (Nx.refl w) hbl hk i h
 have j1:=fun (w1:World)=>zbM s.w x.wlo x.whi w1
 clear hd hcl
 obtain⟨kb,hkb⟩:∃ kb,za5 x s=kb:=⟨_,rfl⟩
 rw [hkb]
 have HKB:=Lib.hid hkb
 clear hkb hk
 gi_enter Try.func37,Try.ntmps37
 gi_upto_region 1 with fail
 generalize hW:(w.alloc _).alloc _=W
 obtain⟨nW,sW,g0,g1⟩:=al2 hW
 have kW:∀ i v,(Stp.cells x)[i]?=some v→W.cell? ⟨b,off+k * 6+i,none⟩=some v:=fun i v h=>(nW.cell (p:=⟨b,_,none⟩) (by exact hbl)).trans (E0 i v h)
 have e0:W.cell? ⟨b,off+k * 6,none⟩=some (num x.lo):=kW 0 _ rfl
 have e1:=kW 1 (num x.hi) rfl
 have e2:=kW 2 (.bool x.tended) rfl
 have e3:=kW 3 (num x.wlo) rfl
 have e4:=kW 4 (num x.whi) rfl
 have e5:=kW 5 (num x.col) rfl
 have c6:W.cell? ⟨w.heap.size,6,none⟩=some (.slice (some ⟨b,off,none⟩) d.steps.length scap):=zaa g0 rfl
 have s0:W.cell? ⟨w.heap.size+1,0,none⟩=some (num s.w):=zaa g1 rfl
 have s1:W.cell? ⟨w.heap.size+1,1,none⟩=some (num s.c):=zaa g1 rfl
 clear hW kW E0
 gi_upto_region 2 with fail
 generalize hV:W.alloc _=V
 obtain⟨nV,sV,g2⟩:=al1 hV
 rw [sW] at g2
 have s0:=(nV.cell (p:=⟨w.heap.size+1,0,none⟩) (by show _<_;simp only;omega)).trans s0
 have s1:=(nV.cell (p:=⟨w.heap.size+1,1,none⟩) (by show _<_;simp only;omega)).trans s1
 have t3:V.cell? ⟨w.heap.size+2,3,none⟩=some (num x.wlo):=zaa g2 rfl
 have t4:V.cell? ⟨w.heap.size+2,4,none⟩=some (num x.whi):=zaa g2 rfl
 have t5:V.cell? ⟨w.heap.size+2,5,none⟩=some (num x.col):=zaa g2 rfl
 have nV:=nW.trans nV
 clear hV e0 e1 e2 e3 e4 e5 c6 g0 g1 g2
 by_cases h:x.wlo≤s.w∧s.w≤x.whi
 ·have b1:=decide_eq_true h
  have HK:Hid (kb=decide (s.c≥x.col)):=by show _=_;rw [← HKB.out];unfold za5;rw [b1];rfl
  clear h
  gi_wp2_with (first | ((gi_at_call 58;refine CallsIn.mono (by (with_reducible exact j1 _)) ?_;rintro e w1 ⟨rfl,hw1⟩;replace hw1:=hw1.symm;subst hw1)) | gi_in)
  all_goals (go_ret;exact⟨by rw [HK.out]<;>rfl,nV⟩)
 ·have b1:=decide_eq_false h
  have HK:Hid (kb=false):=by show _=_;rw [← HKB.out];unfold za5;rw [b1];rfl
  clear h
  gi_wp2_with (first | ((gi_at_call 58;refine CallsIn.mono (by (with_reducible exact j1 _)) ?_;rintro e w1 ⟨rfl,hw1⟩;replace hw1:=hw1.symm;subst hw1)) | gi_in)
  all_goals (go_ret;exact⟨by rw [HK.out]<;>rfl,nV⟩)
end Go.Proofs.Ytedomogjmhommaa
namespace Go.Proofs.Ytedomogjmhommaa
open Go.RowKit
theorem zfx (d:Dry) (r:R2) (u1 u2:Value) (plan air:List Int) (w:World) (hd:DrySl w d r) (hO:d.Ok) (hP:PA d plan air) (hpl:plan.length=d.steps.length) (h1:Sl w u1 1 (plan.map one)) (h2:Sl w u2 1 (air.map one)) (hl:plan.length≤1000000000) :
  CallsIn FW 0 Try.prog 40 #[d.val r,u1,u2] w fun e w'=>e=.returned (num (brk d (zaq d d.start plan air)))∧Nx w w':=by
 have k82:=fun (w1:World) (n:Nx w w1)=>zfA d r u1 u2 plan air w1 (hd.nx n) hO hP (h1.nx n) (h2.nx n) hl
 have k37:=fun (k:Nat) (x:Stp) (hx:d.steps[k]?=some x) (s:St) (w1:World) (n:Nx w w1)=>zku d r k x s w1 (hd.nx n) hx
 have hlen:=zbu d d.start plan air hP.len
 generalize hLs:zaq d d.start plan air=l at *
 obtain⟨a1,cap1,rfl⟩:=h1.cases
 obtain⟨a2,cap2,rfl⟩:=h2.cases
 obtain⟨rh,rs⟩:=r
 obtain⟨ha,hcap,hrs⟩:=hd.heats.cases
 dsimp only at hrs
 subst hrs
 obtain⟨sa,scap,hrs⟩:=hd.steps.cases
 dsimp only at hrs
 subst hrs
 rw [List.length_map,List.length_map] at *
 rw [List.length_map,List.length_map] at *
 clear hd h1 h2 hP hO
 have HL:=Lib.hid hpl
 have HL2:=Lib.hid hlen
 obtain⟨g,hg⟩:∃ g,brk d l=g:=⟨_,rfl⟩
 rw [hg]
 have HG:=Lib.hid hg
 have hll:l.length≤1000000000:=by omega
 clear hg hpl hlen hLs
 gi_enter Try.func40,Try.ntmps40
 gi_upto_region 1 with fail
 generalize hW:w.alloc _=W
 obtain⟨nW,hbW⟩:=DBox.of (d:=d) (r:=⟨_,_⟩) hW
 clear hW
 generalize hA:w.heap.size=A at *
 have c0:=hbW.at' 0 _ rfl
 have c1:=hbW.at' 1 _ rfl
 have c2:=hbW.at' 2 _ rfl
 have c3:=hbW.at' 3 _ rfl
 have c4:=hbW.at' 4 _ rfl
 have c5:=hbW.at' 5 _ rfl
 have c6:=hbW.at' 6 _ rfl
 gi_upto_region 2 with (first | (gi_at_call 82;refine CallsIn.mono (k82 _ nW) ?_;rintro e w2 ⟨v,rfl,n2,hrow⟩) | gi_in)
 have nw2:=nW.trans n2
 have hb2:=hbW.nx n2
 rw [← HL2.out] at hrow
 have HS:=Lib.hid (zlB hrow)
 obtain⟨va,vcap,rfl⟩:=zaB hrow
 clear c0 c1 c2 c3 c4 c5 c6 hrow k82
 gi_wp2
 gi_loopw [8] (fun i wr=>∃ k:Nat,k≤l.length∧i=num k∧(∀ j,j<k→zeD d l j=false)∧Nx w2 wr) (fun i _=>l.length-(intOf i).toNat)
 case atStart=>exact⟨0,Nat.zero_le _,rfl,fun j h=>absurd h (Nat.not_lt_zero _),Nx.refl _⟩
 case round =>
  obtain⟨k,hk,rfl,hno,nr⟩:=hrel
  have HN:=Lib.hid hno
  clear hno
  have nwr:=nw2.trans nr
  have hbr:=hb2.nx nr
  by_cases hlt:k<l.length
  ·obtain⟨b,off,rfl,hbl,hcl⟩:=(HS.out).get (by simp;omega)
   have hks:k<d.steps.length:=by have:=HL.out;have:=HL2.out;omega
   have hh:l[k]?=some l[k]:=List.getElem?_eq_getElem hlt
   have hx:d.steps[k]?=some d.steps[k]:=List.getElem?_eq_getElem hks
   generalize l[k]=s at hh
   generalize d.steps[k]=x at hx
   have hbk:zeD d l k=!za5 x s:=by unfold zeD;rw [hx,hh]
   have e0:wr.cell? ⟨b,off+k * 3,none⟩=some (num s.w):=Sl.at hcl nr hbl hh 0 (v:=num s.w) rfl
   have e1:wr.cell? ⟨b,off+k * 3+1,none⟩=some (num s.c):=Sl.at hcl nr hbl hh 1 (v:=num s.c) rfl
   have e2:wr.cell? ⟨b,off+k * 3+2,none⟩=some (num s.h):=Sl.at hcl nr hbl hh 2 (v:=num s.h) rfl
   have k37:=k37 k x hx s
   have c0:=hbr.at' 0 _ rfl
   have c1:=hbr.at' 1 _ rfl
   have c2:=hbr.at' 2 _ rfl
   have c3:=hbr.at' 3 _ rfl
   have c4:=hbr.at' 4 _ rfl
   have c5:=hbr.at' 5 _ rfl
   have c6:=hbr.at' 6 _ rfl
   clear hcl hh hx
   have HBK:=Lib.hid hbk
   clear hbk
   gi_upto_region 5 with fail
   refine zaX 6 rfl (by kernel_rfl) (by kernel_rfl) ?_
   simp only [List.take_succ_cons,List.take_zero,List.drop_succ_cons,List.drop_zero]
   repeat (gi_big_quiet_step (fail))
   refine wpQuietIn_nil ?_
   rintro w' ⟨nq,rfl⟩
   have nq4:Nx wr (wr.drewN nq):=(Nx.refl wr).drewN nq
   generalize wr.drewN nq=w4 at nq4 ⊢
   have k37:=k37 w4 (nwr.trans nq4)
   cases hkp:za5 x s with
   | false =>
    rw [hkp] at k37
    have HR:Hid (g=(k:Int)):=by show _=_;rw [← HG.out];exact zcN HN.out hlt (by rw [HBK.out,hkp];rfl)
    gi_wp2_with (first | (gi_at_call 37;refine CallsIn.mono k37 ?_;rintro e w5 ⟨rfl,n5⟩) | gi_in)
    go_ret
    exact⟨by rw [HR.out]<;>rfl,nwr.trans (nq4.trans n5)⟩
   | true =>
    rw [hkp] at k37
    have HN2:=Lib.hid (show ∀ j,j<k+1→zeD d l j=false from fun j hj=>by
     rcases Nat.lt_succ_iff_lt_or_eq.1 hj with hj | rfl
     ·exact HN.out j hj
     ·rw [HBK.out,hkp];rfl)
    gi_wp2_with (first | (gi_at_call 37;refine CallsIn.mono k37 ?_;rintro e w5 ⟨rfl,n5⟩) | gi_in)
    exact⟨⟨k+1,hlt,by simp,HN2.out,nr.trans (nq4.trans n5)⟩,by simp [intOf];omega⟩
  ·obtain rfl:k=l.length:=by omega
   have HR:Hid (g=-1):=by show _=_;rw [← HG.out];exact zdg HN.out
   gi_wp2
   go_ret
   exact⟨by rw [HR.out]<;>rfl,nwr⟩
end Go.Proofs.Ytedomogjmhommaa
namespace Go.Proofs.Ytedomogjmhommaa
open Go.RowKit Go.Shelf
theorem zij {α β:Type} (f:α→β):∀ l:List α,(l.flatMap fun a=>[f a])=l.map f
 | []=>rfl
 | a :: l=>by rw [List.flatMap_cons,zij f l];rfl
theorem zdV {α β:Type} {f g:α→List β} (h:∀ a,f a=g a) (l:List α):l.flatMap f=l.flatMap g:=by rw [show f=g from funext h]
def zcL (d:Dry):Nat→List (List Int)
 | 0=>[[]]
 | i+1=>match d.steps[i]? with | some x=>(zcL d i).flatMap fun p=>x.damps.map fun a=>p++[a] | none=>[]
theorem zef {d:Dry} {i:Nat} {x:Stp} (h:d.steps[i]?=some x):zcL d (i+1)=(zcL d i).flatMap fun p=>x.damps.map fun a=>p++[a]:=by rw [zcL,h]
theorem zfc (x:Stp):∀ xs:List Stp,zaH (xs++[x])=(zaH xs).flatMap fun p=>x.damps.map fun a=>p++[a]
 | []=>by
  show (x.damps.flatMap fun a=>[[a]])=(x.damps.map fun a=>[a])++[]
  rw [zij,List.append_nil]
 | y :: xs=>by
  show (y.damps.flatMap fun a=>(zaH (xs++[x])).map (a :: ·))=(y.damps.flatMap fun a=>(zaH xs).map (a :: ·)).flatMap _
  rw [zfc x xs,List.flatMap_assoc]
  refine zdV (fun a=>?_) _
  rw [List.map_flatMap,List.flatMap_map]
  refine zdV (fun p=>?_) _
  rw [List.map_map]
  rfl
theorem zcn {α:Type} {l:List α} {i:Nat} {x:α} (h:l[i]?=some x):l.take (i+1)=l.take i++[x]:=by rw [List.take_succ,h];rfl
theorem ziV (d:Dry):∀ i,i≤d.steps.length→zcL d i=zaH (d.steps.take i)
 | 0,_=>rfl
 | i+1,hi=>by
  have hx:d.steps[i]?=some d.steps[i]:=List.getElem?_eq_getElem (by omega)
  rw [zef hx,ziV d i (by omega),zcn hx,zfc]
theorem zhw (d:Dry):zcL d d.steps.length=zaH d.steps:=by rw [ziV d _ (Nat.le_refl _),List.take_length]
def mays (d:Dry) (x:Stp) (was:Int):List Nat:=(List.range d.heats.length).filter fun h=>mayB d.heats.length x was h
def zbs (d:Dry):List Stp→Int→List (List Int)
 | [],_=>[[]]
 | x :: xs,was=>(mays d x was).flatMap fun h:Nat=>(zbs d xs h).map ((h:Int) :: ·)
def zbY (d:Dry):Nat→List (List Int)
 | 0=>[[]]
 | i+1=>match d.steps[i]? with | some x=>(zbY d i).flatMap fun p=>(mays d x (p.getLastD d.start.h)).map fun h:Nat=>p++[(h:Int)] | none=>[]
theorem zdE {d:Dry} {i:Nat} {x:Stp} (h:d.steps[i]?=some x):zbY d (i+1)=(zbY d i).flatMap fun p=>(mays d x (p.getLastD d.start.h)).map fun h:Nat=>p++[(h:Int)]:=by rw [zbY,h]
theorem zgV (d:Dry) (x:Stp):∀ (xs:List Stp) (was:Int),zbs d (xs++[x]) was=(zbs d xs was).flatMap fun p=>(mays d x (p.getLastD was)).map fun h:Nat=>p++[(h:Int)]
 | [],was=>by
  show ((mays d x was).flatMap fun h:Nat=>[[(h:Int)]])=((mays d x was).map fun h:Nat=>[(h:Int)])++[]
  rw [zij (fun h:Nat=>[(h:Int)]),List.append_nil]
 | y :: xs,was=>by
  show ((mays d y was).flatMap fun h:Nat=>(zbs d (xs++[x]) h).map ((h:Int) :: ·))=((mays d y was).flatMap fun h:Nat=>(zbs d xs h).map ((h:Int) :: ·)).flatMap _
  rw [List.flatMap_assoc]
  refine zdV (fun h=>?_) _
  rw [zgV d x xs,List.map_flatMap,List.flatMap_map]
  refine zdV (fun p=>?_) _
  rw [List.map_map,List.getLastD_cons]
  rfl
theorem zhT (d:Dry):∀ i,i≤d.steps.length→zbY d i=zbs d (d.steps.take i) d.start.h
 | 0,_=>rfl
 | i+1,hi=>by
  have hx:d.steps[i]?=some d.steps[i]:=List.getElem?_eq_getElem (by omega)
  rw [zdE hx,zhT d i (by omega),zcn hx,zgV]
theorem zgW (d:Dry):zbY d d.steps.length=zbs d d.steps d.start.h:=by rw [zhT d _ (Nat.le_refl _),List.take_length]
end Go.Proofs.Ytedomogjmhommaa
namespace Go.Proofs.Ytedomogjmhommaa
open Go.RowKit Go.Shelf
theorem T117:ElemT 117 38 (.slice none 0 0) 1 24:=.mk' Try.underlying117 (by kernel_rfl) (by kernel_rfl) (by decide)
theorem zb8 (vs:List Value):(vs.map fun u=>[u]).flatten=vs:=by
 induction vs with
 | nil=>rfl
 | cons a l ih=>rw [List.map_cons,List.flatten_cons,ih];rfl
def ISets (w:World) (v:Value) (M:List (List Int)):Prop:=∃ vs:List Value,Sl w v 1 (vs.map fun u=>[u])∧vs.length=M.length∧∀ (i:Nat) (u:Value) (l:List Int),vs[i]?=some u→M[i]?=some l→Sl w u 1 (l.map one)
theorem ISets.nx {w w' : World} {v:Value} {M:List (List Int)} (h:ISets w v M) (n:Nx w w'):ISets w' v M:=by
 obtain⟨vs,h1,h2,h3⟩:=h
 exact⟨vs,h1.nx n,h2,fun i u l hu hl=>(h3 i u l hu hl).nx n⟩
def IRows (W:World) (N:Nat) (v:Value) (M:List (List Int)) (vs:List Value):Prop :=
 W.ownsRow N 38 1 v vs.length vs∧vs.length=M.length∧∀ (j:Nat) (u:Value) (l:List Int),vs[j]?=some u→M[j]?=some l→W.ownsRow N 3 1 u l.length (l.map num)∧∀ g,u.ownBlock=some g→v.ownBlock≠some g
theorem IRows.sets {W:World} {N:Nat} {v:Value} {M:List (List Int)} {vs:List Value} (h:IRows W N v M vs):ISets W v M :=
 ⟨vs,zcF (n:=vs.length) (by simp) (by simp) (by rw [zb8];exact h.1),h.2.1,fun i u l hu hl=>zcF (n:=l.length) (zjv l) (by simp) (by rw [zcj];exact (h.2.2 i u l hu hl).1)⟩
theorem IRows.nx {W W' : World} {N:Nat} {v:Value} {M:List (List Int)} {vs:List Value} (h:IRows W N v M vs) (n:Nx W W'):IRows W' N v M vs :=
 ⟨zck h.1 n,h.2.1,fun j u l hu hl=>⟨zck (h.2.2 j u l hu hl).1 n,(h.2.2 j u l hu hl).2⟩⟩
theorem IRows.nil (W:World) (N:Nat):IRows W N (.slice none 0 0) [] []:=⟨World.ownsRow_nil ..,rfl,fun j u l h=>by simp at h⟩
theorem IRows.base {W:World} {N N' : Nat} {v:Value} {M:List (List Int)} {vs:List Value} (h:IRows W N v M vs) (hN:N'≤N):IRows W N' v M vs:=by
 have key:∀ {e sz n:Nat} {u:Value} {xs:List Value},W.ownsRow N e sz u n xs→W.ownsRow N' e sz u n xs:=by
  rintro e sz n u xs ⟨h1,h2⟩
  refine⟨h1,h2.imp id ?_⟩
  rintro ⟨g,cap,cur,rfl,hb,r⟩
  exact⟨g,cap,cur,rfl,by omega,r⟩
 exact⟨key h.1,h.2.1,fun j u l hu hl=>⟨key (h.2.2 j u l hu hl).1,(h.2.2 j u l hu hl).2⟩⟩
theorem IRows.snoc {W W' : World} {N:Nat} {v v' u:Value} {M:List (List Int)} {vs:List Value} {l:List Int} {o:Obj} (h:IRows W N v M vs) (hu:W.ownsRow N 3 1 u l.length (l.map num)) (hap:∀ g,u.ownBlock=some g→v.ownBlock≠some g)
  (hown:W'.ownsRow N 38 1 v' (vs.length+1) ((vs.map fun u=>[u])++[[u]]).flatten) (hg:(W.alloc o).grownBy W' v.ownBlock) (hat:v'.ownBlock=v.ownBlock∨v'.ownBlock=some (W.alloc o).heap.size):IRows W' N v' (M++[l]) (vs++[u]):=by
 have key:∀ {n:Nat} {u:Value} {xs:List Value},W.ownsRow N 3 1 u n xs→(∀ g,u.ownBlock=some g→v.ownBlock≠some g)→W'.ownsRow N 3 1 u n xs∧∀ g,u.ownBlock=some g→v'.ownBlock≠some g:=fun ho ha=>by
  refine⟨zbn (zbi ho o) fun g hg'=>hg.block g (by have:=(ho.lt g hg').2;simp;omega) (fun e=>ha g hg' e.symm),fun g hg' e=>?_⟩
  rcases hat with h1 | h1
  ·exact ha g hg' (h1 ▸ e)
  ·rw [h1] at e
   have:=(ho.lt g hg').2
   simp at e
   omega
 refine⟨by rw [List.length_append];rw [List.flatten_append,zb8] at hown;exact hown,by rw [List.length_append,List.length_append,h.2.1];rfl,fun j u' l' hu' hl'=>?_⟩
 rcases Nat.lt_or_ge j vs.length with hj | hj
 ·rw [List.getElem?_append_left hj] at hu'
  rw [List.getElem?_append_left (by rw [← h.2.1];exact hj)] at hl'
  exact key (h.2.2 j u' l' hu' hl').1 (h.2.2 j u' l' hu' hl').2
 ·rw [List.getElem?_append_right hj] at hu'
  rw [List.getElem?_append_right (by rw [← h.2.1];exact hj),← h.2.1] at hl'
  have hj2:j-vs.length=0:=by
   have:=(List.getElem?_eq_some_iff.1 hu').1
   simp at this
   omega
  rw [hj2] at hu' hl'
  simp only [List.getElem?_cons_zero,Option.some.injEq] at hu' hl'
  subst hu' hl'
  exact key hu hap
theorem zeg {d:Dry} (hO:d.Ok):∀ i,(zcL d i).length≤4 ^ i∧∀ l∈zcL d i,l.length=i
 | 0=>⟨Nat.le_refl _,fun l hl=>by rw [List.mem_singleton.1 hl];rfl⟩
 | i+1=>by
  obtain⟨h1,h2⟩:=zeg hO i
  cases hx:d.steps[i]? with
  | none=>rw [zcL,hx];exact⟨Nat.zero_le _,fun l hl=>by cases hl⟩
  | some x =>
   rw [zef hx]
   have h4:=zgy (hO.st x (List.mem_of_getElem? hx)).1
   refine⟨?_,fun l hl=>?_⟩
   ·have:∀ L:List (List Int),(L.flatMap fun p=>x.damps.map fun a=>p++[a]).length≤4 * L.length:=by
     intro L
     induction L with
     | nil=>simp
     | cons a L ih=>rw [List.flatMap_cons,List.length_append,List.length_map,List.length_cons];omega
    have:=this (zcL d i)
    rw [Nat.pow_succ]
    omega
   ·obtain⟨p,hp,h⟩:=List.mem_flatMap.1 hl
    obtain⟨a,_,rfl⟩:=List.mem_map.1 h
    simp [h2 p hp]
theorem zeN {F:List Int→List (List Int)} {m:Nat} (h:∀ p,(F p).length≤m):∀ L:List (List Int),(L.flatMap F).length≤m * L.length
 | []=>Nat.zero_le _
 | p :: L=>by
  have:=zeN h L
  have:=h p
  rw [List.flatMap_cons,List.length_append,List.length_cons,Nat.mul_succ]
  omega
theorem zjh {α β:Type} (f:α→List β) {L:List α} {k:Nat} {p:α} (h:L[k]?=some p):(L.take (k+1)).flatMap f=(L.take k).flatMap f++f p:=by rw [zcn h,List.flatMap_append];simp
theorem zfb (d:Dry) (r:R2) (w:World) (hd:DrySl w d r) (hO:d.Ok):CallsIn FW 0 Try.prog 69 #[d.val r] w fun e w'=>∃ v,e=.returned v∧Nx w w'∧ISets w' v (zaH d.steps):=by
 rw [← zhw]
 obtain⟨rh,rs⟩:=r
 obtain⟨ha,hcap,e1⟩:=hd.heats.cases
 obtain⟨sa,scap,e2⟩:=hd.steps.cases
 dsimp only at e1 e2
 rw [List.length_map] at e1 e2
 subst e1 e2
 have hs5:=hO.s5
 have HS:=Lib.hid hd.steps
 have HO:=Lib.hid hO
 have HL:=Lib.hid (zeg hO)
 clear hd hO
 gi_enter Try.func69,Try.ntmps69
 gi_upto_region 1 with fail
 generalize hW:w.alloc _=W
 obtain⟨nW,sW,g0⟩:=al1 hW
 clear hW
 have hbW:DBox W w.heap.size d ⟨.slice ha d.heats.length hcap,.slice sa d.steps.length scap⟩:=⟨by omega,fun i v h=>zaa g0 h⟩
 have c6:=hbW.at' 6 _ rfl
 generalize hA:w.heap.size=A at *
 gi_upto_region 2 with fail
 generalize hX:W.alloc _=X
 obtain⟨nX,sX,gX⟩:=al1 hX
 clear hX
 have hbX:=hbW.nx nX
 have nwX:=nW.trans nX
 have i0:IRows X (A+1) (.slice (some ⟨A+1,0,none⟩) 1 1) (zcL d 0) [.slice none 0 0]:=by
  rw [show W.heap.size=A+1 by omega] at gX
  refine⟨⟨rfl,.inr ⟨A+1,1,_,rfl,by omega,gX,Nat.le_refl _,by simp [maxLen],by simp,by simp⟩⟩,rfl,fun j u l hu hl=>?_⟩
  have hj:j=0:=by have:=(List.getElem?_eq_some_iff.1 hu).1;simp at this;omega
  subst hj
  cases hu
  cases hl
  exact⟨World.ownsRow_nil ..,fun g hg=>by cases hg⟩
 clear gX g0 c6
 gi_wp2
 gi_loopw [3,4] (fun v i wr=>∃ (k:Nat) (vs:List Value),k≤d.steps.length∧i=num k∧IRows wr (A+1) v (zcL d k) vs∧Nx w wr∧DBox wr A d ⟨.slice ha d.heats.length hcap,.slice sa d.steps.length scap⟩) (fun _ i _=>d.steps.length-(intOf i).toNat)
 case atStart=>exact⟨0,_,Nat.zero_le _,rfl,i0,nwX,hbX⟩
 case round =>
  obtain⟨WR,hren⟩:∃ z,z=wr:=⟨_,rfl⟩
  subst hren
  obtain⟨k,vs,hk,rfl,hI,nr,hbr⟩:=hrel
  have c6:=hbr.at' 6 _ rfl
  by_cases hlt:k<d.steps.length
  ·have hx:d.steps[k]?=some d.steps[k]:=List.getElem?_eq_getElem hlt
   generalize d.steps[k]=x at hx
   have hst:=(HO.out.st x (List.mem_of_getElem? hx)).1
   have hup:=Lib.hid (zef hx)
   have hd4:=zgy hst
   obtain⟨hM1,hM2⟩:=HL.out k
   have hM3:4 ^ k≤1024:=Nat.le_trans (Nat.pow_le_pow_right (by omega) (show k≤5 by omega)) (by decide)
   have hvl:=hI.2.1
   obtain⟨va3,c3,e5⟩:=zaB hI.1
   rw [hvl] at e5
   subst e5
   have HI:=Lib.hid hI
   have HVL:=Lib.hid hvl
   obtain⟨sb,soff,rfl,hsb,hsc⟩:=(HS.out).get (by simp;omega)
   have e0:WR.cell? ⟨sb,soff+k * 6,none⟩=some (num x.lo):=by have:=Sl.at (en:=Stp.cells) hsc nr hsb hx 0 (v:=num x.lo) rfl;simpa using this
   have e1:WR.cell? ⟨sb,soff+k * 6+1,none⟩=some (num x.hi):=Sl.at (en:=Stp.cells) hsc nr hsb hx 1 (v:=num x.hi) rfl
   have hsb2:sb<WR.heap.size:=Nat.lt_of_lt_of_le hsb nr.size
   have hsl:Sl WR (.slice va3 (zcL d k).length c3) 1 (vs.map fun u=>[u]):=zcF (n:=vs.length) (by simp) (by simp) (by rw [zb8];exact hI.1)
   have HSL:=Lib.hid hsl
   have HX:=Lib.hid hx
   have HSC:=Lib.hid hsc
   clear hI hsl hx hsc hvl
   generalize zcL d k=M at *
   have hdl:x.damps=zbj x.lo (x.hi+1-x.lo).toNat:=rfl
   gi_wp2
   gi_loopw [5,6] (fun v5 i wi=>∃ (q:Nat) (us:List Value),q≤M.length∧i=num q∧IRows wi WR.heap.size v5 ((M.take q).flatMap fun p=>x.damps.map fun a=>p++[a]) us∧Nx WR wi) (fun _ i _=>M.length-(intOf i).toNat)
   case atStart=>exact⟨0,[],Nat.zero_le _,rfl,IRows.nil _ _,Nx.refl _⟩
   case round =>
    obtain⟨WI,hren⟩:∃ z,z=wr:=⟨_,rfl⟩
    subst hren
    obtain⟨q,us,hq,rfl,hJ,ni⟩:=hrel
    have hbi:=hbr.nx ni
    have i6:=hbi.at' 6 _ rfl
    by_cases hlt2:q<M.length
    ·have hp:M[q]?=some M[q]:=List.getElem?_eq_getElem hlt2
     have hpl:=hM2 _ (List.mem_of_getElem? hp)
     generalize M[q]=p at hp hpl
     have hu:vs[q]?=some (vs[q]'(by rw [HVL.out];exact hlt2)):=List.getElem?_eq_getElem _
     generalize vs[q]'(by rw [HVL.out];exact hlt2)=u at hu
     have hrow:=(HI.out.2.2 q u p hu hp).1
     obtain⟨ua,uc,rfl⟩:=zaB hrow
     have hus:Sl WR (.slice ua p.length uc) 1 (p.map one):=zcF (n:=p.length) (zjv p) (by simp) (by rw [zcj];exact hrow)
     obtain⟨b3,o3,rfl,hb3,hc3⟩:=(HSL.out).get (by rw [List.length_map,HVL.out];omega)
     have lk:WR.cell? ⟨b3,o3+q,none⟩=some (.slice ua p.length uc):=by
      have:=hc3 q 0 [.slice ua p.length uc] _ (by rw [List.getElem?_map,hu];rfl) rfl
      simpa using this
     have HFT:Hid (((M.take (q+1)).flatMap fun p=>x.damps.map fun a=>p++[a])=((M.take q).flatMap fun p=>x.damps.map fun a=>p++[a])++x.damps.map fun a=>p++[a]):=zjh (fun p=>x.damps.map fun a=>p++[a]) hp
     have hfl:=zeN (F:=fun p=>x.damps.map fun a=>p++[a]) (m:=4) (fun p=>by rw [List.length_map];exact hd4) (M.take q)
     rw [List.length_take] at hfl
     have f0:=(ni.cell (p:=⟨sb,soff+k * 6,none⟩) hsb2).trans e0
     have HPL:=Lib.hid (show p.length≤5 by omega)
     clear hp hu hrow hc3 hpl
     generalize hF:((M.take q).flatMap fun p=>x.damps.map fun a=>p++[a])=D at *
     gi_wp2
     gi_loopw [5,7] (fun v5 a wj=>∃ (c:Nat) (us:List Value),x.lo+c≤x.hi+1∧a=num (x.lo+c)∧IRows wj WR.heap.size v5 (D++(zbj x.lo c).map fun a=>p++[a]) us∧Nx WR wj) (fun _ a _=>(x.hi+1-intOf a).toNat)
     case atStart=>exact⟨0,us,by omega,by simp,by simpa [zbj] using hJ,ni⟩
     case round =>
      obtain⟨WJ,hren⟩:∃ z,z=wr:=⟨_,rfl⟩
      subst hren
      obtain⟨c,us',hc,rfl,hK,nj⟩:=hrel
      have hbj:=hbr.nx nj
      have j6:=hbj.at' 6 _ rfl
      have f1:=(nj.cell (p:=⟨sb,soff+k * 6+1,none⟩) hsb2).trans e1
      by_cases hle:x.lo+c≤x.hi
      ·have lkj:=(nj.cell (p:=⟨b3,o3+q,none⟩) hb3).trans lk
       have husj:=hus.nx nj
       have hnj:=nj.size
       have lkj2:(WJ.alloc (.cells #[] 3)).cell? ⟨b3,o3+q,none⟩=some (.slice ua p.length uc):=((zaj (Nx.refl WJ) _).cell (by exact Nat.lt_of_lt_of_le hb3 hnj)).trans lkj
       obtain⟨va5,c5,rfl⟩:=zaB hK.1
       have hul:=hK.2.1
       rw [List.length_append,List.length_map,zcz] at hul
       have HK:=Lib.hid hK
       have HN:=Lib.hid nj
       have HU:=Lib.hid husj
       clear hK nj husj
       gi_wp2_with (first
        | (gi_at_builtin;refine zcx T38 rfl _ _ rfl rfl WR.heap.size (.slice (some ⟨WJ.heap.size,0,none⟩) 0 0) 0 [] rfl (zgb zaT hnj) rfl _ (p.map one) rfl (HU.out.nx (zaj (Nx.refl _) _)) (zjv _) (zoY _) (by have:=HPL.out;simp;omega) (by have:=HPL.out;simp;omega) (by simp;omega) ?_;intro v9 w9 o9 g9 a9;rw [List.nil_append,List.length_map] at o9;have n9:Nx WJ w9:=Below.grown (zaj (Nx.refl _) _) g9 (by simp) (fun r e=>by cases e;exact Nat.le_refl _);have q9:∀ g,v9.ownBlock=some g→WJ.heap.size≤g:=(fun g hg=>by rcases a9 with h | h<;>(rw [h] at hg;simp [Value.ownBlock] at hg;omega));obtain⟨y9,c9,rfl⟩:=zaB o9;simp only [Go.Act.put,List.setIfInBounds_toArray,List.set_cons_succ,List.set_cons_zero])
        | (gi_at_builtin;refine zaP T38 rfl _ _ rfl rfl WR.heap.size _ p.length (p.map one) rfl (zbi o9 _) (by simp) w9.heap.size [num (x.lo+c)] rfl zaT rfl (by simp [Value.oneCell']) (by have:=HPL.out;omega) (by have:=HPL.out;omega) (by have:=n9.size;simp;omega) ?_;intro v10 w10 o10 g10 a10;have s9:=n9.size;have n10:Nx WJ w10:=Below.grown (n9.trans (zaj (Nx.refl _) _)) g10 (by simp;omega) (fun r e=>q9 r e);have q10:∀ g,v10.ownBlock=some g→WJ.heap.size≤g:=(fun g hg=>by rcases a10 with h | h;exact q9 g (h ▸ hg);(rw [h] at hg;simp at hg;omega));obtain⟨y10,c10,rfl⟩:=zaB o10;simp only [Go.Act.put,List.setIfInBounds_toArray,List.set_cons_succ,List.set_cons_zero])
        | (gi_at_builtin;refine zaP T117 rfl _ _ rfl rfl WR.heap.size _ us'.length (us'.map fun u=>[u]) rfl (zbi (by rw [zb8];exact (HK.out.nx n10).1) _) (by simp) w10.heap.size [.slice y10 (p.length+1) c10] rfl zaT rfl (by simp [Value.oneCell']) (by omega) (by omega) (by have:=n10.size;simp;omega) ?_;intro v11 w11 o11 g11 a11;obtain⟨y11,c11,rfl⟩:=zaB o11;simp only [Go.Act.put,List.setIfInBounds_toArray,List.set_cons_succ,List.set_cons_zero]))
       have hlp:(p++[x.lo+c]).length=p.length+1:=by simp
       have hK11:=IRows.snoc (HK.out.nx n10) (l:=p++[x.lo+(c:Int)]) (by rw [hlp,List.map_append,← zcj];rw [List.flatten_append] at o10;exact o10) (fun g hg e=>by have:=q10 g hg;have:=(HK.out.1.lt g e).2;omega) o11 g11 a11
       have n11:Nx WR w11:=Below.grown (HN.out.trans (n10.trans (zaj (Nx.refl _) _))) g11 (by have:=n10.size;simp;omega) (fun g hg=>(HK.out.1.lt g hg).1)
       refine⟨⟨c+1,us'++[.slice y10 (p.length+1) c10],by omega,by simp;omega,?_,n11⟩,by simp [intOf];omega⟩
       rw [zcC,List.map_append,← List.append_assoc]
       exact hK11
      ·have hdc:x.damps=zbj x.lo c:=by rw [hdl,show (x.hi+1-x.lo).toNat=c by omega]
       rw [← hdc,← HFT.out] at hK
       have hK:=Lib.hid hK
       clear hJ
       gi_wp2
       exact⟨⟨q+1,us',by omega,by simp,hK.out,nj⟩,by simp [intOf];omega⟩
    ·obtain rfl:q=M.length:=by omega
     rw [List.take_length,← hup.out] at hJ
     have hJ:=Lib.hid hJ
     gi_wp2
     exact⟨⟨k+1,us,by omega,by simp,hJ.out.base (by have:=hbr.lt;omega),nr.trans ni,hbi⟩,by simp [intOf];omega⟩
  ·obtain rfl:k=d.steps.length:=by omega
   have hI:=Lib.hid hI
   obtain⟨va,vc,rfl⟩:=zaB hI.out.1
   gi_wp2
   go_ret
   exact⟨_,rfl,nr,hI.out.sets⟩
end Go.Proofs.Ytedomogjmhommaa
