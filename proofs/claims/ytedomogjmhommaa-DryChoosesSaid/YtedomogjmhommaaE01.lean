import Derived.Test.YtedomogjmhommaaC01
import Derived.Test.YtedomogjmhommaaC02
import Derived.Test.YtedomogjmhommaaC03
import Derived.Test.YtedomogjmhommaaC04
import Derived.Test.YtedomogjmhommaaC05
import Derived.Test.YtedomogjmhommaaC06
import Derived.Test.YtedomogjmhommaaC07
import Derived.Test.YtedomogjmhommaaC08
import Derived.Test.YtedomogjmhommaaC09
import Derived.Test.YtedomogjmhommaaC10
import Derived.Test.YtedomogjmhommaaC11
import Derived.Test.YtedomogjmhommaaC12
import Derived.Test.YtedomogjmhommaaC13
import Derived.Test.YtedomogjmhommaaC14
import Derived.Test.YtedomogjmhommaaC15
import Derived.Test.YtedomogjmhommaaC16
import Derived.Test.YtedomogjmhommaaC17
import Derived.Test.YtedomogjmhommaaC18
import Derived.Test.YtedomogjmhommaaC19
import Derived.Test.YtedomogjmhommaaC20
import Derived.Test.YtedomogjmhommaaC21
import Derived.Test.YtedomogjmhommaaC22
import Derived.Test.YtedomogjmhommaaC23
import Derived.Test.YtedomogjmhommaaC24
import Derived.Test.YtedomogjmhommaaC25
import Derived.Test.YtedomogjmhommaaC26
import Derived.Test.YtedomogjmhommaaC27
import Derived.Test.YtedomogjmhommaaC28
import Derived.Test.YtedomogjmhommaaC29
import Derived.Test.YtedomogjmhommaaC30
import Derived.Test.YtedomogjmhommaaC31
import Derived.Test.YtedomogjmhommaaC32
import Derived.Test.YtedomogjmhommaaC33
import Derived.Test.YtedomogjmhommaaC34
import Derived.Test.YtedomogjmhommaaC35
import Derived.Test.YtedomogjmhommaaC36
import Derived.Test.YtedomogjmhommaaC37
import Derived.Test.YtedomogjmhommaaC38
import Derived.Test.YtedomogjmhommaaC39
import Derived.Test.YtedomogjmhommaaC40
import Derived.Test.YtedomogjmhommaaC41
import Derived.Test.YtedomogjmhommaaC42
import Derived.Test.YtedomogjmhommaaC43
import Derived.Test.YtedomogjmhommaaC44
import Derived.Test.YtedomogjmhommaaC45
import Derived.Test.YtedomogjmhommaaC46
import Derived.Test.YtedomogjmhommaaC47
import Derived.Test.YtedomogjmhommaaC49
import Derived.Test.YtedomogjmhommaaChecked
import Derived.Test.YtedomogjmhommaaRows
import Derived.ProofKit
import Derived.LaidMore
import Derived.OpenShut
import Derived.Stop.Joined
import Derived.Conc.LeavingOf
import Derived.Conc.Holds
set_option linter.all false
set_option maxRecDepth 100000
set_option maxHeartbeats 8000000
namespace Go.Proofs.Ytedomogjmhommaa
open Go.RowKit
theorem keeps37_any (d:Dry) (r:R2) (k:Nat) (x:Stp) (s:St) (w:World) (hd:DrySl w d r) (hk:d.steps[k]?=some x) :
  CallsIn FW 0 Try.prog 37 #[d.val r,num k,s.val] w fun e w'=>e=.returned (.bool (keepsB x s))∧Nx w w':=by
 obtain⟨rh,rs⟩:=r
 obtain⟨ha,hcap,rfl⟩:=hd.heats.cases
 obtain⟨sa,scap,rfl⟩:=hd.steps.cases
 have hkl:k<d.steps.length:=(List.getElem?_eq_some_iff.1 hk).1
 have hs:=hd.sl
 obtain⟨b,off,rfl,hbl,hcl⟩:=hd.steps.get (by simp;omega)
 rw [List.length_map,List.length_map] at *
 have E0:∀ i v,(Stp.cells x)[i]?=some v→w.cell? ⟨b,off+k * 6+i,none⟩=some v:=fun i v h=>Sl.at hcl (Nx.refl w) hbl hk i h
 have j1:=fun (w1:World)=>in58_any s.w x.wlo x.whi w1
 clear hd hcl
 obtain⟨kb,hkb⟩:∃ kb,keepsB x s=kb:=⟨_,rfl⟩
 rw [hkb]
 have HKB:=Lib.hid hkb
 clear hkb hk
 gi_enter Try.func37,Try.ntmps37
 gi_upto_region 1 with fail
 generalize hW:(w.alloc _).alloc _=W
 obtain⟨nW,sW,g0,g1⟩:=al2 hW
 have kW:∀ i v,(Stp.cells x)[i]?=some v→W.cell? ⟨b,off+k * 6+i,none⟩=some v:=fun i v h=>(nW.cell (p:=⟨b,_,none⟩) (by exact hbl)).trans (E0 i v h)
 have e0:W.cell? ⟨b,off+k * 6,none⟩=some (num x.lo):=kW 0 _ rfl
 have e1:=kW 1 (num x.hi) rfl
 have e2:=kW 2 (.bool x.tended) rfl
 have e3:=kW 3 (num x.wlo) rfl
 have e4:=kW 4 (num x.whi) rfl
 have e5:=kW 5 (num x.col) rfl
 have c6:W.cell? ⟨w.heap.size,6,none⟩=some (.slice (some ⟨b,off,none⟩) d.steps.length scap):=row_cell g0 rfl
 have s0:W.cell? ⟨w.heap.size+1,0,none⟩=some (num s.w):=row_cell g1 rfl
 have s1:W.cell? ⟨w.heap.size+1,1,none⟩=some (num s.c):=row_cell g1 rfl
 clear hW kW E0
 gi_upto_region 2 with fail
 generalize hV:W.alloc _=V
 obtain⟨nV,sV,g2⟩:=al1 hV
 rw [sW] at g2
 have s0:=(nV.cell (p:=⟨w.heap.size+1,0,none⟩) (by show _<_;simp only;omega)).trans s0
 have s1:=(nV.cell (p:=⟨w.heap.size+1,1,none⟩) (by show _<_;simp only;omega)).trans s1
 have t3:V.cell? ⟨w.heap.size+2,3,none⟩=some (num x.wlo):=row_cell g2 rfl
 have t4:V.cell? ⟨w.heap.size+2,4,none⟩=some (num x.whi):=row_cell g2 rfl
 have t5:V.cell? ⟨w.heap.size+2,5,none⟩=some (num x.col):=row_cell g2 rfl
 have nV:=nW.trans nV
 clear hV e0 e1 e2 e3 e4 e5 c6 g0 g1 g2
 by_cases h:x.wlo≤s.w∧s.w≤x.whi
 ·have b1:=decide_eq_true h
  have HK:Hid (kb=decide (s.c≥x.col)):=by show _=_;rw [← HKB.out];unfold keepsB;rw [b1];rfl
  clear h
  gi_wp2_with (first | ((gi_at_call 58;refine CallsIn.mono (by (with_reducible exact j1 _)) ?_;rintro e w1 ⟨rfl,hw1⟩;replace hw1:=hw1.symm;subst hw1)) | gi_in)
  all_goals (go_ret;exact⟨by rw [HK.out]<;>rfl,nV⟩)
 ·have b1:=decide_eq_false h
  have HK:Hid (kb=false):=by show _=_;rw [← HKB.out];unfold keepsB;rw [b1];rfl
  clear h
  gi_wp2_with (first | ((gi_at_call 58;refine CallsIn.mono (by (with_reducible exact j1 _)) ?_;rintro e w1 ⟨rfl,hw1⟩;replace hw1:=hw1.symm;subst hw1)) | gi_in)
  all_goals (go_ret;exact⟨by rw [HK.out]<;>rfl,nV⟩)
theorem good92_any (d:Dry) (r:R2) (hO:d.Ok) (k h:Nat) (x:Stp) (s:St) (w:World) (hx:d.steps[k]?=some x) (hh:h<d.heats.length) (hs:s.Ok d.heats.length) (hd:DrySl w d r) (ih:k+1<d.steps.length→HC d r (k+1)) :
  CallsIn FW 0 Try.prog 92 #[d.val r,num k,s.val,num h] w fun e w'=>e=.returned (.bool (goodS d (chooseS d (d.steps.drop (k+1))) x s h))∧Nx w w':=by
 have k35:=fun (w1:World) (n:Nx w w1)=>may35_any d r k x s.h h w1 (hd.nx n) hx (by have:=hs.h;have:=hO.h4;omega)
 have k36:=fun (hv:Int×Int) (hhv:d.heats[h]?=some hv) (a:Int) (ha:0≤a∧a≤3) (w1:World) (n:Nx w w1)=>next36_any d r s h hv a w1 (hd.nx n) hO hhv hs ha
 have k37:=fun (s' : St) (w1:World) (n:Nx w w1)=>keeps37_any d r k x s' w1 (hd.nx n) hx
 have HD:=Lib.hid hd
 obtain⟨rh,rs⟩:=r
 obtain⟨sa,scap,hrs⟩:=hd.steps.cases
 dsimp only at hrs
 subst hrs
 have hkl:k<d.steps.length:=(List.getElem?_eq_some_iff.1 hx).1
 have hsl:=hd.sl
 have hst:=hO.st x (List.mem_of_getElem? hx)
 obtain⟨b,off,rfl,hbl,hcl⟩:=hd.steps.get (by simp;omega)
 rw [List.length_map] at *
 have e0:w.cell? ⟨b,off+k * 6,none⟩=some (num x.lo):=Sl.at hcl (Nx.refl w) hbl hx 0 (v:=num x.lo) rfl
 have e1:w.cell? ⟨b,off+k * 6+1,none⟩=some (num x.hi):=Sl.at hcl (Nx.refl w) hbl hx 1 (v:=num x.hi) rfl
 clear hcl hd
 obtain⟨hv,hhv⟩:∃ hv,d.heats[h]?=some hv:=⟨_,List.getElem?_eq_getElem hh⟩
 have hat1:heatAt d h=hv:=by unfold heatAt;rw [hhv];rfl
 have HG:Hid (goodS d (chooseS d (d.steps.drop (k+1))) x s h=(mayB d.heats.length x s.h h && x.damps.all (dampOk d (chooseS d (d.steps.drop (k+1))) x s h))):=rfl
 generalize hg:goodS d (chooseS d (d.steps.drop (k+1))) x s h=g at HG ⊢
 clear hg
 gi_enter Try.func92,Try.ntmps92
 gi_upto_region 1 with fail
 generalize hW:(w.alloc _).alloc _=W
 obtain⟨nW,sW,g0,g1⟩:=al2 hW
 have hB:=(DBox.of (w:=w) (d:=d) (r:=⟨rh,.slice (some ⟨b,off,none⟩) d.steps.length scap⟩) (e:=27) (fz:=(0,0)) rfl).2
 have s0:W.cell? ⟨w.heap.size+1,0,none⟩=some (num s.w):=row_cell g1 rfl
 have s1:W.cell? ⟨w.heap.size+1,1,none⟩=some (num s.c):=row_cell g1 rfl
 have s2:W.cell? ⟨w.heap.size+1,2,none⟩=some (num s.h):=row_cell g1 rfl
 have hbW:DBox W w.heap.size d ⟨rh,.slice (some ⟨b,off,none⟩) d.steps.length scap⟩:=⟨by omega,fun i v h=>row_cell g0 h⟩
 clear hW hB g0 g1
 have c0:=hbW.at' 0 _ rfl
 have c1:=hbW.at' 1 _ rfl
 have c2:=hbW.at' 2 _ rfl
 have c3:=hbW.at' 3 _ rfl
 have c4:=hbW.at' 4 _ rfl
 have c5:=hbW.at' 5 _ rfl
 have c6:=hbW.at' 6 _ rfl
 cases hmay:mayB d.heats.length x s.h h with
 | false =>
  rw [hmay] at k35
  have HF:Hid (g=false):=by show _=_;rw [HG.out,hmay];rfl
  gi_wp2_with (first | (gi_at_call 35;refine CallsIn.mono (k35 _ nW) ?_;rintro e w2 ⟨rfl,n2⟩) | gi_in)
  go_ret
  exact⟨by rw [HF.out]<;>rfl,nW.trans n2⟩
 | true =>
  rw [hmay] at k35
  gi_upto_region 3 with (first | (gi_at_call 35;refine CallsIn.mono (k35 _ nW) ?_;rintro e w2 ⟨rfl,n2⟩) | gi_in)
  have kw:=Kc.nx (nW.trans n2)
  have k2:=Kc.nx n2
  have HE0:=Lib.hid e0
  have HE1:=Lib.hid e1
  have e0:=kw.cell e0
  have c6':=k2.cell c6
  gi_wp2
  have nw2:=nW.trans n2
  have hb2:=hbW.nx n2
  have n0:Nx w2 w2:=Below.refl _ _
  clear c0 c1 c2 c3 c4 c5 c6 c6' e0 e1
  have s0:=k2.cell s0
  have s1:=k2.cell s1
  have s2:=k2.cell s2
  clear n2 k2 hbW nW sW
  gi_loopw [9] (fun i wr=>∃ q:Nat,x.lo+q≤x.hi+1∧i=num (x.lo+q)∧((dampsL x.lo q).all (dampOk d (chooseS d (d.steps.drop (k+1))) x s h))=true∧Nx w2 wr) (fun i _=>(x.hi+1-intOf i).toNat)
  case atStart=>exact⟨0,by omega,by simp,rfl,n0⟩
  case round =>
   obtain⟨q,hq,rfl,hall,nr⟩:=hrel
   have kr:=Kc.nx nr
   have hbr:=hb2.nx nr
   have kwr:=kw.trans kr
   have e1:=kwr.cell HE1.out
   have c0:=hbr.at' 0 _ rfl
   have c1:=hbr.at' 1 _ rfl
   have c2:=hbr.at' 2 _ rfl
   have c3:=hbr.at' 3 _ rfl
   have c4:=hbr.at' 4 _ rfl
   have c5:=hbr.at' 5 _ rfl
   have c6:=hbr.at' 6 _ rfl
   have t0:=kr.cell s0
   have t1:=kr.cell s1
   have t2:=kr.cell s2
   by_cases hle:x.lo+(q:Int)≤x.hi
   ·have hqa:0≤x.lo+(q:Int)∧x.lo+(q:Int)≤3:=by omega
    have k36:=k36 hv hhv (x.lo+q) hqa wr (nw2.trans nr)
    have hs':=next_ok hO (List.mem_of_getElem? hhv) hs (heat:=h) (damp:=x.lo+q) (n:=d.heats.length) (by omega) hqa.1
    have hdk:Hid (dampOk d (chooseS d (d.steps.drop (k+1))) x s h (x.lo+q)=(keepsB x (nextS d hv s h (x.lo+q)) && decide (0≤chooseS d (d.steps.drop (k+1)) (nextS d hv s h (x.lo+q))))):=by show _=_;unfold dampOk;rw [hat1]
    generalize nextS d hv s h (x.lo+q)=s' at *
    have k37:=k37 s'
    have hmem:x.lo+(q:Int)∈x.damps:=by
     unfold Stp.damps dampsL
     exact List.mem_map.2 ⟨q,List.mem_range.2 (by omega),rfl⟩
    have HBAD:Hid (dampOk d (chooseS d (d.steps.drop (k+1))) x s h (x.lo+q)=false→g=false):=fun hb=>by
     rw [HG.out,hmay,Bool.true_and,List.all_eq_false]
     exact⟨_,hmem,by rw [hb];decide⟩
    have HGO:Hid (dampOk d (chooseS d (d.steps.drop (k+1))) x s h (x.lo+q)=true→(dampsL x.lo (q+1)).all (dampOk d (chooseS d (d.steps.drop (k+1))) x s h)=true):=fun hb=>by
     rw [dampsL_succ,List.all_append,hall]
     simp [hb]
    clear hmem hall
    gi_upto_region 7 with (first | (gi_at_call 36;refine CallsIn.mono k36 ?_;rintro e w3 ⟨rfl,n3⟩) | gi_in)
    generalize hYn:w3.alloc _=Y
    obtain⟨nY,sY,gY⟩:=al1 hYn
    have nwY:=nw2.trans (nr.trans (n3.trans nY))
    have n2Y:=nr.trans (n3.trans nY)
    have y0:Y.cell? ⟨w3.heap.size,0,none⟩=some (num s'.w):=row_cell gY rfl
    have y1:Y.cell? ⟨w3.heap.size,1,none⟩=some (num s'.c):=row_cell gY rfl
    have y2:Y.cell? ⟨w3.heap.size,2,none⟩=some (num s'.h):=row_cell gY rfl
    clear hYn gY c0 c1 c2 c3 c4 c5 c6 t0 t1 t2 k36
    have kY:=Kc.nx (n3.trans nY)
    have hbY:=hbr.nx (n3.trans nY)
    have c0:=hbY.at' 0 _ rfl
    have c1:=hbY.at' 1 _ rfl
    have c2:=hbY.at' 2 _ rfl
    have c3:=hbY.at' 3 _ rfl
    have c4:=hbY.at' 4 _ rfl
    have c5:=hbY.at' 5 _ rfl
    have c6:=hbY.at' 6 _ rfl
    cases hkp:keepsB x s' with
    | false =>
     rw [hkp] at k37
     have HF:Hid (g=false):=HBAD.out (by rw [hdk.out,hkp];rfl)
     gi_wp2_with (first | (gi_at_call 37;refine CallsIn.mono (k37 _ nwY) ?_;rintro e w4 ⟨rfl,n4⟩) | gi_in)
     go_ret
     exact⟨by rw [HF.out]<;>rfl,nwY.trans n4⟩
    | true =>
     rw [hkp] at k37
     gi_upto_region 9 with (first | (gi_at_call 37;refine CallsIn.mono (k37 _ nwY) ?_;rintro e w4 ⟨rfl,n4⟩) | gi_in)
     have nw4:=nwY.trans n4
     have hb4:=hbY.nx n4
     have k4:=Kc.nx n4
     have y0:=k4.cell y0
     have y1:=k4.cell y1
     have y2:=k4.cell y2
     clear c0 c1 c2 c3 c4 c5 c6
     have c0:=hb4.at' 0 _ rfl
     have c1:=hb4.at' 1 _ rfl
     have c2:=hb4.at' 2 _ rfl
     have c3:=hb4.at' 3 _ rfl
     have c4:=hb4.at' 4 _ rfl
     have c5:=hb4.at' 5 _ rfl
     have c6:=hb4.at' 6 _ rfl
     by_cases hnx:k+1<d.steps.length
     ·have k59:=ih hnx s' w4 hs' (HD.out.nx nw4)
      rw [show ((k+1:Nat):Int)=(k:Int)+1 by simp] at k59
      have hin:(k:Int)+1<d.steps.length:=by omega
      by_cases hch:chooseS d (d.steps.drop (k+1)) s' < 0
      ·have HF:Hid (g=false):=HBAD.out (by rw [hdk.out,hkp];simpa using hch)
       have dch:=decide_eq_true hch
       clear hch
       gi_wp2_with (first | (gi_at_call 59;refine CallsIn.mono k59 ?_;rintro e w5 ⟨rfl,n5⟩) | gi_in)
       go_ret
       exact⟨by rw [HF.out]<;>rfl,nw4.trans n5⟩
      ·have HT:=Lib.hid (HGO.out (by rw [hdk.out,hkp];simp;omega))
       have dch:=decide_eq_false hch
       clear hch
       gi_wp2_with (first | (gi_at_call 59;refine CallsIn.mono k59 ?_;rintro e w5 ⟨rfl,n5⟩) | gi_in)
       exact⟨⟨q+1,by omega,by simp;omega,HT.out,n2Y.trans (n4.trans n5)⟩,by simp [intOf];omega⟩
     ·have hin:¬ (k:Int)+1<d.steps.length:=by omega
      have hz:chooseS d (d.steps.drop (k+1)) s'=0:=by rw [List.drop_eq_nil_of_le (by omega)];rfl
      have HT:=Lib.hid (HGO.out (by rw [hdk.out,hkp,hz];rfl))
      gi_wp2
      exact⟨⟨q+1,by omega,by simp;omega,HT.out,n2Y.trans n4⟩,by simp [intOf];omega⟩
   ·have hend:Hid (g=true):=by
     show _=_
     rw [HG.out,hmay,Bool.true_and,Stp.damps,show (x.hi+1-x.lo).toNat=q by omega]
     exact hall
    clear hall
    gi_wp2
    go_ret
    exact⟨by rw [hend.out]<;>rfl,nw2.trans nr⟩
end Go.Proofs.Ytedomogjmhommaa
namespace Go.Proofs.Ytedomogjmhommaa
open Go.RowKit
theorem choice59_step (d:Dry) (r:R2) (hO:d.Ok) (k:Nat) (hk:k<d.steps.length) (ih:k+1<d.steps.length→HC d r (k+1)):HC d r k:=by
 intro s w hs hd
 have hx:d.steps[k]?=some d.steps[k]:=List.getElem?_eq_getElem hk
 have hdr:d.steps.drop k=d.steps[k] :: d.steps.drop (k+1):=List.drop_eq_getElem_cons hk
 rw [hdr]
 generalize d.steps[k]=x at hx hdr ⊢
 have k92:=fun (h:Nat) (hh:h<d.heats.length) (w1:World) (n:Nx w w1)=>good92_any d r hO k h x s w1 hx hh hs (hd.nx n) ih
 obtain⟨v,hv⟩:∃ v,chooseS d (x :: d.steps.drop (k+1)) s=v:=⟨_,rfl⟩
 rw [hv]
 have HV:Hid (firstS (goodS d (chooseS d (d.steps.drop (k+1))) x s) d.heats.length=v):=hv
 clear hv hdr
 have HD:=Lib.hid hd
 have hh4:=hO.h4
 obtain⟨rh,rs⟩:=r
 obtain⟨ha,hcap,hrs⟩:=hd.heats.cases
 dsimp only at hrs
 subst hrs
 rw [List.length_map] at *
 generalize goodS d (chooseS d (d.steps.drop (k+1))) x s=p at HV k92
 clear hd
 gi_enter Try.func59,Try.ntmps59
 gi_upto_region 1 with fail
 generalize hW:(w.alloc _).alloc _=W
 obtain⟨nW,sW,g0,g1⟩:=al2 hW
 have s0:W.cell? ⟨w.heap.size+1,0,none⟩=some (num s.w):=row_cell g1 rfl
 have s1:W.cell? ⟨w.heap.size+1,1,none⟩=some (num s.c):=row_cell g1 rfl
 have s2:W.cell? ⟨w.heap.size+1,2,none⟩=some (num s.h):=row_cell g1 rfl
 have hbW:DBox W w.heap.size d ⟨.slice ha d.heats.length hcap,rs⟩:=⟨by omega,fun i v h=>row_cell g0 h⟩
 clear hW g0 g1
 gi_wp2
 obtain⟨sa,scap,hrs⟩:=HD.out.steps.cases
 dsimp only at hrs
 subst hrs
 rw [List.length_map] at *
 gi_loopw [7] (fun i wr=>∃ q:Nat,q≤d.heats.length∧i=num q∧(∀ j,j<q→p j=false)∧Nx W wr) (fun i _=>d.heats.length-(intOf i).toNat)
 case atStart=>exact⟨0,Nat.zero_le _,rfl,fun j h=>absurd h (Nat.not_lt_zero _),Nx.refl _⟩
 case round =>
  obtain⟨q,hq,rfl,hbad,nr⟩:=hrel
  have hb2:=hbW.nx nr
  have kr:=Kc.nx nr
  have c0:=hb2.at' 0 _ rfl
  have c1:=hb2.at' 1 _ rfl
  have c2:=hb2.at' 2 _ rfl
  have c3:=hb2.at' 3 _ rfl
  have c4:=hb2.at' 4 _ rfl
  have c5:=hb2.at' 5 _ rfl
  have c6:=hb2.at' 6 _ rfl
  have s0:=kr.cell s0
  have s1:=kr.cell s1
  have s2:=kr.cell s2
  have HB:=Lib.hid hbad
  clear hbad
  by_cases hlt:q<d.heats.length
  ·have k92:=k92 q hlt wr (nW.trans nr)
   cases hp:p q with
   | true =>
    rw [hp] at k92
    have HR:Hid (v=(q:Int)):=by show _=_;rw [← HV.out];exact firstS_found HB.out hlt hp
    gi_wp2_with (first | (gi_at_call 92;refine CallsIn.mono k92 ?_;rintro e w2 ⟨rfl,n2⟩) | gi_in)
    go_ret
    exact⟨by rw [HR.out]<;>rfl,nW.trans (nr.trans n2)⟩
   | false =>
    rw [hp] at k92
    have hp':=Lib.hid hp
    clear hp
    gi_wp2_with (first | (gi_at_call 92;refine CallsIn.mono k92 ?_;rintro e w2 ⟨rfl,n2⟩) | gi_in)
    exact⟨⟨q+1,hlt,by simp,fun j hj=>by
     rcases Nat.lt_succ_iff_lt_or_eq.1 hj with hj | rfl
     ·exact HB.out j hj
     ·exact hp'.out,nr.trans n2⟩,by simp [intOf];omega⟩
  ·obtain rfl:q=d.heats.length:=by omega
   have HR:Hid (v=-1):=by show _=_;rw [← HV.out];exact firstS_none HB.out
   gi_wp2
   go_ret
   exact⟨by rw [HR.out]<;>rfl,nW.trans nr⟩
theorem choice59_any (d:Dry) (r:R2) (hO:d.Ok):∀ (j k:Nat),k+j+1=d.steps.length→HC d r k
 | 0,k,h=>choice59_step d r hO k (by omega) (fun h'=>by omega)
 | j+1,k,h=>choice59_step d r hO k (by omega) (fun h'=>choice59_any d r hO j (k+1) (by omega))
end Go.Proofs.Ytedomogjmhommaa
namespace Go.Proofs.Ytedomogjmhommaa
open Go.RowKit
theorem before96_any (a b:St) (w:World):CallsIn FW 0 Try.prog 96 #[a.val,b.val] w fun e w'=>e=.returned (.bool (beforeS a b))∧Nx w w':=by
 have N:Nx w ((w.alloc (.cells #[num a.w,num a.c,num a.h] 24)).alloc (.cells #[num b.w,num b.c,num b.h] 24)):=alloc_nx (alloc_nx (Nx.refl _) _) _
 by_cases h1:a.w=b.w
 ·by_cases h2:a.c=b.c
  ·rw [show beforeS a b=decide (a.h<b.h) by unfold beforeS;simp [h1,h2]]
   have b1:(a.w != b.w)=false:=by simp [h1]
   have b2:(a.c != b.c)=false:=by simp [h2]
   clear h1 h2
   gi_enter Try.func96,Try.ntmps96
   gi_wp2
   all_goals (go_ret;exact⟨rfl,N⟩)
  ·rw [show beforeS a b=decide (a.c<b.c) by unfold beforeS;simp [h1,h2]]
   have b1:(a.w != b.w)=false:=by simp [h1]
   have b2:(a.c != b.c)=true:=by simp [h2]
   clear h1 h2
   gi_enter Try.func96,Try.ntmps96
   gi_wp2
   all_goals (go_ret;exact⟨rfl,N⟩)
 ·rw [show beforeS a b=decide (a.w<b.w) by unfold beforeS;simp [h1]]
  have b1:(a.w != b.w)=true:=by simp [h1]
  clear h1
  gi_enter Try.func96,Try.ntmps96
  gi_wp2
  all_goals (go_ret;exact⟨rfl,N⟩)
end Go.Proofs.Ytedomogjmhommaa
namespace Go.Proofs.Ytedomogjmhommaa
open Go.RowKit
def placeS (l:List St) (s:St):Nat:=(l.takeWhile fun x=>beforeS x s).length
theorem with_place (s:St):∀ l:List St,withS l s=if l[placeS l s]?=some s then l else l.take (placeS l s)++[s]++l.drop (placeS l s)
 | []=>by simp [withS,placeS]
 | x :: l=>by
  have ih:=with_place s l
  unfold withS
  by_cases hx:beforeS x s=true
  ·have e:placeS (x :: l) s=placeS l s+1:=by simp [placeS,List.takeWhile_cons,hx]
   rw [if_pos hx,ih,e]
   simp only [List.getElem?_cons_succ,List.take_succ_cons,List.drop_succ_cons,List.cons_append]
   split<;>rfl
  ·have e:placeS (x :: l) s=0:=by simp [placeS,List.takeWhile_cons,hx]
   rw [if_neg hx,e]
   simp
end Go.Proofs.Ytedomogjmhommaa
namespace Go.Proofs.Ytedomogjmhommaa
open Go.RowKit
def headV (k:Nat):Value→Value
 | .slice a _ c=>.slice a k c
 | v=>v
def tailV (sz k:Nat):Value→Value
 | .slice a n c=>sliced a k n c sz
 | v=>v
theorem run_sliceH {t e:TypeId} {z:Value} {sz by_:Nat} (T:ElemT t e z sz by_) (base:Nat) (w:World) (v:Value) (rows:List (List Value)) (hr:∀ y∈rows,y.length=sz) (hown:w.ownsRow base e sz v rows.length rows.flatten) (k:Nat) (hk:k≤rows.length) :
  (Instr.sliceAt t v none (some (num k)) none).run Try.prog w=.ok (headV k v) w∧Sl w (headV k v) sz (rows.take k):=by
 obtain⟨i,hi,hz,hs,hby⟩:=T.info
 have hel:Try.prog.elem t=e:=by unfold Program.elem;rw [T.und]
 have hu:Try.prog.underlying t=some (.slice (Try.prog.elem t)):=by rw [hel];exact T.und
 have hsz:∀ w,(sizeOf e).run Try.prog w=.ok sz w:=fun w=>by simp [sizeOf,typeInfo,hi,hs]
 have hS:=own_sl hr rfl hown
 have hlt:(rows.take k).length=k:=by rw [List.length_take];omega
 obtain⟨_,⟨rfl,h0⟩ | ⟨g,cap,cur,rfl,hb',hg,hc,hm',hs',ht⟩⟩:=hown
 ·obtain rfl:k=0:=by omega
  refine⟨?_,0,.inl ⟨by simp,rfl⟩⟩
  rw [run_sliceAt_slice w t _ _ _ _ hu,run_slice_h w t none 0 0 hu .i64 _ (by simp) (by simp),hel,hsz]
  simp [sliced,Result.andThen,headV]
 ·refine⟨?_,cap,.inr ⟨g,0,by rw [hlt];rfl,(Array.getElem?_eq_some_iff.1 hg).1,fun j i l x hj hl=>?_⟩⟩
  ·rw [run_sliceAt_slice w t _ _ _ _ hu,run_slice_h w t _ _ cap hu .i64 _ (by simp) (by simp;omega),hel,hsz]
   simp [sliced,Result.andThen,Addr.add,headV]
  ·obtain⟨cap',⟨h1,h2⟩ | ⟨b,off,h1,h2,h3⟩⟩:=hS
   ·cases h2
   ·simp only [Value.slice.injEq,Option.some.injEq,Addr.mk.injEq] at h1
    obtain⟨⟨rfl,rfl,_⟩,_⟩:=h1
    refine h3 j i l x ?_ hl
    rw [List.getElem?_take] at hj
    split at hj
    ·exact hj
    ·cases hj
theorem run_sliceL {t e:TypeId} {z:Value} {sz by_:Nat} (T:ElemT t e z sz by_) (base:Nat) (w:World) (v:Value) (rows:List (List Value)) (hr:∀ y∈rows,y.length=sz) (hown:w.ownsRow base e sz v rows.length rows.flatten) (k:Nat) (hk:k≤rows.length) :
  (Instr.sliceAt t v (some (num k)) none none).run Try.prog w=.ok (tailV sz k v) w∧Sl w (tailV sz k v) sz (rows.drop k):=by
 obtain⟨i,hi,hz,hs,hby⟩:=T.info
 have hel:Try.prog.elem t=e:=by unfold Program.elem;rw [T.und]
 have hu:Try.prog.underlying t=some (.slice (Try.prog.elem t)):=by rw [hel];exact T.und
 have hsz:∀ w,(sizeOf e).run Try.prog w=.ok sz w:=fun w=>by simp [sizeOf,typeInfo,hi,hs]
 have hS:=own_sl hr rfl hown
 have hlt:(rows.drop k).length=rows.length-k:=by rw [List.length_drop]
 obtain⟨_,⟨rfl,h0⟩ | ⟨g,cap,cur,rfl,hb',hg,hc,hm',hs',ht⟩⟩:=hown
 ·obtain rfl:k=0:=by omega
  refine⟨?_,0,.inl ⟨by simp [List.eq_nil_of_length_eq_zero h0],by simp [tailV,sliced]⟩⟩
  rw [run_sliceAt_slice w t _ _ _ _ hu,run_slice_l w t none 0 0 hu .i64 _ (by simp) (by simp),hel,hsz]
  simp [sliced,Result.andThen,tailV]
 ·refine⟨?_,?_⟩
  ·rw [run_sliceAt_slice w t _ _ _ _ hu,run_slice_l w t _ rows.length cap hu .i64 _ (by simp) (by simp;omega),hel,hsz]
   simp [Result.andThen,tailV]
  obtain⟨cap',⟨h1,h2⟩ | ⟨b,off,h1,h2,h3⟩⟩:=hS
  ·cases h2
  simp only [Value.slice.injEq,Option.some.injEq,Addr.mk.injEq] at h1
  obtain⟨⟨rfl,rfl,_⟩,_,rfl⟩:=h1
  unfold tailV sliced
  dsimp only
  by_cases hck:cap=k
  ·have:rows.length=k:=by omega
   rw [if_pos hck]
   refine⟨_,.inr ⟨g,0,by rw [hlt,this],h2,fun j i l x hj hl=>?_⟩⟩
   rw [List.getElem?_drop,List.getElem?_eq_none (by omega)] at hj
   cases hj
  ·rw [if_neg hck]
   refine⟨_,.inr ⟨g,k * sz,by rw [hlt,Option.map_some,addr_add,Nat.zero_add],h2,fun j i l x hj hl=>?_⟩⟩
   rw [List.getElem?_drop] at hj
   have:=h3 (k+j) i l x hj hl
   rw [Nat.zero_add,Nat.add_mul] at this
   exact this
theorem wpListIn_sliceL {F:Fence} {nF:Nat} {t e:TypeId} {z:Value} {sz by_:Nat} (T:ElemT t e z sz by_) {w:World} {ops:Array Oper} {rest:List Oper} {o:Oper} {a:Act} {Q:Exit→Act→World→Prop} (hgd:o.guard=none) (x lo:Operand)
  (ho:o.op=.slice t x (some lo) none none) (base:Nat) (v:Value) (n k:Nat) (rows:List (List Value)) (hx:a.eval x=v) (hlo:a.eval lo=num k) (hr:∀ y∈rows,y.length=sz) (hown:w.ownsRow base e sz v n rows.flatten) (hn:rows.length=n) (hk:k≤n)
  (h:Sl w (tailV sz k v) sz (rows.drop k)→wpListIn F nF Try.prog ops Q rest (a.put o.dst (tailV sz k v)) w) :
  wpListIn F nF Try.prog ops Q (o :: rest) a w:=by
 refine wpListIn_plain hgd fun K hK=>?_
 subst hn
 obtain⟨r1,r2⟩:=run_sliceL T base w v rows hr hown k hk
 unfold Oper.wpIn
 refine⟨by simp [Oper.about,ho],?_⟩
 rw [Oper.semAt_plain F _ _ (by rw [ho];intro c hc';cases hc')]
 simp [execOp,ho,hx,hlo,r1,Result.andThen]
 exact hK _ _ (h r2)
end Go.Proofs.Ytedomogjmhommaa
