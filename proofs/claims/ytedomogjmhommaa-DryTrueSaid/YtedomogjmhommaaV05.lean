import Derived.Test.YtedomogjmhommaaV04
set_option linter.all false
set_option maxRecDepth 100000
set_option maxHeartbeats 8000000
namespace Go.Proofs.Ytedomogjmhommaa
open Go.RowKit
theorem has52_any (u:Value) (xs:List St) (s:St) (w:World) (hu:Sl w u 3 (xs.map St.cells)) (hl:xs.length≤1000000000) (hxI:∀ x∈xs,StI x) (hsI:StI s):CallsIn FW 0 Try.prog 52 #[u,s.val] w fun e w'=>e=.returned (.bool (decide (s∈xs)))∧Nx w w':=by
 obtain⟨a,cap,rfl⟩:=hu.cases
 rw [List.length_map] at *
 have HU:=Lib.hid hu
 clear hu
 obtain⟨g,hg⟩:∃ g,decide (s∈xs)=g:=⟨_,rfl⟩
 rw [hg]
 have HG:Hid (g=decide (s∈xs)):=hg.symm
 clear hg
 gi_enter Try.func52,Try.ntmps52
 gi_upto_region 1 with fail
 generalize hW:w.alloc _=W
 obtain⟨nW,sW,gX⟩:=al1 hW
 clear hW
 generalize hA:w.heap.size=A at *
 gi_wp2
 gi_loopw [5] (fun i wr=>∃ k:Nat,k≤xs.length∧i=num k∧(∀ j,j<k→xs[j]?≠some s)∧Nx W wr) (fun i _=>xs.length-(intOf i).toNat)
 case atStart=>exact⟨0,Nat.zero_le _,rfl,fun j h=>absurd h (Nat.not_lt_zero _),Nx.refl _⟩
 case round =>
  obtain⟨k,hk,rfl,hno,nr⟩:=hrel
  have nwr:=nW.trans nr
  have HN:=Lib.hid hno
  clear hno
  by_cases hlt:k<xs.length
  ·obtain⟨b,off,rfl,hbl,hcl⟩:=(HU.out).get (by simp;omega)
   have hh:xs[k]?=some xs[k]:=List.getElem?_eq_getElem hlt
   generalize xs[k]=x at hh
   have e0:wr.cell? ⟨b,off+k * 3,none⟩=some (num x.w):=Sl.at hcl nwr hbl hh 0 (v:=num x.w) rfl
   have e1:wr.cell? ⟨b,off+k * 3+1,none⟩=some (num x.c):=Sl.at hcl nwr hbl hh 1 (v:=num x.c) rfl
   have e2:wr.cell? ⟨b,off+k * 3+2,none⟩=some (num x.h):=Sl.at hcl nwr hbl hh 2 (v:=num x.h) rfl
   have gr:=(nr.block A (by omega)).trans gX
   have s0:wr.cell? ⟨A,0,none⟩=some (num s.w):=row_cell gr rfl
   have s1:wr.cell? ⟨A,1,none⟩=some (num s.c):=row_cell gr rfl
   have s2:wr.cell? ⟨A,2,none⟩=some (num s.h):=row_cell gr rfl
   have HX:=Lib.hid hh
   have hq:=fun (W1:World)=>eq24 (hxI x (List.mem_of_getElem? hh)) hsI W1
   have hg24:=g24
   clear hcl hh
   by_cases hxs:x=s
   ·have HR:Hid (g=true):=by
     show _=_
     rw [HG.out]
     exact decide_eq_true (hxs ▸ List.mem_of_getElem? HX.out)
    rw [decide_eq_true hxs] at hq
    clear hxs
    gi_upto_region 4 with fail
    gi_big_quiet_th (fail)
    gi_wp2
    go_ret
    exact⟨by rw [HR.out]<;>rfl,nwr.drewN _⟩
   ·have HN2:=Lib.hid (show ∀ j,j<k+1→xs[j]?≠some s from fun j hj=>by
     rcases Nat.lt_succ_iff_lt_or_eq.1 hj with hj | rfl
     ·exact HN.out j hj
     ·rw [HX.out];exact fun e=>hxs (Option.some.inj e))
    rw [decide_eq_false hxs] at hq
    clear hxs
    gi_upto_region 4 with fail
    gi_big_quiet_th (fail)
    gi_wp2
    exact⟨⟨k+1,hlt,by simp,HN2.out,nr.drewN _⟩,by simp [intOf];omega⟩
  ·obtain rfl:k=xs.length:=by omega
   have HR:Hid (g=false):=by
    show _=_
    rw [HG.out]
    refine decide_eq_false fun h=>?_
    obtain⟨j,hj,e⟩:=List.mem_iff_getElem.1 h
    exact HN.out j hj (by rw [List.getElem?_eq_getElem hj,e])
   gi_wp2
   go_ret
   exact⟨by rw [HR.out]<;>rfl,nwr⟩
end Go.Proofs.Ytedomogjmhommaa
namespace Go.Proofs.Ytedomogjmhommaa
open Go.RowKit Go.Con Go.Conc
theorem setSt {w:World} {b:Nat} {s s' : St} (h:w.heap[b]?=some (.cells s.cells.toArray 24 (0,0))):(((w.setCell ⟨b,0,none⟩ (num s'.w)).setCell ⟨b,1,none⟩ (num s'.c)).setCell ⟨b,2,none⟩ (num s'.h)).heap[b]?=some (.cells s'.cells.toArray 24 (0,0)):=row_set (row_set (row_set h))
theorem St.Ok.sti {n:Nat} {s:St} (h:s.Ok n) (hn:n≤4):StI s:=by
 have:=h.w
 have:=h.c
 have:=h.h
 constructor<;>(unfold I64;omega)
def Qf14_18 (Wb:World) (p1 p2:Nat) (vl:Value) (d:Dry) (t:Array Value) (w' : World):Prop:=(t.size=160∧t[2]?=some (ptr p1)∧t[5]?=some (vl)∧t[12]?=some (ptr p2))∧∃ s∈setAt d d.steps.length,OldC Wb w'∧w'.heap[p2]?=some (.cells s.cells.toArray 24 (0,0))
theorem f14_18 (d:Dry) (r:R2) (p1 p2:Nat) (vl va:Value) (air:List Int) (Wb:World) (t:Array Value) (hs:t.size=160) (h2:t[2]?=some (ptr p1)) (h5:t[5]?=some (vl)) (h11:t[11]?=some (va)) (h12:t[12]?=some (ptr p2)) (w:World) (hB:DBox Wb p1 d r) (hd:DrySl Wb d r) (hO:d.Ok) (hF:dryF d=0) (h0:0≤chooseS d d.steps d.start) (hS:SetsSl Wb vl ((List.range (d.steps.length+1)).map (setAt d))) (hA:Sl Wb va 1 (air.map one)) (hal:air.length=d.steps.length) (hair:∀ (k:Nat) (x:Stp) (a:Int),d.steps[k]?=some x→air[k]?=some a→a∈x.damps) (hp2:Wb.heap.size≤p2) (ho:OldC Wb w) (gp:w.heap[p2]?=some (.cells d.start.cells.toArray 24 (0,0))) :
  x14_18.wpIn FW 0 Try.prog (fun e a w'=>e=.normal∧a.defers=[]∧Qf14_18 Wb p1 p2 vl d a.tmps w') ⟨t,[]⟩ w:=by
 obtain⟨f,rfl⟩:=ex160_14 hs
 have g2:f 2=ptr p1:=by simpa using h2
 have g5:f 5=vl:=by simpa using h5
 have g11:f 11=va:=by simpa using h11
 have g12:f 12=ptr p2:=by simpa using h12
 rw [g2,g5,g11,g12] at *
 clear hs h2 h5 h11 h12 g2 g5 g11 g12
 obtain⟨vs,hv1,hvl,hv3⟩:=hS
 obtain⟨la,lcap,e3⟩:=hv1.cases
 obtain⟨aa,acap,e4⟩:=hA.cases
 have hvl' : vs.length=d.steps.length+1:=by rw [hvl];simp
 rw [List.length_map] at e3 e4
 rw [hvl'] at e3
 rw [hal] at e4
 subst e3 e4
 obtain⟨lb,loff,rfl,hlb,hlc⟩:=hv1.get (by rw [List.length_map];omega)
 obtain⟨rh,rs⟩:=r
 obtain⟨ha,hcap,e1⟩:=hd.heats.cases
 obtain⟨sa,scap,e2⟩:=hd.steps.cases
 dsimp only at e1 e2
 rw [List.length_map] at e1 e2
 subst e1 e2
 have HB:=Lib.hid hB
 have HD:=Lib.hid hd
 have HO:=Lib.hid hO
 have HF:=Lib.hid hF
 have HC:=Lib.hid h0
 have HV:=Lib.hid hv3
 have HVL:=Lib.hid hvl'
 have HA:=Lib.hid hA
 have HAI:=Lib.hid hair
 have HAL:=Lib.hid hal
 have HLC:=Lib.hid hlc
 have hs5:=hO.s5
 have hsl:=hd.sl
 clear hB hd hO hF h0 hv1 hv3 hvl hvl' hA hair hal hlc
 simp only [x14_18,r14_3,r14_6,r14_9,r14_13,r14_16,b14,Try.f14,cL,cR,cB,cT]
 gi_wp2
 gi_loopw [13] (fun i wr=>∃ (k:Nat) (s:St),k≤d.steps.length∧i=num k∧s∈setAt d k∧OldC Wb wr∧wr.heap[p2]?=some (.cells s.cells.toArray 24 (0,0))) (fun i _=>d.steps.length-(intOf i).toNat)
 case atStart=>exact⟨0,d.start,Nat.zero_le _,rfl,List.mem_singleton.2 rfl,ho,gp⟩
 case round =>
  obtain⟨k,s,hk,rfl,hs,ow,gp⟩:=hrel
  have c6':=ow.at (HB.out.at' 6 _ rfl)
  by_cases hlt:k<d.steps.length
  ·have hx:d.steps[k]?=some d.steps[k]:=List.getElem?_eq_getElem hlt
   generalize d.steps[k]=x at hx
   have haa:air[k]?=some (air[k]'(by rw [HAL.out];exact hlt)):=List.getElem?_eq_getElem _
   generalize air[k]'(by rw [HAL.out];exact hlt)=av at haa
   have had:=HAI.out k x av hx haa
   obtain⟨h,hh,hch,hmay,hnext,hkeep⟩:=true_step HO.out HF.out HC.out hx hs had
   have hsO:=(set_safe HO.out HC.out k hk s hs).1
   have hst:=(HO.out.st x (List.mem_of_getElem? hx)).1
   have hdm:=damps_mem had
   have h4:=HO.out.h4
   have hsI:=hsO.sti h4.2
   have hxI:∀ t∈setAt d k,StI t:=fun t ht=>((set_safe HO.out HC.out k hk t ht).1).sti h4.2
   have hlen:=setAt_len5 HO.out hk
   have hvk:vs[k]?=some (vs[k]'(by rw [HVL.out];omega)):=List.getElem?_eq_getElem _
   generalize vs[k]'(by rw [HVL.out];omega)=uk at hvk
   have hslk:=HV.out k uk (setAt d k) hvk (setAt_list hk)
   have lk:Wb.cell? ⟨lb,loff+k,none⟩=some uk:=by
    have:=HLC.out k 0 [uk] uk (by rw [List.getElem?_map,hvk];rfl) rfl
    simpa using this
   obtain⟨ab,aoff,rfl,hab,hac⟩:=(HA.out).get (by rw [List.length_map,HAL.out];omega)
   have ak:Wb.cell? ⟨ab,aoff+k,none⟩=some (num av):=by
    have:=hac k 0 [num av] (num av) (by rw [List.getElem?_map,haa];rfl) rfl
    simpa using this
   obtain⟨ua,ucap,rfl⟩:=hslk.cases
   have k18:=fun (w1:World) (o:OldC Wb w1)=>choose18_any d _ k s w1 (HD.out.oc o) (by omega)
   rw [hch] at k18
   have k35:=fun (w1:World) (o:OldC Wb w1)=>may35_any d _ k x s.h h w1 (HD.out.oc o) hx (by have:=hsO.h;omega)
   rw [hmay] at k35
   have k52:=fun (w1:World) (o:OldC Wb w1)=>has52_any _ (setAt d k) s w1 (hslk.oc o) (by omega) hxI hsI
   rw [decide_eq_true hs] at k52
   have k36:=fun (w1:World) (o:OldC Wb w1)=>next36_any d _ s h (heatAt d h) av w1 (HD.out.oc o) HO.out (heat_mem hh) hsO (by omega)
   generalize nextS d (heatAt d h) s h av=s' at *
   have k37:=fun (w1:World) (o:OldC Wb w1)=>keeps37_any d _ k x s' w1 (HD.out.oc o) hx
   rw [hkeep] at k37
   rw [List.length_map] at *
   have hN:=Lib.hid hnext
   have hp2w:p2<wr.heap.size:=lt_row gp
   generalize (setAt d k).length=m at *
   clear hx haa had hch hmay hkeep hst hdm hsI hxI hlen hvk hslk hac hnext hsO hs
   have b1:decide ((k:Int)<(d.steps.length:Int))=true:=decide_eq_true (by omega)
   have c0:=ow.at (HB.out.at' 0 _ rfl)
   have c1:=ow.at (HB.out.at' 1 _ rfl)
   have c2:=ow.at (HB.out.at' 2 _ rfl)
   have c3:=ow.at (HB.out.at' 3 _ rfl)
   have c4:=ow.at (HB.out.at' 4 _ rfl)
   have c5:=ow.at (HB.out.at' 5 _ rfl)
   have c6:=ow.at (HB.out.at' 6 _ rfl)
   have q0:wr.cell? ⟨p2,0,none⟩=some (num s.w):=row_cell gp rfl
   have q1:wr.cell? ⟨p2,1,none⟩=some (num s.c):=row_cell gp rfl
   have q2:wr.cell? ⟨p2,2,none⟩=some (num s.h):=row_cell gp rfl
   simp only [chV] at k18
   gi_upto_region 22 with (first | (gi_at_call 18;refine CallsIn.mono (k18 _ ow) ?_;rintro e w1 ⟨rfl,n1⟩) | gi_in)
   have o1:OldC wr w1:=OldC.nx n1
   have ow1:=ow.trans o1
   have gp1:=(n1.block _ hp2w).trans gp
   have hp21:p2<w1.heap.size:=Nat.lt_of_lt_of_le hp2w n1.size
   have c0:=o1.at c0
   have c1:=o1.at c1
   have c2:=o1.at c2
   have c3:=o1.at c3
   have c4:=o1.at c4
   have c5:=o1.at c5
   have c6:=o1.at c6
   have q0:=o1.at q0
   have q1:=o1.at q1
   have q2:=o1.at q2
   have hBl:p1<w1.heap.size:=(HB.out.oc ow1).lt
   have hlb1:lb<w1.heap.size:=Nat.lt_of_lt_of_le hlb ow1.size
   have lk1:=ow1.at lk
   clear k18
   refine wpIn_region_Zn (Nx w1) 21 (by kernel_rfl) ?_
   obtain⟨Z,G,hN',hG,hG'⟩:=class_par (C:=Nx w1) (x:=w1) (Nx.refl _)
   have r0:=fun z=>((hG' z).cell (p:=⟨p1,0,none⟩) hBl).trans c0
   have r1:=fun z=>((hG' z).cell (p:=⟨p1,1,none⟩) hBl).trans c1
   have r2:=fun z=>((hG' z).cell (p:=⟨p1,2,none⟩) hBl).trans c2
   have r3:=fun z=>((hG' z).cell (p:=⟨p1,3,none⟩) hBl).trans c3
   have r4:=fun z=>((hG' z).cell (p:=⟨p1,4,none⟩) hBl).trans c4
   have r5:=fun z=>((hG' z).cell (p:=⟨p1,5,none⟩) hBl).trans c5
   have r6:=fun z=>((hG' z).cell (p:=⟨p1,6,none⟩) hBl).trans c6
   have t0:=fun z=>((hG' z).cell (p:=⟨p2,0,none⟩) hp21).trans q0
   have t1:=fun z=>((hG' z).cell (p:=⟨p2,1,none⟩) hp21).trans q1
   have t2:=fun z=>((hG' z).cell (p:=⟨p2,2,none⟩) hp21).trans q2
   have tl:=fun z=>((hG' z).cell (p:=⟨lb,loff+k,none⟩) hlb1).trans lk1
   change Go.wpAnyZ _ _ _ _ _ _ _ _ 24 #[false,false,false,false,false,false,false,false,false,false,false,false,false,false,false,false,false,false,false,false,false,false,false,false] _ _
   obtain⟨n1',s1'⟩:Nx w1 w1.drew∧w1.drew.heap.size=w1.heap.size:=⟨Nx.drew (Nx.refl w1),rfl⟩
   generalize w1.drew=V at n1' s1' ⊢
   refine Go.zqE 0 hG (by kernel_rfl) (fun _ _ _ h=>by cases h.1) rfl ?_;intro o ho K hK;simp at ho;subst ho;gi_big_quiet_op;go_big_quiet_on
   refine Go.zqE 1 hG (by kernel_rfl) (fun _ _ _ h=>by cases h.1) rfl ?_;intro o ho K hK;simp at ho;subst ho;gi_big_quiet_op;go_big_quiet_on
   refine Go.zqE 2 hG (by kernel_rfl) (fun _ _ _ h=>by cases h.1) rfl ?_;intro o ho K hK;simp at ho;subst ho;gi_big_quiet_op;go_big_quiet_on
   refine Go.zqE 3 hG (by kernel_rfl) (fun _ _ _ h=>by cases h.1) rfl ?_;intro o ho K hK;simp at ho;subst ho;gi_big_quiet_op;go_big_quiet_on
   refine Go.zqE 4 hG (by kernel_rfl) (fun _ _ _ h=>by cases h.1) rfl ?_;intro o ho K hK;simp at ho;subst ho;gi_big_quiet_op;go_big_quiet_on
   refine Go.zqE 5 hG (by kernel_rfl) (fun _ _ _ h=>by cases h.1) rfl ?_;intro o ho K hK;simp at ho;subst ho;gi_big_quiet_op;go_big_quiet_on
   refine Go.zqE 6 hG (by kernel_rfl) (fun _ _ _ h=>by cases h.1) rfl ?_;intro o ho K hK;simp at ho;subst ho;gi_big_quiet_op;go_big_quiet_on
   refine Go.zqE 7 hG (by kernel_rfl) (fun _ _ _ h=>by cases h.1) rfl ?_;intro o ho K hK;simp at ho;subst ho;gi_big_quiet_op;go_big_quiet_on
   refine Go.zqE 8 hG (by kernel_rfl) (fun _ _ _ h=>by cases h.1) rfl ?_;intro o ho K hK;simp at ho;subst ho;gi_big_quiet_op;go_big_quiet_on
   refine Go.zqE 9 hG (by kernel_rfl) (fun _ _ _ h=>by cases h.1) rfl ?_;intro o ho K hK;simp at ho;subst ho;gi_big_quiet_op;go_big_quiet_on
   refine Go.zqE 10 hG (by kernel_rfl) (fun _ _ _ h=>by cases h.1) rfl ?_;intro o ho K hK;simp at ho;subst ho;gi_big_quiet_op;go_big_quiet_on
   refine Go.zqE 11 hG (by kernel_rfl) (fun _ _ _ h=>by cases h.1) rfl ?_;intro o ho K hK;simp at ho;subst ho;gi_big_quiet_op;go_big_quiet_on
   refine Go.zoE 12 (by kernel_rfl) rfl ?_ ?_;rotate_left;intro o ho K hK;simp at ho;subst ho
   gi_wp2_with (first | (gi_at_call 35;refine CallsIn.mono (k35 _ (ow1.trans (OldC.nx n1'))) ?_;rintro e w2 ⟨rfl,n2⟩) | gi_in)
   have n12:=n1'.trans n2
   refine Go.zqE 13 hG (by kernel_rfl) (fun _ _ _ h=>by cases h.1) rfl ?_;intro o ho K hK;simp at ho;subst ho;gi_big_quiet_op;go_big_quiet_on
   refine Go.zqE 14 hG (by kernel_rfl) (fun _ _ _ h=>by cases h.1) rfl ?_;intro o ho K hK;simp at ho;subst ho;gi_big_quiet_op;go_big_quiet_on
   refine Go.zqE 15 hG (by kernel_rfl) (fun _ _ _ h=>by cases h.1) rfl ?_;intro o ho K hK;simp at ho;subst ho;gi_big_quiet_op;go_big_quiet_on
   refine Go.zqE 16 hG (by kernel_rfl) (fun _ _ _ h=>by cases h.1) rfl ?_;intro o ho K hK;simp at ho;subst ho;gi_big_quiet_op;go_big_quiet_on
   refine Go.zqE 17 hG (by kernel_rfl) (fun _ _ _ h=>by cases h.1) rfl ?_;intro o ho K hK;simp at ho;subst ho;gi_big_quiet_op;go_big_quiet_on
   refine Go.zqE 18 hG (by kernel_rfl) (fun _ _ _ h=>by cases h.1) rfl ?_;intro o ho K hK;simp at ho;subst ho;gi_big_quiet_op;go_big_quiet_on
   refine Go.zqE 19 hG (by kernel_rfl) (fun _ _ _ h=>by cases h.1) rfl ?_;intro o ho K hK;simp at ho;subst ho;gi_big_quiet_op;go_big_quiet_on
   refine Go.zqE 20 hG (by kernel_rfl) (fun _ _ _ h=>by cases h.1) rfl ?_;intro o ho K hK;simp at ho;subst ho;gi_big_quiet_op;go_big_quiet_on
   clear r0 r1 r2 r3 r4 r5 r6 t0 t1 t2 tl hG hG' hN'
   refine Go.zoE 21 (by kernel_rfl) rfl ?_ ?_;rotate_left;intro o ho K hK;simp at ho;subst ho
   gi_wp2_with (first | (gi_at_call 52;refine CallsIn.mono (k52 _ (ow1.trans (OldC.nx n12))) ?_;rintro e w3 ⟨rfl,n3⟩) | gi_in)
   have n13:=n12.trans n3
   refine Go.zoE 22 (by kernel_rfl) rfl ?_ ?_;rotate_left;intro o ho K hK;simp at ho;subst ho
   gi_wp2_with fail
   refine Go.zoE 23 (by kernel_rfl) rfl ?_ ?_;rotate_left;intro o ho K hK;simp at ho;subst ho
   gi_wp2_with fail
   refine wpAnyZ_done (by kernel_rfl) (fun h=>absurd h (by decide)) ⟨rfl,?_⟩
   ·have ow3:=ow1.trans (OldC.nx n13)
    have gp3:=(n13.block _ hp21).trans gp1
    have hp23:p2<w3.heap.size:=Nat.lt_of_lt_of_le hp21 n13.size
    clear c0 c1 c2 c3 c4 c5 c6 q0 q1 q2 k35 k52 gp gp1
    have c0:=ow3.at (HB.out.at' 0 _ rfl)
    have c1:=ow3.at (HB.out.at' 1 _ rfl)
    have c2:=ow3.at (HB.out.at' 2 _ rfl)
    have c3:=ow3.at (HB.out.at' 3 _ rfl)
    have c4:=ow3.at (HB.out.at' 4 _ rfl)
    have c5:=ow3.at (HB.out.at' 5 _ rfl)
    have c6:=ow3.at (HB.out.at' 6 _ rfl)
    have q0:w3.cell? ⟨p2,0,none⟩=some (num s.w):=row_cell gp3 rfl
    have q1:w3.cell? ⟨p2,1,none⟩=some (num s.c):=row_cell gp3 rfl
    have q2:w3.cell? ⟨p2,2,none⟩=some (num s.h):=row_cell gp3 rfl
    have ak3:=ow3.at ak
    gi_upto_region 24 with fail
    refine wpIn_region_tail 7 rfl (by kernel_rfl) (by kernel_rfl) ?_
    simp only [List.take_succ_cons,List.take_zero,List.drop_succ_cons,List.drop_zero]
    repeat (gi_big_quiet_step (fail))
    refine wpQuietIn_nil ?_
    rintro w' ⟨nq,rfl⟩
    have nq4:Nx w3 (w3.drewN nq):=(Nx.refl w3).drewN nq
    generalize w3.drewN nq=w4 at nq4 ⊢
    have ow4:=ow3.trans (OldC.nx nq4)
    have g4:=(nq4.block p2 hp23).trans gp3
    have hp24:p2<w4.heap.size:=Nat.lt_of_lt_of_le hp23 nq4.size
    have k36:=k36 _ ow4
    clear c0 c1 c2 c3 c4 c5 c6 q0 q1 q2 ak3 gp3
    gi_upto_region 25 with (first | (gi_at_call 36;refine CallsIn.mono k36 ?_;rintro e w5 ⟨rfl,n5⟩;have g5:=(n5.block p2 hp24).trans g4;have y0:=row_cell (i:=0) g5 rfl;have y1:=row_cell (i:=1) g5 rfl;have y2:=row_cell (i:=2) g5 rfl;have z0:=row_frozen (i:=0) g5;have z1:=row_frozen (i:=1) g5;have z2:=row_frozen (i:=2) g5) | gi_in)
    have gV:=setSt (s':=s') g5
    have ow5:=ow4.trans (OldC.nx n5)
    have oV:=OldC.set (i:=2) (v:=num s'.h) (OldC.set (i:=1) (v:=num s'.c) (OldC.set (i:=0) (v:=num s'.w) ow5 hp2) hp2) hp2
    generalize ((w5.setCell ⟨p2,0,none⟩ (num s'.w)).setCell ⟨p2,1,none⟩ (num s'.c)).setCell ⟨p2,2,none⟩ (num s'.h)=V at gV oV ⊢
    clear y0 y1 y2 z0 z1 z2 g5 g4 k36
    have c0:=oV.at (HB.out.at' 0 _ rfl)
    have c1:=oV.at (HB.out.at' 1 _ rfl)
    have c2:=oV.at (HB.out.at' 2 _ rfl)
    have c3:=oV.at (HB.out.at' 3 _ rfl)
    have c4:=oV.at (HB.out.at' 4 _ rfl)
    have c5:=oV.at (HB.out.at' 5 _ rfl)
    have c6:=oV.at (HB.out.at' 6 _ rfl)
    have v0:V.cell? ⟨p2,0,none⟩=some (num s'.w):=row_cell gV rfl
    have v1:V.cell? ⟨p2,1,none⟩=some (num s'.c):=row_cell gV rfl
    have v2:V.cell? ⟨p2,2,none⟩=some (num s'.h):=row_cell gV rfl
    have hVp:p2<V.heap.size:=lt_row gV
    have k37:=k37 _ oV
    gi_wp2_with (first | (gi_at_call 37;refine CallsIn.mono k37 ?_;rintro e w6 ⟨rfl,n6⟩) | gi_in)
    exact⟨⟨k+1,s',hlt,by simp,hN.out,oV.trans (OldC.nx n6),(n6.block p2 hVp).trans gV⟩,by simp [intOf];omega⟩
   all_goals (intro _;first | exact n1' | exact n12 | exact n13 | contradiction)
  ·obtain rfl:k=d.steps.length:=by omega
   have b1:decide (((d.steps.length:Nat):Int)<(d.steps.length:Int))=false:=decide_eq_false (by omega)
   have hs:=Lib.hid hs
   have gp:=Lib.hid gp
   have ow:=Lib.hid ow
   gi_wp2
   exact⟨⟨rfl,rfl,rfl,rfl⟩,s,hs.out,ow.out,gp.out⟩
end Go.Proofs.Ytedomogjmhommaa
namespace Go.Proofs.Ytedomogjmhommaa
open Go.RowKit Go.Con Go.Conc
noncomputable def b7:Code:=match Try.f7.body with | some c=>c | none=>.skip
end Go.Proofs.Ytedomogjmhommaa
namespace Go.Proofs.Ytedomogjmhommaa
open Go.RowKit Go.Con Go.Conc Go.Shelf
local instance dryI117:Lone:=dryL
section
variable {dst:Option Nat} {ty:TypeId} {pos:String} {af:Array Edge} {gd:Option (Nat×Bool)} {x y:Nat}
theorem len25_run (e:Operand→Value) {w:World} {a:Option Addr} {n k:Nat} (h:e (.tmp x)=.slice a n k) (τ:Tape):(execOp e ⟨dst,.call { callee:=.builtin .len,args:=#[.tmp x],argTypes:=#[25] },ty,pos,af,gd⟩).run Try.prog { w with tape:=τ }=.ok (.value (num n)) { w with tape:=τ }:=by
 simp [execOp,resolve,invoke,builtin,go_sem,h,Try.underlying25]
theorem fa27_4_run (e:Operand→Value) {w:World} {b:Nat} (h:e (.tmp x)=ptr b) (τ:Tape):(execOp e ⟨dst,.fieldAddr 27 (.tmp x) 4,ty,pos,af,gd⟩).run Try.prog { w with tape:=τ }=.ok (.value (.pointer (some ⟨b,6,none⟩))) { w with tape:=τ }:=by
 simp [execOp,go_sem,h,Try.underlying27]
theorem load25_run (e:Operand→Value) {w:World} {a:Addr} {v:Value} (h:e (.tmp x)=.pointer (some a)) (hc:w.cell? a=some v) (τ:Tape):(execOp e ⟨dst,.load 25 (.tmp x),ty,pos,af,gd⟩).run Try.prog { w with tape:=τ }=.ok (.value v) { w with tape:=τ }:=by
 have hc' : ({ w with tape:=τ }:World).cell? a=some v:=hc
 simp [execOp,go_sem,h,hc',Try.underlying25]
end
end Go.Proofs.Ytedomogjmhommaa
namespace Go.Proofs.Ytedomogjmhommaa
open Go.RowKit Go.Con Go.Conc Go.Shelf
local instance dryI141:Lone:=dryL
section
variable {dst:Option Nat} {ty:TypeId} {pos:String} {af:Array Edge} {gd:Option (Nat×Bool)} {x y:Nat}
theorem ix33_run (e:Operand→Value) {w:World} {b o n c j:Nat} (h:e (.tmp x)=.slice (some ⟨b,o,none⟩) n c) (h2:e (.tmp y)=num j) (hn:j<n) (τ:Tape):(execOp e ⟨dst,.indexAddr 33 (.tmp x) (.tmp y),ty,pos,af,gd⟩).run Try.prog { w with tape:=τ }=.ok (.value (.pointer (some ⟨b,o+j,none⟩))) { w with tape:=τ }:=by
 simp [execOp,go_sem,h,h2,hn]
theorem load69_run (e:Operand→Value) {w:World} {a:Addr} {v:Value} (h:e (.tmp x)=.pointer (some a)) (hc:w.cell? a=some v) (τ:Tape):(execOp e ⟨dst,.load 69 (.tmp x),ty,pos,af,gd⟩).run Try.prog { w with tape:=τ }=.ok (.value v) { w with tape:=τ }:=by
 have hc' : ({ w with tape:=τ }:World).cell? a=some v:=hc
 simp [execOp,go_sem,h,hc',Try.underlying69]
theorem load24_run (e:Operand→Value) {w:World} {b:Nat} {s:St} (h:e (.tmp x)=ptr b) (c0:w.cell? ⟨b,0,none⟩=some (num s.w)) (c1:w.cell? ⟨b,1,none⟩=some (num s.c)) (c2:w.cell? ⟨b,2,none⟩=some (num s.h)) (τ:Tape):(execOp e ⟨dst,.load 24 (.tmp x),ty,pos,af,gd⟩).run Try.prog { w with tape:=τ }=.ok (.value s.val) { w with tape:=τ }:=by
 have d0:({ w with tape:=τ }:World).cell? ⟨b,0,none⟩=some (num s.w):=c0
 have d1:({ w with tape:=τ }:World).cell? ⟨b,1,none⟩=some (num s.c):=c1
 have d2:({ w with tape:=τ }:World).cell? ⟨b,2,none⟩=some (num s.h):=c2
 simp [execOp,go_sem,h,d0,d1,d2]
end
noncomputable def ops14_7:Array Oper:=opsOf x14_7
theorem x14_7_eq:x14_7=.region 7 ops14_7 false:=by kernel_rfl
noncomputable def ops14_27:Array Oper:=opsOf x14_27
theorem x14_27_eq:x14_27=.region 27 ops14_27 true:=by kernel_rfl
noncomputable def b52:Code:=match Try.f52.body with | some c=>c | none=>.skip
theorem body52_of:Try.f52.body=some b52:=by kernel_rfl
theorem results14 (v:Value) (t:Array Value) (h:t[4]?=some v) (σ:Rn):ResultsC Try.prog Try.f14 (t.map (ren σ)) (ren σ v):=by
 have:=resultsC_tmp (P:=Try.prog) (fn:=Try.f14) (t:=4) rfl (t.map (ren σ))
 simp only [Array.getD_eq_getD_getElem?,Array.getElem?_map,h,Option.map_some,Option.getD_some] at this
 exact this
theorem true_end7 (E Fz Arg:Nat→Prop) (W0:World) (Post:Value→World→Prop) (φ:Ph) (W:World)  {kk:List Item} (t:Array Value) (hs:t.size=160) (m6:t[6]?=some (.bool true))
  (hPost:∀ Fz1 ρ D own A fr W1 W',Here Try.prog true E Fz1 Arg W0 ρ D own A fr [] W1 W'→Post (ren ρ (.bool true)) W') :
  GoM Try.prog true E Fz Arg W0 (AtEnd Try.prog Post) φ [] (Fr 14 t (.code x14_7 :: .code .ret :: kk)) [] W:=by
 rw [x14_7_eq]
 refine Gm.regionSeq (fun x=>OldC W x) (fun i=>([.bool true,.bool true,.bool true,.bool true,.bool true]:List Value).getD i undef) (by rw [hs];kernel_rfl) (OldC.refl _) ?_ ?_
 ·intro i hi t W1 Fz φ rest hC hsz hgot hold hk
  rw [show ops14_7.size=5 by kernel_rfl] at hi
  match i,hi with
  | 0,_ =>
    have e0:t[6]?=some (.bool true):=(hold 6 (by kernel_rfl)).trans m6
    exact Gm.op (.bool true) W1 rfl rfl (by kernel_rfl) rfl (mv_run _ (eval_tmp e0)) id (hk W1 Fz φ hC)
  | 1,_ =>
    have e0:t[58]?=some (.bool true):=hgot 0 58 (by kernel_rfl) (by kernel_rfl)
    exact Gm.op (.bool true) W1 rfl rfl (by kernel_rfl) rfl (mv_run _ (eval_tmp e0)) id (hk W1 Fz φ hC)
  | 2,_ =>
    have eg:t[59]?=some (.bool true):=hgot 1 59 (by kernel_rfl) (by kernel_rfl)
    refine Gm.enter (o:=⟨some 60,.call { callee:=.value (.func 17),args:=#[],argTypes:=#[] },_,_,_,some (1,true)⟩) (c:={ callee:=.value (.func 17),args:=#[],argTypes:=#[] }) (g:=17) (fn:=Try.f17) (body:=b17) rfl (wanted_guard (i:=1) (b:=true) (d:=59) rfl rfl eg) rfl rfl (by kernel_rfl) Try.func17 body17_of (by kernel_rfl) ?_
    refine dries_go E Fz Arg W0 _ φ _ [] W1 _ (by simp [Try.ntmps17]) fun φ1 W5 Fz1 o5=>?_
    rw [Fr_finish rfl]
    exact hk W5 Fz1 φ1 (hC.trans o5)
  | 3,_ =>
    have ea:t[59]?=some (.bool true):=hgot 1 59 (by kernel_rfl) (by kernel_rfl)
    have eb:t[60]?=some (.bool true):=hgot 2 60 (by kernel_rfl) (by kernel_rfl)
    exact Gm.op (.bool true) W1 rfl rfl (by kernel_rfl) rfl (pick_run _ (eval_tmp ea) (eval_tmp eb)) id (hk W1 Fz φ hC)
  | 4,_ =>
    have e0:t[61]?=some (.bool true):=hgot 3 61 (by kernel_rfl) (by kernel_rfl)
    exact Gm.op (.bool true) W1 rfl rfl (by kernel_rfl) rfl (as_run _ (eval_tmp e0)) id (hk W1 Fz φ hC)
  | n+5,h=>exact absurd h (by omega)
 ·intro t W1 Fz φ hC hsz hgot hold
  have e6:t[4]?=some (.bool true):=hgot 4 4 (by kernel_rfl)
  refine Gm.done Try.func14 (by kernel_rfl) (results14 (.bool true) _ e6) ?_
  exact fun ρ D own A fr W' h=>hPost _ ρ D own A fr _ W' h
theorem true_end (E Fz Arg:Nat→Prop) (W0:World) (Post:Value→World→Prop) (φ:Ph) (W:World) (s:St) (p1 p2 lb loff ll lcap n sc:Nat) (sa:Option Addr) (vu:Value) (L:List St) {kk:List Item} (t:Array Value) (hs:t.size=160) (m2:t[2]?=some (ptr p1)) (m5:t[5]?=some (.slice (some ⟨lb,loff,none⟩) ll lcap)) (m12:t[12]?=some (ptr p2)) (q6:W.cell? ⟨p1,6,none⟩=some (.slice sa n sc)) (hn:n<ll) (ql:W.cell? ⟨lb,loff+n,none⟩=some vu) (q0:W.cell? ⟨p2,0,none⟩=some (num s.w)) (q1:W.cell? ⟨p2,1,none⟩=some (num s.c)) (q2:W.cell? ⟨p2,2,none⟩=some (num s.h)) (hL:Sl W vu 3 (L.map St.cells)) (hl:L.length≤1000000000) (hxI:∀ x∈L,StI x) (hsI:StI s) (hmem:s∈L)
  (hPost:∀ Fz1 ρ D own A fr W1 W',Here Try.prog true E Fz1 Arg W0 ρ D own A fr [] W1 W'→Post (ren ρ (.bool true)) W') :
  GoM Try.prog true E Fz Arg W0 (AtEnd Try.prog Post) φ [] (Fr 14 t (.code x14_27 :: .code .ret :: kk)) [] W:=by
 rw [x14_27_eq]
 refine Gm.regionAny (by kernel_rfl) (fun x=>OldC W x) (fun i=>([.slice (some ⟨lb,loff,none⟩) ll lcap,.pointer (some ⟨p1,6,none⟩),.slice sa n sc,num n,.pointer (some ⟨lb,loff+n,none⟩),vu,s.val,.bool true,.bool true,.bool true,.bool true,.bool true]:List Value).getD i undef) (by rw [hs];kernel_rfl) (OldC.same rfl) ?_ ?_
 ·intro i hi t W1 Fz φ rest hC hsz hgot hold hk
  rw [show ops14_27.size=12 by kernel_rfl] at hi
  match i,hi with
  | 0,_ =>
    have e0:t[5]?=some (.slice (some ⟨lb,loff,none⟩) ll lcap):=(hold 5 (by kernel_rfl)).trans m5
    exact Gm.op (.slice (some ⟨lb,loff,none⟩) ll lcap) W1 rfl rfl (by kernel_rfl) rfl (mv_run _ (eval_tmp e0)) id (hk W1 Fz φ hC)
  | 1,_ =>
    have e0:t[2]?=some (ptr p1):=(hold 2 (by kernel_rfl)).trans m2
    exact Gm.op (.pointer (some ⟨p1,6,none⟩)) W1 rfl rfl (by kernel_rfl) rfl (fa27_4_run _ (eval_tmp e0)) id (hk W1 Fz φ hC)
  | 2,_ =>
    have e0:t[150]?=some (.pointer (some ⟨p1,6,none⟩)):=hgot 1 150 (by kernel_rfl) (by kernel_rfl)
    exact Gm.op (.slice sa n sc) W1 rfl rfl (by kernel_rfl) rfl (load25_run _ (eval_tmp e0) (hC.at q6)) id (hk W1 Fz φ hC)
  | 3,_ =>
    have e0:t[151]?=some (.slice sa n sc):=hgot 2 151 (by kernel_rfl) (by kernel_rfl)
    exact Gm.op (num n) W1 rfl rfl (by kernel_rfl) rfl (len25_run _ (eval_tmp e0)) id (hk W1 Fz φ hC)
  | 4,_ =>
    have e0:t[149]?=some (.slice (some ⟨lb,loff,none⟩) ll lcap):=hgot 0 149 (by kernel_rfl) (by kernel_rfl)
    have e1:t[152]?=some (num n):=hgot 3 152 (by kernel_rfl) (by kernel_rfl)
    exact Gm.op (.pointer (some ⟨lb,loff+n,none⟩)) W1 rfl rfl (by kernel_rfl) rfl (ix33_run _ (eval_tmp e0) (eval_tmp e1) hn) id (hk W1 Fz φ hC)
  | 5,_ =>
    have e0:t[153]?=some (.pointer (some ⟨lb,loff+n,none⟩)):=hgot 4 153 (by kernel_rfl) (by kernel_rfl)
    exact Gm.op (vu) W1 rfl rfl (by kernel_rfl) rfl (load69_run _ (eval_tmp e0) (hC.at ql)) id (hk W1 Fz φ hC)
  | 6,_ =>
    have e0:t[12]?=some (ptr p2):=(hold 12 (by kernel_rfl)).trans m12
    exact Gm.op (s.val) W1 rfl rfl (by kernel_rfl) rfl (load24_run _ (eval_tmp e0) (hC.at q0) (hC.at q1) (hC.at q2)) id (hk W1 Fz φ hC)
  | 7,_ =>
    have a0:t[154]?=some (vu):=hgot 5 154 (by kernel_rfl) (by kernel_rfl)
    have a1:t[155]?=some (s.val):=hgot 6 155 (by kernel_rfl) (by kernel_rfl)
    refine Gm.call (F:=FW) (n:=0) (j:=4) (o:=⟨some 156,.call { callee:=.value (.func 52),args:=#[.tmp 154,.tmp 155],argTypes:=#[69,24] },_,_,_,none⟩) (c:={ callee:=.value (.func 52),args:=#[.tmp 154,.tmp 155],argTypes:=#[69,24] }) (R:=fun v W'=>v=.bool true∧OldC W1 W') (args:=#[vu,s.val]) rfl FW_ok rfl rfl rfl rfl (by kernel_rfl) Try.func52 body52_of (by kernel_rfl) (by kernel_rfl) (FW_ok 52 trivial (by kernel_rfl)) rfl ?_ (fun τ=>?_) ?_
    ·simp only [List.map_toArray,List.map_cons,List.map_nil,show (Fr 14 t []).eval (.tmp 154)=vu from eval_tmp a0,show (Fr 14 t []).eval (.tmp 155)=s.val from eval_tmp a1]
    ·exact one_back (by have:=has52_any vu L s { W1 with tape:=τ } (hL.oc (hC.trans (OldC.same rfl))) hl hxI hsI;rw [decide_eq_true hmem] at this;exact this)
    ·rintro v W' ⟨rfl,o⟩
     exact hk W' Fz φ (hC.trans o)
  | 8,_ =>
    have e0:t[156]?=some (.bool true):=hgot 7 156 (by kernel_rfl) (by kernel_rfl)
    exact Gm.op (.bool true) W1 rfl rfl (by kernel_rfl) rfl (mv_run _ (eval_tmp e0)) id (hk W1 Fz φ hC)
  | 9,_ =>
    have eg:t[157]?=some (.bool true):=hgot 8 157 (by kernel_rfl) (by kernel_rfl)
    refine Gm.enter (o:=⟨some 158,.call { callee:=.value (.func 17),args:=#[],argTypes:=#[] },_,_,_,some (8,true)⟩) (c:={ callee:=.value (.func 17),args:=#[],argTypes:=#[] }) (g:=17) (fn:=Try.f17) (body:=b17) rfl (wanted_guard (i:=8) (b:=true) (d:=157) rfl rfl eg) rfl rfl (by kernel_rfl) Try.func17 body17_of (by kernel_rfl) ?_
    refine dries_go E Fz Arg W0 _ φ _ [] W1 _ (by simp [Try.ntmps17]) fun φ1 W5 Fz1 o5=>?_
    rw [Fr_finish rfl]
    exact hk W5 Fz1 φ1 (hC.trans o5)
  | 10,_ =>
    have ea:t[157]?=some (.bool true):=hgot 8 157 (by kernel_rfl) (by kernel_rfl)
    have eb:t[158]?=some (.bool true):=hgot 9 158 (by kernel_rfl) (by kernel_rfl)
    exact Gm.op (.bool true) W1 rfl rfl (by kernel_rfl) rfl (pick_run _ (eval_tmp ea) (eval_tmp eb)) id (hk W1 Fz φ hC)
  | 11,_ =>
    have e0:t[159]?=some (.bool true):=hgot 10 159 (by kernel_rfl) (by kernel_rfl)
    exact Gm.op (.bool true) W1 rfl rfl (by kernel_rfl) rfl (as_run _ (eval_tmp e0)) id (hk W1 Fz φ hC)
  | n+12,h=>exact absurd h (by omega)
 ·intro t W1 Fz φ hC hsz hgot hold
  have e6:t[4]?=some (.bool true):=hgot 11 4 (by kernel_rfl)
  refine Gm.done Try.func14 (by kernel_rfl) (results14 (.bool true) _ e6) ?_
  exact fun ρ D own A fr W' h=>hPost _ ρ D own A fr _ W' h
end Go.Proofs.Ytedomogjmhommaa
