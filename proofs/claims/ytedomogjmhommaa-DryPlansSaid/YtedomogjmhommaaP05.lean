import Derived.Test.YtedomogjmhommaaP04
set_option linter.all false
set_option maxRecDepth 100000
set_option maxHeartbeats 8000000
namespace Go.Proofs.Ytedomogjmhommaa
open Go.RowKit Go.Shelf
theorem zd7 {w:World} {b:Nat} {x0 x1 v0 v1:Value} {fz:Nat×Nat} (h:w.heap[b]?=some (.cells #[x0,x1] 45 fz)):((w.setCell ⟨b,0,none⟩ v0).setCell ⟨b,1,none⟩ v1).heap[b]?=some (.cells #[v0,v1] 45 fz):=zaA (zaA h)
def zfY (p:Int×Int) (k:Nat) (x:Int):Int×Int:=if k=0 then (x,x) else (min p.1 x,max p.2 x)
theorem zjK (f:St→Int) (L:List St) (s:St):zco f (L++[s])=zfY (zco f L) L.length (f s):=by
 cases L with
 | nil=>rfl
 | cons a L =>
  unfold zfY
  rw [if_neg (by simp)]
  show (List.foldl _ _ (L++[s]),List.foldl _ _ (L++[s]))=_
  rw [List.foldl_append,List.foldl_append]
  rfl
theorem zqC {t:Array Value} {W:World} {p4 p5:Nat} {x0 x1 y0 y1 f:Int} {fz fz' : Nat×Nat} (h4:t[4]?=some (ptr p4)) (h5:t[5]?=some (ptr p5)) (h6:t[6]?=some (num f)) (g4:W.heap[p4]?=some (.cells #[num x0,num x1] 45 fz)) (g5:W.heap[p5]?=some (.cells #[num y0,num y1] 45 fz')):(results Try.f29 t).run Try.prog W=.ok (.tuple #[spV (x0,x1),spV (y0,y1),num f]) W:=by
 have c0:=zaa (i:=0) g4 rfl
 have c1:=zaa (i:=1) g4 rfl
 have d0:=zaa (i:=0) g5 rfl
 have d1:=zaa (i:=1) g5 rfl
 simp [results,Try.results29,go_sem,h4,h5,h6,c0,c1,d0,d1]
theorem zkS (d:Dry) (r:R2) (u:Value) (plan:List Int) (w:World) (hd:DrySl w d r) (hu:Sl w u 1 (plan.map one)) (hl:plan.length≤1000000000) :
  CallsIn FW 0 Try.prog 29 #[d.val r,u] w fun e w'=>e=.returned (.tuple #[spV (zfN d plan).1,spV (zfN d plan).2.1,num (zfN d plan).2.2])∧Nx w w':=by
 have k39:=fun (w1:World) (n:Nx w w1)=>zhS d r u plan w1 (hd.nx n) (hu.nx n) hl
 have k69:=fun (hO:d.Ok) (w1:World) (n:Nx w w1)=>zfb d r w1 (hd.nx n) hO
 have k76:=fun (hO:d.Ok) (hP:∀ a∈zaH d.steps,PA d plan a) (a:List Int) (ha:a∈zaH d.steps) (v:Value) (w1:World) (n:Nx w w1) (hv:Sl w1 v 1 (a.map one))=>zm6 d r u v plan a w1 (hd.nx n) hO (hP a ha) (hu.nx n) hv hl
 obtain⟨rh,rs⟩:=r
 obtain⟨ha,hcap,e1⟩:=hd.heats.cases
 obtain⟨sa,scap,e2⟩:=hd.steps.cases
 dsimp only at e1 e2
 rw [List.length_map] at e1 e2
 subst e1 e2
 obtain⟨ua,ucap,rfl⟩:=hu.cases
 rw [List.length_map] at *
 obtain⟨pl,hpe⟩:∃ n,plan.length=n:=⟨_,rfl⟩
 have HPE:=Lib.hid hpe
 have HPL:=Lib.hid (show plan.length≤1000000000 from hl)
 rw [hpe] at k39 k76
 rw [hpe]
 clear hd hu hpe hl
 obtain⟨g,hg⟩:∃ g,zfN d plan=g:=⟨_,rfl⟩
 rw [hg]
 have HG:=Lib.hid hg
 clear hg
 gi_enter Try.func29,Try.ntmps29
 gi_upto_region 1 with fail
 generalize hW:((w.alloc _).alloc _).alloc _=W
 obtain⟨nW,sW,g0,g4,g5⟩:=al3 hW
 clear hW
 have hbW:DBox W w.heap.size d ⟨.slice ha d.heats.length hcap,.slice sa d.steps.length scap⟩:=⟨by omega,fun i v h=>zaa g0 h⟩
 generalize hA:w.heap.size=A at *
 have c0:=hbW.at' 0 _ rfl
 have c1:=hbW.at' 1 _ rfl
 have c2:=hbW.at' 2 _ rfl
 have c3:=hbW.at' 3 _ rfl
 have c4:=hbW.at' 4 _ rfl
 have c5:=hbW.at' 5 _ rfl
 have c6:=hbW.at' 6 _ rfl
 by_cases hp:zbp d plan=0
 case neg =>
  have HR:Hid (g=((0,0),(0,0),zbp d plan)):=by show _=_;rw [← HG.out];unfold zfN;rw [if_pos hp]
  have b1:(zbp d plan != 0)=true:=by simpa using hp
  generalize zbp d plan=f at *
  clear hp k76 k69
  gi_upto_region 3 with (first | (gi_at_call 39;refine CallsIn.mono (k39 _ nW) ?_;rintro e w2 ⟨rfl,n2⟩) | gi_in)
  have h4:=(n2.block _ (by omega)).trans g4
  have h5:=(n2.block _ (by omega)).trans g5
  have y0:=zaa (i:=0) h4 rfl
  have y1:=zaa (i:=1) h4 rfl
  have z0:=zac (i:=0) h4
  have z1:=zac (i:=1) h4
  have y2:=zaa (i:=0) h5 rfl
  have y3:=zaa (i:=1) h5 rfl
  have z2:=zac (i:=0) h5
  have z3:=zac (i:=1) h5
  clear c0 c1 c2 c3 c4 c5 c6
  gi_wp2
  refine bodyPost_ret (v:=.tuple #[spV (0,0),spV (0,0),num f]) (zqC rfl rfl rfl ((zae (by omega)).trans ((zae (by omega)).trans (zd7 h4))) (zd7 ((zae (by omega)).trans ((zae (by omega)).trans h5)))) rfl ⟨by rw [HR.out]<;>rfl,Nx.set (Nx.set (Nx.set (Nx.set (nW.trans n2) (by omega)) (by omega)) (by omega)) (by omega)⟩
 case pos =>
 obtain⟨hO,hpl,hpb⟩:=zcR hp
 have HR:Hid (g=(zco (fun s=>d.start.w-s.w) (zjd d plan),zco (fun s=>d.start.c-s.c) (zjd d plan),0)):=by show _=_;rw [← HG.out];unfold zfN;rw [if_neg (fun h=>h hp)]
 have k69:=k69 hO
 have k76:=k76 hO (fun a ha=>zfe hO hpl hpb ha)
 rw [hp] at k39
 have hcnt:=zfd hO
 have hne:=zj9 hO
 have HST:Hid (∀ a∈zaH d.steps,(stAt d d.start plan a plan.length).Ok d.heats.length):=fun a ha=>ziO hO (zfe hO hpl hpb ha) (stF_ok.1 hO.start) _ (Nat.le_refl _)
 have hst:=stF_ok.1 hO.start
 have hw0:=hst.w
 have hc0:=hst.c
 clear hp hpb hpl hO HG hst
 gi_upto_region 4 with (first | (gi_at_call 39;refine CallsIn.mono (k39 _ nW) ?_;rintro e w2 ⟨rfl,n2⟩) | gi_in)
 have hb2:=hbW.nx n2
 have nw2:=nW.trans n2
 have h4:=(n2.block _ (by omega)).trans g4
 have h5:=(n2.block _ (by omega)).trans g5
 have s2:=n2.size
 clear c0 c1 c2 c3 c4 c5 c6 g4 g5 g0
 have c0:=hb2.at' 0 _ rfl
 have c1:=hb2.at' 1 _ rfl
 have c2:=hb2.at' 2 _ rfl
 have c3:=hb2.at' 3 _ rfl
 have c4:=hb2.at' 4 _ rfl
 have c5:=hb2.at' 5 _ rfl
 have c6:=hb2.at' 6 _ rfl
 gi_upto_region 5 with (first | (gi_at_call 69;refine CallsIn.mono (k69 _ nw2) ?_;rintro e w3 ⟨vM,rfl,n3,hM⟩) | gi_in)
 have s3:=n3.size
 have hb3:=hb2.nx n3
 have nw3:=nw2.trans n3
 have h4:=(n3.block _ (by omega)).trans h4
 have h5:=(n3.block _ (by omega)).trans h5
 obtain⟨mb,mo,mc,vs,rfl,hmb,hrd⟩:=hM.read hne
 have HRD:=Lib.hid hrd
 clear c0 c1 c2 c3 c4 c5 c6 hM hrd k39 k69
 have HMM:Hid (zjd d plan=(zaH d.steps).map fun a=>stAt d d.start plan a plan.length):=rfl
 generalize hMM:zaH d.steps=M at *
 gi_upto_region 6 with fail
 generalize hX:(w3.alloc _).alloc _=X
 obtain⟨nX,sX,gX,gY⟩:=al2 hX
 clear hX
 have hA3:A+3≤w3.heap.size:=by omega
 generalize hB3:w3.heap.size=B3 at *
 gi_wp2
 gi_loopw [11] (fun i wr=>∃ k:Nat,k≤M.length∧i=num k∧Nx w3 wr∧wr.heap[B3]?=some (.cells #[num (zco (fun s=>d.start.w-s.w) ((M.take k).map fun a=>stAt d d.start plan a plan.length)).1,num (zco (fun s=>d.start.w-s.w) ((M.take k).map fun a=>stAt d d.start plan a plan.length)).2] 45 (0,0))∧wr.heap[B3+1]?=some (.cells #[num (zco (fun s=>d.start.c-s.c) ((M.take k).map fun a=>stAt d d.start plan a plan.length)).1,num (zco (fun s=>d.start.c-s.c) ((M.take k).map fun a=>stAt d d.start plan a plan.length)).2] 45 (0,0))) (fun i _=>M.length-(intOf i).toNat)
 case atStart=>exact⟨0,Nat.zero_le _,rfl,nX,gX,gY⟩
 case round =>
  obtain⟨WR,hren⟩:∃ z,z=wr:=⟨_,rfl⟩
  subst hren
  obtain⟨k,hk,rfl,nr,e9,e10⟩:=hrel
  have hbr:=hb3.nx nr
  have c0:=hbr.at' 0 _ rfl
  have c1:=hbr.at' 1 _ rfl
  have c2:=hbr.at' 2 _ rfl
  have c3:=hbr.at' 3 _ rfl
  have c4:=hbr.at' 4 _ rfl
  have c5:=hbr.at' 5 _ rfl
  have c6:=hbr.at' 6 _ rfl
  by_cases hlt:k<M.length
  ·have hp:M[k]?=some M[k]:=List.getElem?_eq_getElem hlt
   generalize M[k]=a at hp
   obtain⟨aa,ac,ca,hsa⟩:=HRD.out k a hp
   have k76:=fun (w1:World) (n:Nx w3 w1)=>k76 a (List.mem_of_getElem? hp) _ w1 (nw3.trans n) (hsa.nx n)
   have hso:=HST.out a (List.mem_of_getElem? hp)
   have hN1:Hid (zco (fun s=>d.start.w-s.w) ((M.take (k+1)).map fun a=>stAt d d.start plan a plan.length)=zfY (zco (fun s=>d.start.w-s.w) ((M.take k).map fun a=>stAt d d.start plan a plan.length)) k (d.start.w-(stAt d d.start plan a plan.length).w)):=by
    show _=_
    rw [zcn hp,List.map_append]
    have:=zjK (fun s=>d.start.w-s.w) ((M.take k).map fun a=>stAt d d.start plan a plan.length) (stAt d d.start plan a plan.length)
    rw [List.length_map,List.length_take,Nat.min_eq_left (by omega)] at this
    exact this
   have hN2:Hid (zco (fun s=>d.start.c-s.c) ((M.take (k+1)).map fun a=>stAt d d.start plan a plan.length)=zfY (zco (fun s=>d.start.c-s.c) ((M.take k).map fun a=>stAt d d.start plan a plan.length)) k (d.start.c-(stAt d d.start plan a plan.length).c)):=by
    show _=_
    rw [zcn hp,List.map_append]
    have:=zjK (fun s=>d.start.c-s.c) ((M.take k).map fun a=>stAt d d.start plan a plan.length) (stAt d d.start plan a plan.length)
    rw [List.length_map,List.length_take,Nat.min_eq_left (by omega)] at this
    exact this
   rw [HPE.out] at hN1 hN2 hso e9 e10
   have ca':=(nr.cell (p:=⟨mb,mo+k,none⟩) (by rw [hB3];exact hmb)).trans ca
   obtain⟨al,hal⟩:∃ n,a.length=n:=⟨_,rfl⟩
   rw [hal] at ca' k76
   have hsw:=hso.w
   have hsc:=hso.c
   have hBl:=hbr.lt
   have hB9:B3+1<WR.heap.size:=zav e10
   generalize hP1:zco (fun s=>d.start.w-s.w) ((M.take k).map fun a=>stAt d d.start plan a pl)=p1 at *
   generalize hP2:zco (fun s=>d.start.c-s.c) ((M.take k).map fun a=>stAt d d.start plan a pl)=p2 at *
   generalize hS1:stAt d d.start plan a pl=s at *
   clear hp hsa hal hso ca
   gi_upto_region 9 with fail
   refine zat (Nx WR) 6 (by kernel_rfl) ?_
   obtain⟨Z,G,hN,hG,hG'⟩:=zaC (C:=Nx WR) (x:=WR) (Nx.refl _)
   have r0:=fun z=>((hG' z).cell (p:=⟨A,0,none⟩) hBl).trans c0
   have r1:=fun z=>((hG' z).cell (p:=⟨A,1,none⟩) hBl).trans c1
   have r2:=fun z=>((hG' z).cell (p:=⟨A,2,none⟩) hBl).trans c2
   have r3:=fun z=>((hG' z).cell (p:=⟨A,3,none⟩) hBl).trans c3
   have r4:=fun z=>((hG' z).cell (p:=⟨A,4,none⟩) hBl).trans c4
   have r5:=fun z=>((hG' z).cell (p:=⟨A,5,none⟩) hBl).trans c5
   have r6:=fun z=>((hG' z).cell (p:=⟨A,6,none⟩) hBl).trans c6
   have t0:=fun z=>((hG' z).cell (p:=⟨mb,mo+k,none⟩) (by have:=nr.size;show mb<_;omega)).trans ca'
   change Go.wpAnyZ _ _ _ _ _ _ _ _ 9 #[false,false,false,false,false,false,false,false,false] _ _
   obtain⟨n1,s1⟩:Nx WR WR.drew∧WR.drew.heap.size=WR.heap.size:=⟨Nx.drew (Nx.refl WR),rfl⟩
   generalize WR.drew=V at n1 s1 ⊢
   clear s1
   refine Go.zqE 0 hG (by kernel_rfl) (fun _ _ _ h=>by cases h.1) rfl ?_;intro o ho K hK;simp at ho;subst ho;gi_big_quiet_op;go_big_quiet_on
   refine Go.zqE 1 hG (by kernel_rfl) (fun _ _ _ h=>by cases h.1) rfl ?_;intro o ho K hK;simp at ho;subst ho;gi_big_quiet_op;go_big_quiet_on
   refine Go.zqE 2 hG (by kernel_rfl) (fun _ _ _ h=>by cases h.1) rfl ?_;intro o ho K hK;simp at ho;subst ho;gi_big_quiet_op;go_big_quiet_on
   refine Go.zqE 3 hG (by kernel_rfl) (fun _ _ _ h=>by cases h.1) rfl ?_;intro o ho K hK;simp at ho;subst ho;gi_big_quiet_op;go_big_quiet_on
   refine Go.zqE 4 hG (by kernel_rfl) (fun _ _ _ h=>by cases h.1) rfl ?_;intro o ho K hK;simp at ho;subst ho;gi_big_quiet_op;go_big_quiet_on
   refine Go.zqE 5 hG (by kernel_rfl) (fun _ _ _ h=>by cases h.1) rfl ?_;intro o ho K hK;simp at ho;subst ho;gi_big_quiet_op;go_big_quiet_on
   clear r0 r1 r2 r3 r4 r5 r6 t0 hG hG' hN
   refine Go.zwE 6 7 (by kernel_rfl) rfl rfl ?_ ?_ ?_;rotate_left;(all_goals (try (intro o ho K hK;simp at ho;subst ho)))
   ·gi_wp2_with (first | (gi_at_call 76;refine CallsIn.mono (k76 _ (nr.trans n1)) ?_;rintro e w5 ⟨rfl,n5⟩) | gi_in)
    refine Go.zoE 7 (by kernel_rfl) rfl ?_ ?_;rotate_left;intro o ho K hK;simp at ho;subst ho
    gi_wp2_with fail
    generalize hY:w5.alloc _=Y
    obtain⟨nY,sY,gS⟩:=al1 hY
    have hPB:B3+1<w5.heap.size:=by have:=(n1.trans n5).size;omega
    generalize w5.heap.size=P12 at *
    clear hY
    have y0:=zaa (i:=0) gS rfl
    have y1:=zaa (i:=1) gS rfl
    have y2:=zaa (i:=2) gS rfl
    have z0:=zac (i:=0) gS
    have z1:=zac (i:=1) gS
    have z2:=zac (i:=2) gS
    have nRY:=n1.trans (n5.trans nY)
    refine Go.zoE 8 (by kernel_rfl) rfl ?_ ?_;rotate_left;intro o ho K hK;simp at ho;subst ho
    gi_wp2_with fail
    refine zar (by kernel_rfl) (fun h=>absurd h (by decide)) ⟨rfl,?_⟩
    ·have gV:=set3 (v0:=num s.w) (v1:=num s.c) (v2:=num s.h) gS
     have hp12:B3+1<P12:=hPB
     have nV:Nx w3 (((Y.setCell ⟨P12,0,none⟩ (num s.w)).setCell ⟨P12,1,none⟩ (num s.c)).setCell ⟨P12,2,none⟩ (num s.h)):=by
      repeat (refine Nx.set ?_ (by rw [hB3];omega))
      exact nr.trans nRY
     have oth:∀ b,b≠P12→(((Y.setCell ⟨P12,0,none⟩ (num s.w)).setCell ⟨P12,1,none⟩ (num s.c)).setCell ⟨P12,2,none⟩ (num s.h)).heap[b]?=Y.heap[b]?:=fun b hb=>(zae hb).trans ((zae hb).trans (zae hb))
     have e9V:=(oth B3 (by omega)).trans ((nRY.block B3 (by omega)).trans e9)
     have e10V:=(oth (B3+1) (by omega)).trans ((nRY.block (B3+1) hB9).trans e10)
     generalize ((Y.setCell ⟨P12,0,none⟩ (num s.w)).setCell ⟨P12,1,none⟩ (num s.c)).setCell ⟨P12,2,none⟩ (num s.h)=V9 at gV nV e9V e10V ⊢
     clear oth y0 y1 y2 z0 z1 z2 gS e9 e10 c0 c1 c2 c3 c4 c5 c6
     have hbV:=hb3.nx nV
     have c3:V9.cell? ⟨A,3,none⟩=some (num d.start.w):=hbV.at' 3 _ rfl
     have c4:V9.cell? ⟨A,4,none⟩=some (num d.start.c):=hbV.at' 4 _ rfl
     have v0:V9.cell? ⟨P12,0,none⟩=some (num s.w):=zaa gV rfl
     have v1:V9.cell? ⟨P12,1,none⟩=some (num s.c):=zaa gV rfl
     have hAV:=hbV.lt
     have hPV:P12<V9.heap.size:=zav gV
     gi_upto_region 10 with fail
     refine zat (Nx V9) 13 (by kernel_rfl) ?_
     obtain⟨Z,G,hN,hG,hG'⟩:=zaC (C:=Nx V9) (x:=V9) (Nx.refl _)
     have r3:=fun z=>((hG' z).cell (p:=⟨A,3,none⟩) hAV).trans c3
     have r4:=fun z=>((hG' z).cell (p:=⟨A,4,none⟩) hAV).trans c4
     have t0:=fun z=>((hG' z).cell (p:=⟨P12,0,none⟩) hPV).trans v0
     have t1:=fun z=>((hG' z).cell (p:=⟨P12,1,none⟩) hPV).trans v1
     change Go.wpAnyZ _ _ _ _ _ _ _ _ 14 #[false,false,false,false,false,false,false,false,false,false,false,false,false,false] _ _
     obtain⟨m1,ms1⟩:Nx V9 V9.drew∧V9.drew.heap.size=V9.heap.size:=⟨Nx.drew (Nx.refl V9),rfl⟩
     have e9W:=(m1.block B3 (by omega)).trans e9V
     have e10W:=(m1.block (B3+1) (by omega)).trans e10V
     have nW9:=nV.trans m1
     generalize V9.drew=W9 at m1 ms1 e9W e10W nW9 ⊢
     refine Go.zqE 0 hG (by kernel_rfl) (fun _ _ _ h=>by cases h.1) rfl ?_;intro o ho K hK;simp at ho;subst ho;gi_big_quiet_op;go_big_quiet_on
     refine Go.zqE 1 hG (by kernel_rfl) (fun _ _ _ h=>by cases h.1) rfl ?_;intro o ho K hK;simp at ho;subst ho;gi_big_quiet_op;go_big_quiet_on
     refine Go.zqE 2 hG (by kernel_rfl) (fun _ _ _ h=>by cases h.1) rfl ?_;intro o ho K hK;simp at ho;subst ho;gi_big_quiet_op;go_big_quiet_on
     refine Go.zqE 3 hG (by kernel_rfl) (fun _ _ _ h=>by cases h.1) rfl ?_;intro o ho K hK;simp at ho;subst ho;gi_big_quiet_op;go_big_quiet_on
     refine Go.zqE 4 hG (by kernel_rfl) (fun _ _ _ h=>by cases h.1) rfl ?_;intro o ho K hK;simp at ho;subst ho;gi_big_quiet_op;go_big_quiet_on
     refine Go.zqE 5 hG (by kernel_rfl) (fun _ _ _ h=>by cases h.1) rfl ?_;intro o ho K hK;simp at ho;subst ho;gi_big_quiet_op;go_big_quiet_on
     refine Go.zqE 6 hG (by kernel_rfl) (fun _ _ _ h=>by cases h.1) rfl ?_;intro o ho K hK;simp at ho;subst ho;gi_big_quiet_op;go_big_quiet_on
     refine Go.zqE 7 hG (by kernel_rfl) (fun _ _ _ h=>by cases h.1) rfl ?_;intro o ho K hK;simp at ho;subst ho;gi_big_quiet_op;go_big_quiet_on
     refine Go.zqE 8 hG (by kernel_rfl) (fun _ _ _ h=>by cases h.1) rfl ?_;intro o ho K hK;simp at ho;subst ho;gi_big_quiet_op;go_big_quiet_on
     refine Go.zqE 9 hG (by kernel_rfl) (fun _ _ _ h=>by cases h.1) rfl ?_;intro o ho K hK;simp at ho;subst ho;gi_big_quiet_op;go_big_quiet_on
     refine Go.zqE 10 hG (by kernel_rfl) (fun _ _ _ h=>by cases h.1) rfl ?_;intro o ho K hK;simp at ho;subst ho;gi_big_quiet_op;go_big_quiet_on
     refine Go.zqE 11 hG (by kernel_rfl) (fun _ _ _ h=>by cases h.1) rfl ?_;intro o ho K hK;simp at ho;subst ho;gi_big_quiet_op;go_big_quiet_on
     clear r3 r4 t0 t1 hG hG' hN c3 c4 v0 v1 gV
     refine Go.zoE 12 (by kernel_rfl) rfl ?_ ?_;rotate_left;intro o ho K hK;simp at ho;subst ho
     gi_wp2_with fail
     refine Go.zoE 13 (by kernel_rfl) rfl ?_ ?_;rotate_left;intro o ho K hK;simp at ho;subst ho
     gi_wp2_with fail
     refine zar (by kernel_rfl) (fun h=>absurd h (by decide)) ⟨rfl,?_⟩
     rotate_left
     all_goals try (intro _;first | exact m1 | contradiction)
     clear e9V e10V m1 ms1 nV
     have a0:=zaa (i:=0) e9W rfl
     have a1:=zaa (i:=1) e9W rfl
     have za0:=zac (i:=0) e9W
     have za1:=zac (i:=1) e9W
     have b0:=zaa (i:=0) e10W rfl
     have b1:=zaa (i:=1) e10W rfl
     have zb0:=zac (i:=0) e10W
     have zb1:=zac (i:=1) e10W
     generalize hx:d.start.w-s.w=x at *
     generalize hy:d.start.c-s.c=y at *
     by_cases hk0:k=0
     ·have b2:((k:Int) == 0)=true:=by simp;omega
      gi_upto_region 13 with fail
      have d9:((((W9.setCell ⟨B3,0,none⟩ (num x)).setCell ⟨B3,1,none⟩ (num x)).setCell ⟨B3+1,0,none⟩ (num y)).setCell ⟨B3+1,1,none⟩ (num y)).heap[B3]?=_:=(zae (by omega)).trans ((zae (by omega)).trans (zd7 e9W))
      have d10:((((W9.setCell ⟨B3,0,none⟩ (num x)).setCell ⟨B3,1,none⟩ (num x)).setCell ⟨B3+1,0,none⟩ (num y)).setCell ⟨B3+1,1,none⟩ (num y)).heap[B3+1]?=_:=zd7 ((zae (by omega)).trans ((zae (by omega)).trans e10W))
      have nx2:Nx w3 ((((W9.setCell ⟨B3,0,none⟩ (num x)).setCell ⟨B3,1,none⟩ (num x)).setCell ⟨B3+1,0,none⟩ (num y)).setCell ⟨B3+1,1,none⟩ (num y)):=Nx.set (Nx.set (Nx.set (Nx.set nW9 (by omega)) (by omega)) (by omega)) (by omega)
      clear a0 a1 za0 za1 b0 b1 zb0 zb1
      generalize (((W9.setCell ⟨B3,0,none⟩ (num x)).setCell ⟨B3,1,none⟩ (num x)).setCell ⟨B3+1,0,none⟩ (num y)).setCell ⟨B3+1,1,none⟩ (num y)=W12 at d9 d10 nx2 ⊢
      have a0:=zaa (i:=0) d9 rfl
      have a1:=zaa (i:=1) d9 rfl
      have za0:=zac (i:=0) d9
      have za1:=zac (i:=1) d9
      have b0:=zaa (i:=0) d10 rfl
      have b1:=zaa (i:=1) d10 rfl
      have zb0:=zac (i:=0) d10
      have zb1:=zac (i:=1) d10
      gi_upto_region 14 with fail
      have f9:(((W12).setCell ⟨B3,0,none⟩ (num (x))).setCell ⟨B3,1,none⟩ (num (x))).heap[B3]?=_:=zd7 d9
      have f10:(((W12).setCell ⟨B3,0,none⟩ (num (x))).setCell ⟨B3,1,none⟩ (num (x))).heap[B3+1]?=_:=(zae (by omega)).trans ((zae (by omega)).trans d10)
      have nx3:Nx w3 (((W12).setCell ⟨B3,0,none⟩ (num (x))).setCell ⟨B3,1,none⟩ (num (x))):=Nx.set (Nx.set nx2 (by omega)) (by omega)
      clear a0 a1 za0 za1 b0 b1 zb0 zb1
      generalize ((W12).setCell ⟨B3,0,none⟩ (num (x))).setCell ⟨B3,1,none⟩ (num (x))=W13 at f9 f10 nx3 ⊢
      have b0:=zaa (i:=0) f10 rfl
      have b1:=zaa (i:=1) f10 rfl
      have zb0:=zac (i:=0) f10
      have zb1:=zac (i:=1) f10
      gi_wp2
      have F9:=(zae (i:=1) (v:=num (y)) (show B3≠B3+1 by omega)).trans ((zae (w:=W13) (i:=0) (v:=num (y)) (show B3≠B3+1 by omega)).trans f9)
      have F10:=zd7 (v0:=num (y)) (v1:=num (y)) f10
      refine⟨⟨k+1,hlt,by first | (simp;done) | (simp;omega),Nx.set (Nx.set nx3 (by omega)) (by omega),?_,?_⟩,by simp [intOf];omega⟩
      ·rw [HPE.out,hN1.out];unfold zfY;rw [if_pos hk0];exact F9
      ·rw [HPE.out,hN2.out];unfold zfY;rw [if_pos hk0];exact F10
     ·have b2:((k:Int) == 0)=false:=by simp;omega
      gi_upto_region 14 with fail
      have f9:(((W9).setCell ⟨B3,0,none⟩ (num (min p1.1 x))).setCell ⟨B3,1,none⟩ (num (max p1.2 x))).heap[B3]?=_:=zd7 e9W
      have f10:(((W9).setCell ⟨B3,0,none⟩ (num (min p1.1 x))).setCell ⟨B3,1,none⟩ (num (max p1.2 x))).heap[B3+1]?=_:=(zae (by omega)).trans ((zae (by omega)).trans e10W)
      have nx3:Nx w3 (((W9).setCell ⟨B3,0,none⟩ (num (min p1.1 x))).setCell ⟨B3,1,none⟩ (num (max p1.2 x))):=Nx.set (Nx.set nW9 (by omega)) (by omega)
      clear a0 a1 za0 za1 b0 b1 zb0 zb1
      generalize ((W9).setCell ⟨B3,0,none⟩ (num (min p1.1 x))).setCell ⟨B3,1,none⟩ (num (max p1.2 x))=W13 at f9 f10 nx3 ⊢
      have b0:=zaa (i:=0) f10 rfl
      have b1:=zaa (i:=1) f10 rfl
      have zb0:=zac (i:=0) f10
      have zb1:=zac (i:=1) f10
      gi_wp2
      have F9:=(zae (i:=1) (v:=num (max p2.2 y)) (show B3≠B3+1 by omega)).trans ((zae (w:=W13) (i:=0) (v:=num (min p2.1 y)) (show B3≠B3+1 by omega)).trans f9)
      have F10:=zd7 (v0:=num (min p2.1 y)) (v1:=num (max p2.2 y)) f10
      refine⟨⟨k+1,hlt,by first | (simp;done) | (simp;omega),Nx.set (Nx.set nx3 (by omega)) (by omega),?_,?_⟩,by simp [intOf];omega⟩
      ·rw [HPE.out,hN1.out];unfold zfY;rw [if_neg hk0];exact F9
      ·rw [HPE.out,hN2.out];unfold zfY;rw [if_neg hk0];exact F10
    all_goals (intro _;first | exact n1 | exact n1.trans n5 | exact n1.trans nY | contradiction)
   ·gi_wp2_with fail
    generalize hY:V.alloc _=V2
    obtain⟨nY,sY,gS⟩:=al1 hY
    clear hY
    have hPB:B3+1<V.heap.size:=by have:=n1.size;omega
    have hPV2:V.heap.size<V2.heap.size:=by omega
    generalize V.heap.size=P12 at *
    refine Go.zoE 6 (by kernel_rfl) rfl ?_ ?_;rotate_left;intro o ho K hK;simp at ho;subst ho
    gi_wp2_with (first | (gi_at_call 76;refine CallsIn.mono (k76 _ (nr.trans (n1.trans nY))) ?_;rintro e w5 ⟨rfl,n5⟩) | gi_in)
    obtain⟨Y,hren⟩:∃ z,z=w5:=⟨_,rfl⟩
    subst hren
    have gS:=(n5.block _ hPV2).trans gS
    have y0:=zaa (i:=0) gS rfl
    have y1:=zaa (i:=1) gS rfl
    have y2:=zaa (i:=2) gS rfl
    have z0:=zac (i:=0) gS
    have z1:=zac (i:=1) gS
    have z2:=zac (i:=2) gS
    have nRY:=n1.trans (nY.trans n5)
    refine Go.zoE 8 (by kernel_rfl) rfl ?_ ?_;rotate_left;intro o ho K hK;simp at ho;subst ho
    gi_wp2_with fail
    refine zar (by kernel_rfl) (fun h=>absurd h (by decide)) ⟨rfl,?_⟩
    ·have gV:=set3 (v0:=num s.w) (v1:=num s.c) (v2:=num s.h) gS
     have hp12:B3+1<P12:=hPB
     have nV:Nx w3 (((Y.setCell ⟨P12,0,none⟩ (num s.w)).setCell ⟨P12,1,none⟩ (num s.c)).setCell ⟨P12,2,none⟩ (num s.h)):=by
      repeat (refine Nx.set ?_ (by rw [hB3];omega))
      exact nr.trans nRY
     have oth:∀ b,b≠P12→(((Y.setCell ⟨P12,0,none⟩ (num s.w)).setCell ⟨P12,1,none⟩ (num s.c)).setCell ⟨P12,2,none⟩ (num s.h)).heap[b]?=Y.heap[b]?:=fun b hb=>(zae hb).trans ((zae hb).trans (zae hb))
     have e9V:=(oth B3 (by omega)).trans ((nRY.block B3 (by omega)).trans e9)
     have e10V:=(oth (B3+1) (by omega)).trans ((nRY.block (B3+1) hB9).trans e10)
     generalize ((Y.setCell ⟨P12,0,none⟩ (num s.w)).setCell ⟨P12,1,none⟩ (num s.c)).setCell ⟨P12,2,none⟩ (num s.h)=V9 at gV nV e9V e10V ⊢
     clear oth y0 y1 y2 z0 z1 z2 gS e9 e10 c0 c1 c2 c3 c4 c5 c6
     have hbV:=hb3.nx nV
     have c3:V9.cell? ⟨A,3,none⟩=some (num d.start.w):=hbV.at' 3 _ rfl
     have c4:V9.cell? ⟨A,4,none⟩=some (num d.start.c):=hbV.at' 4 _ rfl
     have v0:V9.cell? ⟨P12,0,none⟩=some (num s.w):=zaa gV rfl
     have v1:V9.cell? ⟨P12,1,none⟩=some (num s.c):=zaa gV rfl
     have hAV:=hbV.lt
     have hPV:P12<V9.heap.size:=zav gV
     gi_upto_region 10 with fail
     refine zat (Nx V9) 13 (by kernel_rfl) ?_
     obtain⟨Z,G,hN,hG,hG'⟩:=zaC (C:=Nx V9) (x:=V9) (Nx.refl _)
     have r3:=fun z=>((hG' z).cell (p:=⟨A,3,none⟩) hAV).trans c3
     have r4:=fun z=>((hG' z).cell (p:=⟨A,4,none⟩) hAV).trans c4
     have t0:=fun z=>((hG' z).cell (p:=⟨P12,0,none⟩) hPV).trans v0
     have t1:=fun z=>((hG' z).cell (p:=⟨P12,1,none⟩) hPV).trans v1
     change Go.wpAnyZ _ _ _ _ _ _ _ _ 14 #[false,false,false,false,false,false,false,false,false,false,false,false,false,false] _ _
     obtain⟨m1,ms1⟩:Nx V9 V9.drew∧V9.drew.heap.size=V9.heap.size:=⟨Nx.drew (Nx.refl V9),rfl⟩
     have e9W:=(m1.block B3 (by omega)).trans e9V
     have e10W:=(m1.block (B3+1) (by omega)).trans e10V
     have nW9:=nV.trans m1
     generalize V9.drew=W9 at m1 ms1 e9W e10W nW9 ⊢
     refine Go.zqE 0 hG (by kernel_rfl) (fun _ _ _ h=>by cases h.1) rfl ?_;intro o ho K hK;simp at ho;subst ho;gi_big_quiet_op;go_big_quiet_on
     refine Go.zqE 1 hG (by kernel_rfl) (fun _ _ _ h=>by cases h.1) rfl ?_;intro o ho K hK;simp at ho;subst ho;gi_big_quiet_op;go_big_quiet_on
     refine Go.zqE 2 hG (by kernel_rfl) (fun _ _ _ h=>by cases h.1) rfl ?_;intro o ho K hK;simp at ho;subst ho;gi_big_quiet_op;go_big_quiet_on
     refine Go.zqE 3 hG (by kernel_rfl) (fun _ _ _ h=>by cases h.1) rfl ?_;intro o ho K hK;simp at ho;subst ho;gi_big_quiet_op;go_big_quiet_on
     refine Go.zqE 4 hG (by kernel_rfl) (fun _ _ _ h=>by cases h.1) rfl ?_;intro o ho K hK;simp at ho;subst ho;gi_big_quiet_op;go_big_quiet_on
     refine Go.zqE 5 hG (by kernel_rfl) (fun _ _ _ h=>by cases h.1) rfl ?_;intro o ho K hK;simp at ho;subst ho;gi_big_quiet_op;go_big_quiet_on
     refine Go.zqE 6 hG (by kernel_rfl) (fun _ _ _ h=>by cases h.1) rfl ?_;intro o ho K hK;simp at ho;subst ho;gi_big_quiet_op;go_big_quiet_on
     refine Go.zqE 7 hG (by kernel_rfl) (fun _ _ _ h=>by cases h.1) rfl ?_;intro o ho K hK;simp at ho;subst ho;gi_big_quiet_op;go_big_quiet_on
     refine Go.zqE 8 hG (by kernel_rfl) (fun _ _ _ h=>by cases h.1) rfl ?_;intro o ho K hK;simp at ho;subst ho;gi_big_quiet_op;go_big_quiet_on
     refine Go.zqE 9 hG (by kernel_rfl) (fun _ _ _ h=>by cases h.1) rfl ?_;intro o ho K hK;simp at ho;subst ho;gi_big_quiet_op;go_big_quiet_on
     refine Go.zqE 10 hG (by kernel_rfl) (fun _ _ _ h=>by cases h.1) rfl ?_;intro o ho K hK;simp at ho;subst ho;gi_big_quiet_op;go_big_quiet_on
     refine Go.zqE 11 hG (by kernel_rfl) (fun _ _ _ h=>by cases h.1) rfl ?_;intro o ho K hK;simp at ho;subst ho;gi_big_quiet_op;go_big_quiet_on
     clear r3 r4 t0 t1 hG hG' hN c3 c4 v0 v1 gV
     refine Go.zoE 12 (by kernel_rfl) rfl ?_ ?_;rotate_left;intro o ho K hK;simp at ho;subst ho
     gi_wp2_with fail
     refine Go.zoE 13 (by kernel_rfl) rfl ?_ ?_;rotate_left;intro o ho K hK;simp at ho;subst ho
     gi_wp2_with fail
     refine zar (by kernel_rfl) (fun h=>absurd h (by decide)) ⟨rfl,?_⟩
     rotate_left
     all_goals try (intro _;first | exact m1 | contradiction)
     clear e9V e10V m1 ms1 nV
     have a0:=zaa (i:=0) e9W rfl
     have a1:=zaa (i:=1) e9W rfl
     have za0:=zac (i:=0) e9W
     have za1:=zac (i:=1) e9W
     have b0:=zaa (i:=0) e10W rfl
     have b1:=zaa (i:=1) e10W rfl
     have zb0:=zac (i:=0) e10W
     have zb1:=zac (i:=1) e10W
     generalize hx:d.start.w-s.w=x at *
     generalize hy:d.start.c-s.c=y at *
     by_cases hk0:k=0
     ·have b2:((k:Int) == 0)=true:=by simp;omega
      gi_upto_region 13 with fail
      have d9:((((W9.setCell ⟨B3,0,none⟩ (num x)).setCell ⟨B3,1,none⟩ (num x)).setCell ⟨B3+1,0,none⟩ (num y)).setCell ⟨B3+1,1,none⟩ (num y)).heap[B3]?=_:=(zae (by omega)).trans ((zae (by omega)).trans (zd7 e9W))
      have d10:((((W9.setCell ⟨B3,0,none⟩ (num x)).setCell ⟨B3,1,none⟩ (num x)).setCell ⟨B3+1,0,none⟩ (num y)).setCell ⟨B3+1,1,none⟩ (num y)).heap[B3+1]?=_:=zd7 ((zae (by omega)).trans ((zae (by omega)).trans e10W))
      have nx2:Nx w3 ((((W9.setCell ⟨B3,0,none⟩ (num x)).setCell ⟨B3,1,none⟩ (num x)).setCell ⟨B3+1,0,none⟩ (num y)).setCell ⟨B3+1,1,none⟩ (num y)):=Nx.set (Nx.set (Nx.set (Nx.set nW9 (by omega)) (by omega)) (by omega)) (by omega)
      clear a0 a1 za0 za1 b0 b1 zb0 zb1
      generalize (((W9.setCell ⟨B3,0,none⟩ (num x)).setCell ⟨B3,1,none⟩ (num x)).setCell ⟨B3+1,0,none⟩ (num y)).setCell ⟨B3+1,1,none⟩ (num y)=W12 at d9 d10 nx2 ⊢
      have a0:=zaa (i:=0) d9 rfl
      have a1:=zaa (i:=1) d9 rfl
      have za0:=zac (i:=0) d9
      have za1:=zac (i:=1) d9
      have b0:=zaa (i:=0) d10 rfl
      have b1:=zaa (i:=1) d10 rfl
      have zb0:=zac (i:=0) d10
      have zb1:=zac (i:=1) d10
      gi_upto_region 14 with fail
      have f9:(((W12).setCell ⟨B3,0,none⟩ (num (x))).setCell ⟨B3,1,none⟩ (num (x))).heap[B3]?=_:=zd7 d9
      have f10:(((W12).setCell ⟨B3,0,none⟩ (num (x))).setCell ⟨B3,1,none⟩ (num (x))).heap[B3+1]?=_:=(zae (by omega)).trans ((zae (by omega)).trans d10)
      have nx3:Nx w3 (((W12).setCell ⟨B3,0,none⟩ (num (x))).setCell ⟨B3,1,none⟩ (num (x))):=Nx.set (Nx.set nx2 (by omega)) (by omega)
      clear a0 a1 za0 za1 b0 b1 zb0 zb1
      generalize ((W12).setCell ⟨B3,0,none⟩ (num (x))).setCell ⟨B3,1,none⟩ (num (x))=W13 at f9 f10 nx3 ⊢
      have b0:=zaa (i:=0) f10 rfl
      have b1:=zaa (i:=1) f10 rfl
      have zb0:=zac (i:=0) f10
      have zb1:=zac (i:=1) f10
      gi_wp2
      have F9:=(zae (i:=1) (v:=num (y)) (show B3≠B3+1 by omega)).trans ((zae (w:=W13) (i:=0) (v:=num (y)) (show B3≠B3+1 by omega)).trans f9)
      have F10:=zd7 (v0:=num (y)) (v1:=num (y)) f10
      refine⟨⟨k+1,hlt,by first | (simp;done) | (simp;omega),Nx.set (Nx.set nx3 (by omega)) (by omega),?_,?_⟩,by simp [intOf];omega⟩
      ·rw [HPE.out,hN1.out];unfold zfY;rw [if_pos hk0];exact F9
      ·rw [HPE.out,hN2.out];unfold zfY;rw [if_pos hk0];exact F10
     ·have b2:((k:Int) == 0)=false:=by simp;omega
      gi_upto_region 14 with fail
      have f9:(((W9).setCell ⟨B3,0,none⟩ (num (min p1.1 x))).setCell ⟨B3,1,none⟩ (num (max p1.2 x))).heap[B3]?=_:=zd7 e9W
      have f10:(((W9).setCell ⟨B3,0,none⟩ (num (min p1.1 x))).setCell ⟨B3,1,none⟩ (num (max p1.2 x))).heap[B3+1]?=_:=(zae (by omega)).trans ((zae (by omega)).trans e10W)
      have nx3:Nx w3 (((W9).setCell ⟨B3,0,none⟩ (num (min p1.1 x))).setCell ⟨B3,1,none⟩ (num (max p1.2 x))):=Nx.set (Nx.set nW9 (by omega)) (by omega)
      clear a0 a1 za0 za1 b0 b1 zb0 zb1
      generalize ((W9).setCell ⟨B3,0,none⟩ (num (min p1.1 x))).setCell ⟨B3,1,none⟩ (num (max p1.2 x))=W13 at f9 f10 nx3 ⊢
      have b0:=zaa (i:=0) f10 rfl
      have b1:=zaa (i:=1) f10 rfl
      have zb0:=zac (i:=0) f10
      have zb1:=zac (i:=1) f10
      gi_wp2
      have F9:=(zae (i:=1) (v:=num (max p2.2 y)) (show B3≠B3+1 by omega)).trans ((zae (w:=W13) (i:=0) (v:=num (min p2.1 y)) (show B3≠B3+1 by omega)).trans f9)
      have F10:=zd7 (v0:=num (min p2.1 y)) (v1:=num (max p2.2 y)) f10
      refine⟨⟨k+1,hlt,by first | (simp;done) | (simp;omega),Nx.set (Nx.set nx3 (by omega)) (by omega),?_,?_⟩,by simp [intOf];omega⟩
      ·rw [HPE.out,hN1.out];unfold zfY;rw [if_neg hk0];exact F9
      ·rw [HPE.out,hN2.out];unfold zfY;rw [if_neg hk0];exact F10
    all_goals (intro _;first | exact n1 | exact n1.trans n5 | exact n1.trans nY | contradiction)
   all_goals (intro _;exact n1)
  ·obtain rfl:k=M.length:=by omega
   rw [List.take_length] at e9 e10
   have HF:Hid (g=(zco (fun s=>d.start.w-s.w) (M.map fun a=>stAt d d.start plan a plan.length),zco (fun s=>d.start.c-s.c) (M.map fun a=>stAt d d.start plan a plan.length),0)):=by show _=_;rw [HR.out,HMM.out]
   generalize zco (fun s=>d.start.w-s.w) (M.map fun a=>stAt d d.start plan a plan.length)=p1 at *
   generalize zco (fun s=>d.start.c-s.c) (M.map fun a=>stAt d d.start plan a plan.length)=p2 at *
   have h4:=(nr.block _ (by omega)).trans h4
   have h5:=(nr.block _ (by omega)).trans h5
   have hB9:B3+1<WR.heap.size:=zav e10
   clear c0 c1 c2 c3 c4 c5 c6
   gi_upto_region 15 with fail
   have a0:=zaa (i:=0) e9 rfl
   have a1:=zaa (i:=1) e9 rfl
   have b0:=zaa (i:=0) e10 rfl
   have b1:=zaa (i:=1) e10 rfl
   refine zat (But [A+1] WR) 3 (by kernel_rfl) ?_
   obtain⟨Z,G,hN,hG,hG'⟩:=zaC (C:=But [A+1] WR) (x:=WR) (But.refl _ _)
   have r0:=fun z=>(hG' z).cell (by simp;omega) a0
   have r1:=fun z=>(hG' z).cell (by simp;omega) a1
   have t0:=fun z=>(hG' z).cell (by simp;omega) b0
   have t1:=fun z=>(hG' z).cell (by simp;omega) b1
   change Go.wpAnyZ _ _ _ _ _ _ _ _ 5 #[false,false,false,false,false] _ _
   obtain⟨n1,s1⟩:Nx WR WR.drew∧WR.drew.heap.size=WR.heap.size:=⟨Nx.drew (Nx.refl WR),rfl⟩
   generalize WR.drew=V at n1 s1 ⊢
   refine Go.zqE 0 hG (by kernel_rfl) (fun _ _ _ h=>by cases h.1) rfl ?_;intro o ho K hK;simp at ho;subst ho;gi_big_quiet_op;go_big_quiet_on
   refine Go.zqE 1 hG (by kernel_rfl) (fun _ _ _ h=>by cases h.1) rfl ?_;intro o ho K hK;simp at ho;subst ho;gi_big_quiet_op;go_big_quiet_on
   clear r0 r1 t0 t1 hG hG' hN a0 a1 b0 b1
   have h4:=(n1.block _ (by omega)).trans h4
   have h5:=(n1.block _ (by omega)).trans h5
   have y0:=zaa (i:=0) h4 rfl
   have y1:=zaa (i:=1) h4 rfl
   have z0:=zac (i:=0) h4
   have z1:=zac (i:=1) h4
   refine Go.zoE 2 (by kernel_rfl) rfl ?_ ?_;rotate_left;intro o ho K hK;simp at ho;subst ho
   gi_wp2_with fail
   have u4:((V.setCell ⟨A+1,0,none⟩ (num p1.1)).setCell ⟨A+1,1,none⟩ (num p1.2)).heap[A+1]?=_:=zd7 h4
   have u5:((V.setCell ⟨A+1,0,none⟩ (num p1.1)).setCell ⟨A+1,1,none⟩ (num p1.2)).heap[A+1+1]?=_:=(zae (by omega)).trans ((zae (by omega)).trans h5)
   have nu:Nx w ((V.setCell ⟨A+1,0,none⟩ (num p1.1)).setCell ⟨A+1,1,none⟩ (num p1.2)):=Nx.set (Nx.set (nw3.trans (nr.trans n1)) (by omega)) (by omega)
   have bu:But [A+1] WR ((V.setCell ⟨A+1,0,none⟩ (num p1.1)).setCell ⟨A+1,1,none⟩ (num p1.2)):=((But.nx n1).trans (But.set (by simp))).trans (But.set (by simp))
   clear y0 y1 z0 z1
   generalize (V.setCell ⟨A+1,0,none⟩ (num p1.1)).setCell ⟨A+1,1,none⟩ (num p1.2)=V2 at u4 u5 nu bu ⊢
   have y0:=zaa (i:=0) u5 rfl
   have y1:=zaa (i:=1) u5 rfl
   have z0:=zac (i:=0) u5
   have z1:=zac (i:=1) u5
   refine Go.zoE 3 (by kernel_rfl) rfl ?_ ?_;rotate_left;intro o ho K hK;simp at ho;subst ho
   gi_wp2_with fail
   refine Go.zoE 4 (by kernel_rfl) rfl ?_ ?_;rotate_left;intro o ho K hK;simp at ho;subst ho
   gi_wp2_with fail
   refine zar (by kernel_rfl) (fun h=>absurd h (by decide)) ⟨rfl,?_⟩
   ·gi_wp2
    refine bodyPost_ret (v:=.tuple #[spV p1,spV p2,num 0]) (zqC rfl rfl rfl ((zae (by omega)).trans ((zae (by omega)).trans u4)) (zd7 u5)) rfl ⟨by rw [HF.out]<;>rfl,Nx.set (Nx.set nu (by omega)) (by omega)⟩
   all_goals (intro _;first | exact But.nx n1 | exact bu | contradiction)
end Go.Proofs.Ytedomogjmhommaa
namespace Go.Proofs.Ytedomogjmhommaa
open Go.RowKit Go.Con Go.Conc
structure PlA (w:World) (d:Dry) (r:R2) (p1:Nat) (vp va:Value) (plan air:List Int):Prop where
 B:DBox w p1 d r
 S:DrySl w d r
 p:Sl w vp 1 (plan.map one)
 a:Sl w va 1 (air.map one)
theorem PlA.nx {w w' : World} {d:Dry} {r:R2} {p1:Nat} {vp va:Value} {plan air:List Int} (h:PlA w d r p1 vp va plan air) (n:Nx w w'):PlA w' d r p1 vp va plan air:=⟨h.B.nx n,h.S.nx n,h.p.nx n,h.a.nx n⟩
theorem PlA.oc {w w' : World} {d:Dry} {r:R2} {p1:Nat} {vp va:Value} {plan air:List Int} (h:PlA w d r p1 vp va plan air) (o:OldC w w'):PlA w' d r p1 vp va plan air:=⟨h.B.oc o,h.S.oc o,h.p.oc o,h.a.oc o⟩
theorem OldC.set {w w' : World} (h:OldC w w') {b i:Nat} {v:Value} (hb:w.heap.size≤b):OldC w (w'.setCell ⟨b,i,none⟩ v) :=
 ⟨by rw [zay];exact h.size,fun a ha=>by
  rw [← h.cell a ha]
  exact World.cell?_of_block (zae (by omega))⟩
end Go.Proofs.Ytedomogjmhommaa
