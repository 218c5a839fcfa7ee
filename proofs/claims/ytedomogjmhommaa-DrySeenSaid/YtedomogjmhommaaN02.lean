import Derived.Test.YtedomogjmhommaaN01
set_option linter.all false
set_option maxRecDepth 100000
set_option maxHeartbeats 8000000
namespace Go.Proofs.Ytedomogjmhommaa
open Go.RowKit Go.Shelf
theorem one85_any (x:Int×Int) (b:Int) (w:World) (hx:0≤x.1∧x.1≤x.2∧x.2≤5000) (hb:0≤b∧b≤65535):CallsIn FW 0 Try.prog 85 #[spV x,num b] w fun e w'=>e=.returned (num (x.1+b % (x.2-x.1+1)))∧Nx w w':=by
 obtain⟨lo,hi⟩:=x
 dsimp only at hx ⊢
 have hne:¬ (hi-lo+1=0):=by omega
 have hne2:(hi-lo+1=0)=False:=by simp;omega
 have he:b.tmod (hi-lo+1)=b % (hi-lo+1):=Int.tmod_eq_emod_of_nonneg hb.1
 have h2:=Int.emod_nonneg b (show hi-lo+1≠0 by omega)
 have h3:=Int.emod_lt_of_pos b (show 0<hi-lo+1 by omega)
 gi_enter Try.func85,Try.ntmps85
 gi_upto_region 1 with fail
 generalize hW:w.alloc _=W
 obtain⟨nW,sW,gW⟩:=al1 hW
 clear hW
 have c0:W.cell? ⟨w.heap.size,0,none⟩=some (num lo):=row_cell gW rfl
 have c1:W.cell? ⟨w.heap.size,1,none⟩=some (num hi):=row_cell gW rfl
 generalize w.heap.size=A at *
 gi_big_quiet_th (fail)
 gi_wp2
 go_ret
 exact⟨rfl,nW.drewN _⟩
theorem pick_bd {xs:List Int} (hx:∀ x∈xs,0≤x∧x≤65535) (k:Nat):0≤pick xs k∧pick xs k≤65535:=by
 unfold pick
 by_cases h:k<xs.length
 ·have:xs[k]?=some xs[k]:=List.getElem?_eq_getElem h
  simp only [List.getD,this,Option.getD_some]
  exact hx _ (List.getElem_mem _)
 ·simp [List.getD,List.getElem?_eq_none (Nat.le_of_not_lt h)]
theorem pick84_big (u:Value) (xs:List Int) (k:Nat) (w:World) (hu:Sl w u 1 (xs.map fun x=>[u16 x])) (hx:∀ x∈xs,0≤x∧x≤65535) (hl:xs.length≤140737488355328):CallsIn FW 0 Try.prog 84 #[u,num k] w fun e w'=>e=.returned (num (pick xs k))∧w'=w:=by
 obtain⟨a,cap,rfl⟩:=hu.cases
 rw [List.length_map] at *
 by_cases hlt:k<xs.length
 ·obtain⟨b,off,rfl,hbl,hcl⟩:=hu.get (by simp;omega)
  have hh:xs[k]?=some xs[k]:=List.getElem?_eq_getElem hlt
  have hp:pick xs k=xs[k]:=by unfold pick;simp [List.getD,hh]
  rw [hp]
  have hb:=hx xs[k] (List.getElem_mem _)
  generalize xs[k]=x at hh hb
  have e0:w.cell? ⟨b,off+k,none⟩=some (u16 x):=by
   have:=hcl k 0 [u16 x] (u16 x) (by simp [hh]) rfl
   simpa using this
  clear hcl hh hp hx hu
  gi_enter Try.func84,Try.ntmps84
  gi_wp2
  go_ret
  refine⟨?_,rfl⟩
  rfl
 ·have hp:pick xs k=0:=by unfold pick;simp [List.getD,List.getElem?_eq_none (Nat.le_of_not_lt hlt)]
  rw [hp]
  gi_enter Try.func84,Try.ntmps84
  gi_wp2
  go_ret
  exact⟨rfl,rfl⟩
theorem ones_row {xs:List Int}:∀ y∈xs.map one,y.length=1:=ones1 xs
theorem air41_any (d:Dry) (r:R2) (u:Value) (picks:List Int) (w:World) (hd:DrySl w d r) (hO:d.Ok) (hu:Sl w u 1 (picks.map fun x=>[u16 x])) (hx:∀ x∈picks,0≤x∧x≤65535) (hl:picks.length≤140737488355328) :
  CallsIn FW 0 Try.prog 41 #[d.val r,u] w fun e w'=>∃ v,e=.returned v∧Nx w w'∧Sl w' v 1 ((airP d picks).map one):=by
 have k84:=fun (k:Nat) (w1:World) (n:Nx w w1)=>pick84_big u picks k w1 (hu.nx n) hx hl
 have kpb:=pick_bd hx
 have hs5:=hO.s5
 obtain⟨rh,rs⟩:=r
 obtain⟨ha,hcap,hrs⟩:=hd.heats.cases
 dsimp only at hrs
 subst hrs
 obtain⟨sa,scap,hrs⟩:=hd.steps.cases
 dsimp only at hrs
 subst hrs
 rw [List.length_map,List.length_map] at *
 obtain⟨ua,ucap,rfl⟩:=hu.cases
 rw [List.length_map] at *
 have HS:=Lib.hid hd.steps
 have HO:=Lib.hid hO
 clear hd hu hx hO
 have hlen:=Lib.hid (airP_len d picks)
 gi_enter Try.func41,Try.ntmps41
 gi_upto_region 1 with fail
 generalize hU:w.alloc _=U
 obtain⟨nU,hbU⟩:=DBox.of (d:=d) (r:=⟨_,_⟩) hU
 clear hU
 have hAU:w.heap.size+1≤U.heap.size:=by have:=hbU.lt;omega
 generalize hA:w.heap.size=A at *
 gi_wp2
 gi_loopw [5,6] (fun v i wr=>∃ k:Nat,k≤d.steps.length∧i=num k∧wr.ownsRow (A+1) 3 1 v k (((airP d picks).take k).map one).flatten∧Nx w wr∧A+1≤wr.heap.size∧DBox wr A d ⟨_,_⟩) (fun _ i _=>d.steps.length-(intOf i).toNat)
 case atStart=>exact⟨0,Nat.zero_le _,rfl,World.ownsRow_nil ..,nU,hAU,hbU⟩
 case round =>
  obtain⟨k,hk,rfl,hown,nr,hAl,hbr⟩:=hrel
  have c6:=hbr.at' 6 _ rfl
  by_cases hlt:k<d.steps.length
  ·obtain⟨b,off,rfl,hbl,hcl⟩:=(HS.out).get (by simp;omega)
   have hh:d.steps[k]?=some d.steps[k]:=List.getElem?_eq_getElem hlt
   have hst:=(HO.out.st _ (List.mem_of_getElem? hh)).1
   have htk:Hid (((airP d picks).take (k+1)).map one=((airP d picks).take k).map one++[one (d.steps[k].lo+pick picks k % (d.steps[k].hi-d.steps[k].lo+1))]):=by
    show _=_
    rw [List.take_succ,airP_at hlt,airAt_eq hh,List.map_append];rfl
   have hrl:Hid ((((airP d picks).take k).map one).length=k):=by
    show _=_
    rw [List.length_map,List.length_take,hlen.out];omega
   generalize d.steps[k]=x at hh hst htk
   have e0:wr.cell? ⟨b,off+k * 6,none⟩=some (num x.lo):=Sl.at hcl nr hbl hh 0 (v:=num x.lo) rfl
   have e1:wr.cell? ⟨b,off+k * 6+1,none⟩=some (num x.hi):=Sl.at hcl nr hbl hh 1 (v:=num x.hi) rfl
   have hbw:b<wr.heap.size:=Nat.lt_of_lt_of_le hbl nr.size
   have hbA:A<wr.heap.size:=by omega
   have kp:=kpb k
   have k84:=k84 k
   generalize pick picks k=p at kp k84 htk
   have k85:=fun w1=>one85_any (x.lo,x.hi) p w1 (by dsimp only;omega) kp
   dsimp only at k85
   clear hcl hh
   gi_upto_region 5 with fail
   refine wpIn_region_Zn (Nx wr) 12 (by kernel_rfl) ?_
   obtain⟨Z,G,hN,hG,hG'⟩:=class_par (C:=Nx wr) (x:=wr) (Nx.refl _)
   have r6:=fun z=>((hG' z).cell (p:=⟨A,6,none⟩) hbA).trans c6
   have r0:=fun z=>((hG' z).cell (p:=⟨b,off+k * 6,none⟩) hbw).trans e0
   have r1:=fun z=>((hG' z).cell (p:=⟨b,off+k * 6+1,none⟩) hbw).trans e1
   change Go.wpAnyZ _ _ _ _ _ _ _ _ 14 #[false,false,false,false,false,false,false,false,false,false,false,false,false,false] _ _
   obtain⟨n1,s1⟩:Nx wr wr.drew∧wr.drew.heap.size=wr.heap.size:=⟨Nx.drew (Nx.refl wr),rfl⟩
   generalize wr.drew=V at n1 s1 ⊢
   refine Go.zqE 0 hG (by kernel_rfl) (fun _ _ _ h=>by cases h.1) rfl ?_;intro o ho K hK;simp at ho;subst ho;gi_big_quiet_op;go_big_quiet_on
   refine Go.zqE 1 hG (by kernel_rfl) (fun _ _ _ h=>by cases h.1) rfl ?_;intro o ho K hK;simp at ho;subst ho;gi_big_quiet_op;go_big_quiet_on
   refine Go.zqE 2 hG (by kernel_rfl) (fun _ _ _ h=>by cases h.1) rfl ?_;intro o ho K hK;simp at ho;subst ho;gi_big_quiet_op;go_big_quiet_on
   refine Go.zqE 3 hG (by kernel_rfl) (fun _ _ _ h=>by cases h.1) rfl ?_;intro o ho K hK;simp at ho;subst ho;gi_big_quiet_op;go_big_quiet_on
   refine Go.zqE 4 hG (by kernel_rfl) (fun _ _ _ h=>by cases h.1) rfl ?_;intro o ho K hK;simp at ho;subst ho;gi_big_quiet_op;go_big_quiet_on
   refine Go.zqE 5 hG (by kernel_rfl) (fun _ _ _ h=>by cases h.1) rfl ?_;intro o ho K hK;simp at ho;subst ho;gi_big_quiet_op;go_big_quiet_on
   refine Go.zqE 6 hG (by kernel_rfl) (fun _ _ _ h=>by cases h.1) rfl ?_;intro o ho K hK;simp at ho;subst ho;gi_big_quiet_op;go_big_quiet_on
   refine Go.zqE 7 hG (by kernel_rfl) (fun _ _ _ h=>by cases h.1) rfl ?_;intro o ho K hK;simp at ho;subst ho;gi_big_quiet_op;go_big_quiet_on
   refine Go.zqE 8 hG (by kernel_rfl) (fun _ _ _ h=>by cases h.1) rfl ?_;intro o ho K hK;simp at ho;subst ho;gi_big_quiet_op;go_big_quiet_on
   have nV:=nr.trans n1
   clear r6 r0 r1 hG hG' hN c6 e0 e1
   refine Go.zoE 9 (by kernel_rfl) rfl ?_ ?_;rotate_left;intro o ho K hK;simp at ho;subst ho
   gi_wp2_with (first | (gi_at_call 84;refine CallsIn.mono (k84 V nV) ?_;rintro e w5 ⟨rfl,rfl⟩) | gi_in)
   refine Go.zoE 10 (by kernel_rfl) rfl ?_ ?_;rotate_left;intro o ho K hK;simp at ho;subst ho
   gi_wp2_with (first | (gi_at_call 85;refine CallsIn.mono (k85 _) ?_;rintro e w6 ⟨rfl,n6⟩) | gi_in)
   refine Go.zoE 11 (by kernel_rfl) rfl ?_ ?_;rotate_left;intro o ho K hK;simp at ho;subst ho
   gi_wp2_with fail
   generalize hY:w6.alloc _=Y
   obtain⟨nY,sY,gY⟩:=al1 hY
   clear hY
   refine Go.zoE 12 (by kernel_rfl) rfl ?_ ?_;rotate_left;intro o ho K hK;simp at ho;subst ho
   have nWY:=n1.trans (n6.trans nY)
   have hown2:Y.ownsRow (A+1) 3 1 u5 (((airP d picks).take k).map one).length (((airP d picks).take k).map one).flatten:=by rw [hrl.out];exact own_nx hown nWY
   have hsz:A+1≤Y.heap.size:=by have:=nWY.size;omega
   obtain⟨v7,w7,q7,o7,g7,a7⟩:=run_more2 T38 (A+1) Y _ _ hown2 w6.heap.size (one (x.lo+p % (x.hi-x.lo+1))) rfl gY (by simp [Value.oneCell']) (by rw [hrl.out];omega) (by rw [hrl.out];omega) hsz
   refine wpIn_of_value rfl rfl (app_run _ rfl rfl q7) (hK _ _ ?_)
   simp only [Go.Act.put,List.setIfInBounds_toArray,List.set_cons_succ,List.set_cons_zero]
   refine Go.zoE 13 (by kernel_rfl) rfl ?_ ?_;rotate_left;intro o ho K hK;simp at ho;subst ho
   gi_wp2_with fail
   refine wpAnyZ_done (by kernel_rfl) (fun h=>absurd h (by decide)) ⟨rfl,?_⟩
   ·have hrow:∀ g,u5.ownBlock=some g→A+1≤g:=fun g hg=>(hown.lt g hg).1
    have n7:Nx w w7:=Below.grown (nr.trans nWY) g7 (nr.trans nWY).size (fun g hg=>by have:=hrow g hg;omega)
    have b7:w7.heap[A]?=wr.heap[A]?:=(g7.block A (by omega) (fun e=>by have:=hrow A e.symm;omega)).trans (nWY.block A hbA)
    have s7:A+1≤w7.heap.size:=by have:=g7.size;omega
    have hb7:DBox w7 A d ⟨_,_⟩:=⟨by omega,fun i v hv=>(World.cell?_of_block (a:=⟨A,i,none⟩) b7).trans (hbr.at' i v hv)⟩
    rw [← htk.out] at o7
    have o8:w7.ownsRow (A+1) 3 1 v7 (k+1) (((airP d picks).take (k+1)).map one).flatten:=by
     have:(((airP d picks).take (k+1)).map one).length=k+1:=by rw [htk.out,List.length_append,hrl.out];rfl
     rw [this] at o7
     exact o7
    gi_wp2
    exact⟨⟨k+1,hlt,by simp,o8,n7,s7,hb7⟩,by simp [intOf];omega⟩
   all_goals (first | exact fun _=>n1 | exact fun _=>n1.trans n6 | exact fun _=>n1.trans (n6.trans nY) | exact fun h=>absurd h (by decide))
  ·obtain rfl:k=d.steps.length:=by omega
   have hfull:(airP d picks).take d.steps.length=airP d picks:=List.take_of_length_le (by rw [hlen.out];exact Nat.le_refl _)
   rw [hfull] at hown
   have hown:=Lib.hid hown
   gi_wp2
   go_ret
   exact⟨_,rfl,nr,own_sl ones_row (by rw [List.length_map,hlen.out]) hown.out⟩
theorem plan38_any (d:Dry) (r:R2) (u:Value) (picks:List Int) (w:World) (hd:DrySl w d r) (hO:d.Ok) (hu:Sl w u 1 (picks.map fun x=>[u16 x])) (hx:∀ x∈picks,0≤x∧x≤65535) (hl:picks.length≤140737488355328) :
  CallsIn FW 0 Try.prog 38 #[d.val r,u] w fun e w'=>∃ v,e=.returned v∧Nx w w'∧Sl w' v 1 ((planP d picks).map one):=by
 have k35:=fun (k:Nat) (x:Stp) (hx:d.steps[k]?=some x) (was heat:Int) (hw : -1000000000≤was∧was≤1000000000) (w1:World) (n:Nx w w1)=>may35_any d r k x was heat w1 (hd.nx n) hx hw
 have k84:=fun (k:Nat) (w1:World) (n:Nx w w1)=>pick84_big u picks k w1 (hu.nx n) hx hl
 have kpb:=pick_bd hx
 have hs5:=hO.s5
 obtain⟨rh,rs⟩:=r
 obtain⟨ha,hcap,hrs⟩:=hd.heats.cases
 dsimp only at hrs
 subst hrs
 obtain⟨sa,scap,hrs⟩:=hd.steps.cases
 dsimp only at hrs
 subst hrs
 rw [List.length_map,List.length_map] at *
 obtain⟨ua,ucap,rfl⟩:=hu.cases
 rw [List.length_map] at *
 have HS:=Lib.hid hd.steps
 have HO:=Lib.hid hO
 have hh4:=hO.h4
 clear hd hu hx hO
 have hlen:=Lib.hid (planP_len d picks)
 gi_enter Try.func38,Try.ntmps38
 gi_upto_region 1 with fail
 generalize hU:w.alloc _=U
 obtain⟨nU,hbU⟩:=DBox.of (d:=d) (r:=⟨_,_⟩) hU
 clear hU
 have hAU:w.heap.size+1≤U.heap.size:=by have:=hbU.lt;omega
 generalize hA:w.heap.size=A at *
 have b5:=hbU.at' 5 _ rfl
 gi_wp2
 clear b5
 gi_loopw [5,6,7] (fun v h i wr=>∃ k:Nat,k≤d.steps.length∧i=num k∧h=num (heatP d picks k)∧wr.ownsRow (A+1) 3 1 v k (((planP d picks).take k).map one).flatten∧Nx w wr∧A+1≤wr.heap.size∧DBox wr A d ⟨_,_⟩) (fun _ _ i _=>d.steps.length-(intOf i).toNat)
 case atStart=>exact⟨0,Nat.zero_le _,rfl,rfl,World.ownsRow_nil ..,nU,hAU,hbU⟩
 case round =>
  obtain⟨k,hk,rfl,rfl,hown,nr,hAl,hbr⟩:=hrel
  have c6:=hbr.at' 6 _ rfl
  have hbd:=heatP_bd HO.out picks k
  by_cases hlt:k<d.steps.length
  ·have hh:d.steps[k]?=some d.steps[k]:=List.getElem?_eq_getElem hlt
   have htk:Hid (((planP d picks).take (k+1)).map one=((planP d picks).take k).map one++[one (heatP d picks (k+1))]):=by
    show _=_
    rw [List.take_succ,planP_at hlt,List.map_append];rfl
   have hrl:Hid ((((planP d picks).take k).map one).length=k):=by
    show _=_
    rw [List.length_map,List.length_take,hlen.out];omega
   have hbd2:=heatP_bd HO.out picks (k+1)
   have hsu:heatP d picks (k+1)=stepP d.heats.length picks d.steps[k] k (heatP d picks k):=heatP_succ hh
   unfold stepP at hsu
   have kp:=kpb (10+k)
   have k84:=k84 (10+k)
   rw [show ((10+k:Nat):Int)=10+(k:Int) by omega] at k84
   have hq:(pick picks (10+k)).tmod 3=pick picks (10+k) % 3:=Int.tmod_eq_emod_of_nonneg kp.1
   have hq1:0≤pick picks (10+k) % 3∧pick picks (10+k) % 3≤2:=by omega
   have k35:=k35 k _ hh (heatP d picks k) (heatP d picks k+pick picks (10+k) % 3-1) (by omega)
   clear hq
   generalize pick picks (10+k)=p at *
   generalize heatP d picks k=h at *
   have HSU:=Lib.hid hsu
   clear hsu
   generalize hgen:heatP d picks (k+1)=h' at *
   obtain⟨b,hb⟩:∃ b,mayB d.heats.length d.steps[k] h (h+p % 3-1)=b:=⟨_,rfl⟩
   have HSU2:Hid (h'=if b=true then h+p % 3-1 else h):=by show _=_;rw [HSU.out,hb]
   simp only [hb] at k35
   clear hb HSU hh
   have kb:=fun (w1:World) (n:Nx wr w1)=>hbr.nx n
   have c0:=hbr.at' 0 _ rfl
   have c1:=hbr.at' 1 _ rfl
   have c2:=hbr.at' 2 _ rfl
   have c3:=hbr.at' 3 _ rfl
   have c4:=hbr.at' 4 _ rfl
   have c5:=hbr.at' 5 _ rfl
   have hbA:A<wr.heap.size:=by omega
   cases b with
   | true =>
    have hv:h'=h+p % 3-1:=by rw [HSU2.out];rfl
    rw [hv] at htk hbd2
    gi_upto_region 9 with (first | (gi_at_call 84;refine CallsIn.mono (k84 wr nr) ?_;rintro e w5 ⟨rfl,rfl⟩) | (gi_at_call 35;refine CallsIn.mono (k35 _ nr) ?_;rintro e w6 ⟨rfl,n6⟩) | gi_in)
    have nW6:=nr.trans n6
    gi_wp2_with (first | (gi_at_builtin;refine wpListIn_more T38 rfl _ _ rfl rfl (A+1) _ k (((planP d picks).take k).map one) rfl (own_alloc (own_nx hown n6) _) hrl.out w6.heap.size (one _) rfl row_new rfl (by simp [Value.oneCell']) (by omega) (by omega) (by have:=n6.size;simp;omega) ?_;intro v7 w7 o7 g7 a7) | gi_in)
    have nWY:=n6.trans (alloc_nx (Nx.refl w6) (.cells #[num (h+p % 3-1)] 3 (0,0)))
    have hrow:∀ g,u5.ownBlock=some g→A+1≤g:=fun g hg=>(hown.lt g hg).1
    have n7:Nx w w7:=Below.grown (nr.trans nWY) g7 (nr.trans nWY).size (fun g hg=>by have:=hrow g hg;omega)
    have b7:w7.heap[A]?=_:=(g7.block A (show A<(w6.alloc (.cells #[num (h+p % 3-1)] 3 (0,0))).heap.size from by have:=nWY.size;omega) (fun e=>by have:=hrow A e.symm;omega)).trans (nWY.block A hbA)
    have s7:A+1≤w7.heap.size:=by have gs:(w6.alloc (.cells #[num (h+p % 3-1)] 3 (0,0))).heap.size≤w7.heap.size:=g7.size;have:=nWY.size;omega
    have hb7:DBox w7 A d ⟨_,_⟩:=⟨by omega,fun i v hv=>(World.cell?_of_block (a:=⟨A,i,none⟩) b7).trans (hbr.at' i v hv)⟩
    rw [← htk.out] at o7
    exact⟨⟨k+1,hlt,by simp,by rw [hgen,hv],o7,n7,s7,hb7⟩,by simp [intOf];omega⟩
   | false =>
    have hv:h'=h:=by rw [HSU2.out];rfl
    rw [hv] at htk hbd2
    gi_upto_region 9 with (first | (gi_at_call 84;refine CallsIn.mono (k84 wr nr) ?_;rintro e w5 ⟨rfl,rfl⟩) | (gi_at_call 35;refine CallsIn.mono (k35 _ nr) ?_;rintro e w6 ⟨rfl,n6⟩) | gi_in)
    have nW6:=nr.trans n6
    gi_wp2_with (first | (gi_at_builtin;refine wpListIn_more T38 rfl _ _ rfl rfl (A+1) _ k (((planP d picks).take k).map one) rfl (own_alloc (own_nx hown n6) _) hrl.out w6.heap.size (one _) rfl row_new rfl (by simp [Value.oneCell']) (by omega) (by omega) (by have:=n6.size;simp;omega) ?_;intro v7 w7 o7 g7 a7) | gi_in)
    have nWY:=n6.trans (alloc_nx (Nx.refl w6) (.cells #[num (h)] 3 (0,0)))
    have hrow:∀ g,u5.ownBlock=some g→A+1≤g:=fun g hg=>(hown.lt g hg).1
    have n7:Nx w w7:=Below.grown (nr.trans nWY) g7 (nr.trans nWY).size (fun g hg=>by have:=hrow g hg;omega)
    have b7:w7.heap[A]?=_:=(g7.block A (show A<(w6.alloc (.cells #[num (h)] 3 (0,0))).heap.size from by have:=nWY.size;omega) (fun e=>by have:=hrow A e.symm;omega)).trans (nWY.block A hbA)
    have s7:A+1≤w7.heap.size:=by have gs:(w6.alloc (.cells #[num (h)] 3 (0,0))).heap.size≤w7.heap.size:=g7.size;have:=nWY.size;omega
    have hb7:DBox w7 A d ⟨_,_⟩:=⟨by omega,fun i v hv=>(World.cell?_of_block (a:=⟨A,i,none⟩) b7).trans (hbr.at' i v hv)⟩
    rw [← htk.out] at o7
    exact⟨⟨k+1,hlt,by simp,by rw [hgen,hv],o7,n7,s7,hb7⟩,by simp [intOf];omega⟩
  ·obtain rfl:k=d.steps.length:=by omega
   have hfull:(planP d picks).take d.steps.length=planP d picks:=List.take_of_length_le (by rw [hlen.out];exact Nat.le_refl _)
   rw [hfull] at hown
   have hown:=Lib.hid hown
   gi_wp2
   go_ret
   exact⟨_,rfl,nr,own_sl ones_row (by rw [List.length_map,hlen.out]) hown.out⟩
end Go.Proofs.Ytedomogjmhommaa
namespace Go.Proofs.Ytedomogjmhommaa
open Go.RowKit Go.Con Go.Conc
def out11 (d:Dry):Bool:=greatD d || decide (dryF d≠0)
structure PlA (w:World) (d:Dry) (r:R2) (p1:Nat) (vp va:Value) (plan air:List Int):Prop where
 B:DBox w p1 d r
 S:DrySl w d r
 p:Sl w vp 1 (plan.map one)
 a:Sl w va 1 (air.map one)
theorem PlA.nx {w w' : World} {d:Dry} {r:R2} {p1:Nat} {vp va:Value} {plan air:List Int} (h:PlA w d r p1 vp va plan air) (n:Nx w w'):PlA w' d r p1 vp va plan air:=⟨h.B.nx n,h.S.nx n,h.p.nx n,h.a.nx n⟩
theorem PlA.oc {w w' : World} {d:Dry} {r:R2} {p1:Nat} {vp va:Value} {plan air:List Int} (h:PlA w d r p1 vp va plan air) (o:OldC w w'):PlA w' d r p1 vp va plan air:=⟨h.B.oc o,h.S.oc o,h.p.oc o,h.a.oc o⟩
theorem OldC.set {w w' : World} (h:OldC w w') {b i:Nat} {v:Value} (hb:w.heap.size≤b):OldC w (w'.setCell ⟨b,i,none⟩ v) :=
 ⟨by rw [set_size];exact h.size,fun a ha=>by
  rw [← h.cell a ha]
  exact World.cell?_of_block (set_other (by omega))⟩
end Go.Proofs.Ytedomogjmhommaa
namespace Go.Proofs.Ytedomogjmhommaa
open Go.RowKit Go.Con Go.Conc
theorem slAtO {α:Type} {en:α→List Value} {w wr:World} {b off sz:Nat} {xs:List α} (hcl:∀ (j k:Nat) (z:List Value) (x:Value),(xs.map en)[j]?=some z→z[k]?=some x→w.cell? ⟨b,off+j * sz+k,none⟩=some x) (o:OldC w wr) {k:Nat} {p:α} (hk:xs[k]?=some p) (i:Nat) {v:Value} (hv:(en p)[i]?=some v) :
  wr.cell? ⟨b,off+k * sz+i,none⟩=some v:=o.at (hcl k i (en p) v (by simp [hk]) hv)
theorem slAtO1 {w wr:World} {b off:Nat} {xs:List Int} (hcl:∀ (j k:Nat) (z:List Value) (x:Value),(xs.map one)[j]?=some z→z[k]?=some x→w.cell? ⟨b,off+j * 1+k,none⟩=some x) (o:OldC w wr) {k:Nat} {p:Int} (hk:xs[k]?=some p) :
  wr.cell? ⟨b,off+k,none⟩=some (num p):=by
 have:=slAtO hcl o hk 0 (v:=num p) rfl
 simpa using this
end Go.Proofs.Ytedomogjmhommaa
