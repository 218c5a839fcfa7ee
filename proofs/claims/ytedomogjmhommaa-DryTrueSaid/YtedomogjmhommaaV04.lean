import Derived.Test.YtedomogjmhommaaV03
set_option linter.all false
set_option maxRecDepth 100000
set_option maxHeartbeats 8000000
namespace Go.Proofs.Ytedomogjmhommaa
open Go.RowKit Go.Shelf
theorem one85_any (x:Int×Int) (b:Int) (w:World) (hx:0≤x.1∧x.1≤x.2∧x.2≤5000) (hb:0≤b∧b≤65535):CallsIn FW 0 Try.prog 85 #[spV x,num b] w fun e w'=>e=.returned (num (x.1+b % (x.2-x.1+1)))∧Nx w w':=by
 obtain⟨lo,hi⟩:=x
 dsimp only at hx ⊢
 have hne:¬ (hi-lo+1=0):=by omega
 have hne2:(hi-lo+1=0)=False:=by simp;omega
 have he:b.tmod (hi-lo+1)=b % (hi-lo+1):=Int.tmod_eq_emod_of_nonneg hb.1
 have h2:=Int.emod_nonneg b (show hi-lo+1≠0 by omega)
 have h3:=Int.emod_lt_of_pos b (show 0<hi-lo+1 by omega)
 gi_enter Try.func85,Try.ntmps85
 gi_upto_region 1 with fail
 generalize hW:w.alloc _=W
 obtain⟨nW,sW,gW⟩:=al1 hW
 clear hW
 have c0:W.cell? ⟨w.heap.size,0,none⟩=some (num lo):=row_cell gW rfl
 have c1:W.cell? ⟨w.heap.size,1,none⟩=some (num hi):=row_cell gW rfl
 generalize w.heap.size=A at *
 gi_big_quiet_th (fail)
 gi_wp2
 go_ret
 exact⟨rfl,nW.drewN _⟩
theorem pick_bd {xs:List Int} (hx:∀ x∈xs,0≤x∧x≤65535) (k:Nat):0≤pick xs k∧pick xs k≤65535:=by
 unfold pick
 by_cases h:k<xs.length
 ·have:xs[k]?=some xs[k]:=List.getElem?_eq_getElem h
  simp only [List.getD,this,Option.getD_some]
  exact hx _ (List.getElem_mem _)
 ·simp [List.getD,List.getElem?_eq_none (Nat.le_of_not_lt h)]
theorem pick84_big (u:Value) (xs:List Int) (k:Nat) (w:World) (hu:Sl w u 1 (xs.map fun x=>[u16 x])) (hx:∀ x∈xs,0≤x∧x≤65535) (hl:xs.length≤140737488355328):CallsIn FW 0 Try.prog 84 #[u,num k] w fun e w'=>e=.returned (num (pick xs k))∧w'=w:=by
 obtain⟨a,cap,rfl⟩:=hu.cases
 rw [List.length_map] at *
 by_cases hlt:k<xs.length
 ·obtain⟨b,off,rfl,hbl,hcl⟩:=hu.get (by simp;omega)
  have hh:xs[k]?=some xs[k]:=List.getElem?_eq_getElem hlt
  have hp:pick xs k=xs[k]:=by unfold pick;simp [List.getD,hh]
  rw [hp]
  have hb:=hx xs[k] (List.getElem_mem _)
  generalize xs[k]=x at hh hb
  have e0:w.cell? ⟨b,off+k,none⟩=some (u16 x):=by
   have:=hcl k 0 [u16 x] (u16 x) (by simp [hh]) rfl
   simpa using this
  clear hcl hh hp hx hu
  gi_enter Try.func84,Try.ntmps84
  gi_wp2
  go_ret
  refine⟨?_,rfl⟩
  rfl
 ·have hp:pick xs k=0:=by unfold pick;simp [List.getD,List.getElem?_eq_none (Nat.le_of_not_lt hlt)]
  rw [hp]
  gi_enter Try.func84,Try.ntmps84
  gi_wp2
  go_ret
  exact⟨rfl,rfl⟩
theorem ones_row {xs:List Int}:∀ y∈xs.map one,y.length=1:=ones1 xs
theorem air41_any (d:Dry) (r:R2) (u:Value) (picks:List Int) (w:World) (hd:DrySl w d r) (hO:d.Ok) (hu:Sl w u 1 (picks.map fun x=>[u16 x])) (hx:∀ x∈picks,0≤x∧x≤65535) (hl:picks.length≤140737488355328) :
  CallsIn FW 0 Try.prog 41 #[d.val r,u] w fun e w'=>∃ v,e=.returned v∧Nx w w'∧Sl w' v 1 ((airP d picks).map one):=by
 have k84:=fun (k:Nat) (w1:World) (n:Nx w w1)=>pick84_big u picks k w1 (hu.nx n) hx hl
 have kpb:=pick_bd hx
 have hs5:=hO.s5
 obtain⟨rh,rs⟩:=r
 obtain⟨ha,hcap,hrs⟩:=hd.heats.cases
 dsimp only at hrs
 subst hrs
 obtain⟨sa,scap,hrs⟩:=hd.steps.cases
 dsimp only at hrs
 subst hrs
 rw [List.length_map,List.length_map] at *
 obtain⟨ua,ucap,rfl⟩:=hu.cases
 rw [List.length_map] at *
 have HS:=Lib.hid hd.steps
 have HO:=Lib.hid hO
 clear hd hu hx hO
 have hlen:=Lib.hid (airP_len d picks)
 gi_enter Try.func41,Try.ntmps41
 gi_upto_region 1 with fail
 generalize hU:w.alloc _=U
 obtain⟨nU,hbU⟩:=DBox.of (d:=d) (r:=⟨_,_⟩) hU
 clear hU
 have hAU:w.heap.size+1≤U.heap.size:=by have:=hbU.lt;omega
 generalize hA:w.heap.size=A at *
 gi_wp2
 gi_loopw [5,6] (fun v i wr=>∃ k:Nat,k≤d.steps.length∧i=num k∧wr.ownsRow (A+1) 3 1 v k (((airP d picks).take k).map one).flatten∧Nx w wr∧A+1≤wr.heap.size∧DBox wr A d ⟨_,_⟩) (fun _ i _=>d.steps.length-(intOf i).toNat)
 case atStart=>exact⟨0,Nat.zero_le _,rfl,World.ownsRow_nil ..,nU,hAU,hbU⟩
 case round =>
  obtain⟨k,hk,rfl,hown,nr,hAl,hbr⟩:=hrel
  have c6:=hbr.at' 6 _ rfl
  by_cases hlt:k<d.steps.length
  ·obtain⟨b,off,rfl,hbl,hcl⟩:=(HS.out).get (by simp;omega)
   have hh:d.steps[k]?=some d.steps[k]:=List.getElem?_eq_getElem hlt
   have hst:=(HO.out.st _ (List.mem_of_getElem? hh)).1
   have htk:Hid (((airP d picks).take (k+1)).map one=((airP d picks).take k).map one++[one (d.steps[k].lo+pick picks k % (d.steps[k].hi-d.steps[k].lo+1))]):=by
    show _=_
    rw [List.take_succ,airP_at hlt,airAt_eq hh,List.map_append];rfl
   have hrl:Hid ((((airP d picks).take k).map one).length=k):=by
    show _=_
    rw [List.length_map,List.length_take,hlen.out];omega
   generalize d.steps[k]=x at hh hst htk
   have e0:wr.cell? ⟨b,off+k * 6,none⟩=some (num x.lo):=Sl.at hcl nr hbl hh 0 (v:=num x.lo) rfl
   have e1:wr.cell? ⟨b,off+k * 6+1,none⟩=some (num x.hi):=Sl.at hcl nr hbl hh 1 (v:=num x.hi) rfl
   have hbw:b<wr.heap.size:=Nat.lt_of_lt_of_le hbl nr.size
   have hbA:A<wr.heap.size:=by omega
   have kp:=kpb k
   have k84:=k84 k
   generalize pick picks k=p at kp k84 htk
   have k85:=fun w1=>one85_any (x.lo,x.hi) p w1 (by dsimp only;omega) kp
   dsimp only at k85
   clear hcl hh
   gi_upto_region 5 with fail
   refine wpIn_region_Zn (Nx wr) 12 (by kernel_rfl) ?_
   obtain⟨Z,G,hN,hG,hG'⟩:=class_par (C:=Nx wr) (x:=wr) (Nx.refl _)
   have r6:=fun z=>((hG' z).cell (p:=⟨A,6,none⟩) hbA).trans c6
   have r0:=fun z=>((hG' z).cell (p:=⟨b,off+k * 6,none⟩) hbw).trans e0
   have r1:=fun z=>((hG' z).cell (p:=⟨b,off+k * 6+1,none⟩) hbw).trans e1
   change Go.wpAnyZ _ _ _ _ _ _ _ _ 14 #[false,false,false,false,false,false,false,false,false,false,false,false,false,false] _ _
   obtain⟨n1,s1⟩:Nx wr wr.drew∧wr.drew.heap.size=wr.heap.size:=⟨Nx.drew (Nx.refl wr),rfl⟩
   generalize wr.drew=V at n1 s1 ⊢
   refine Go.zqE 0 hG (by kernel_rfl) (fun _ _ _ h=>by cases h.1) rfl ?_;intro o ho K hK;simp at ho;subst ho;gi_big_quiet_op;go_big_quiet_on
   refine Go.zqE 1 hG (by kernel_rfl) (fun _ _ _ h=>by cases h.1) rfl ?_;intro o ho K hK;simp at ho;subst ho;gi_big_quiet_op;go_big_quiet_on
   refine Go.zqE 2 hG (by kernel_rfl) (fun _ _ _ h=>by cases h.1) rfl ?_;intro o ho K hK;simp at ho;subst ho;gi_big_quiet_op;go_big_quiet_on
   refine Go.zqE 3 hG (by kernel_rfl) (fun _ _ _ h=>by cases h.1) rfl ?_;intro o ho K hK;simp at ho;subst ho;gi_big_quiet_op;go_big_quiet_on
   refine Go.zqE 4 hG (by kernel_rfl) (fun _ _ _ h=>by cases h.1) rfl ?_;intro o ho K hK;simp at ho;subst ho;gi_big_quiet_op;go_big_quiet_on
   refine Go.zqE 5 hG (by kernel_rfl) (fun _ _ _ h=>by cases h.1) rfl ?_;intro o ho K hK;simp at ho;subst ho;gi_big_quiet_op;go_big_quiet_on
   refine Go.zqE 6 hG (by kernel_rfl) (fun _ _ _ h=>by cases h.1) rfl ?_;intro o ho K hK;simp at ho;subst ho;gi_big_quiet_op;go_big_quiet_on
   refine Go.zqE 7 hG (by kernel_rfl) (fun _ _ _ h=>by cases h.1) rfl ?_;intro o ho K hK;simp at ho;subst ho;gi_big_quiet_op;go_big_quiet_on
   refine Go.zqE 8 hG (by kernel_rfl) (fun _ _ _ h=>by cases h.1) rfl ?_;intro o ho K hK;simp at ho;subst ho;gi_big_quiet_op;go_big_quiet_on
   have nV:=nr.trans n1
   clear r6 r0 r1 hG hG' hN c6 e0 e1
   refine Go.zoE 9 (by kernel_rfl) rfl ?_ ?_;rotate_left;intro o ho K hK;simp at ho;subst ho
   gi_wp2_with (first | (gi_at_call 84;refine CallsIn.mono (k84 V nV) ?_;rintro e w5 ⟨rfl,rfl⟩) | gi_in)
   refine Go.zoE 10 (by kernel_rfl) rfl ?_ ?_;rotate_left;intro o ho K hK;simp at ho;subst ho
   gi_wp2_with (first | (gi_at_call 85;refine CallsIn.mono (k85 _) ?_;rintro e w6 ⟨rfl,n6⟩) | gi_in)
   refine Go.zoE 11 (by kernel_rfl) rfl ?_ ?_;rotate_left;intro o ho K hK;simp at ho;subst ho
   gi_wp2_with fail
   generalize hY:w6.alloc _=Y
   obtain⟨nY,sY,gY⟩:=al1 hY
   clear hY
   refine Go.zoE 12 (by kernel_rfl) rfl ?_ ?_;rotate_left;intro o ho K hK;simp at ho;subst ho
   have nWY:=n1.trans (n6.trans nY)
   have hown2:Y.ownsRow (A+1) 3 1 u5 (((airP d picks).take k).map one).length (((airP d picks).take k).map one).flatten:=by rw [hrl.out];exact own_nx hown nWY
   have hsz:A+1≤Y.heap.size:=by have:=nWY.size;omega
   obtain⟨v7,w7,q7,o7,g7,a7⟩:=run_more2 T38 (A+1) Y _ _ hown2 w6.heap.size (one (x.lo+p % (x.hi-x.lo+1))) rfl gY (by simp [Value.oneCell']) (by rw [hrl.out];omega) (by rw [hrl.out];omega) hsz
   refine wpIn_of_value rfl rfl (app_run _ rfl rfl q7) (hK _ _ ?_)
   simp only [Go.Act.put,List.setIfInBounds_toArray,List.set_cons_succ,List.set_cons_zero]
   refine Go.zoE 13 (by kernel_rfl) rfl ?_ ?_;rotate_left;intro o ho K hK;simp at ho;subst ho
   gi_wp2_with fail
   refine wpAnyZ_done (by kernel_rfl) (fun h=>absurd h (by decide)) ⟨rfl,?_⟩
   ·have hrow:∀ g,u5.ownBlock=some g→A+1≤g:=fun g hg=>(hown.lt g hg).1
    have n7:Nx w w7:=Below.grown (nr.trans nWY) g7 (nr.trans nWY).size (fun g hg=>by have:=hrow g hg;omega)
    have b7:w7.heap[A]?=wr.heap[A]?:=(g7.block A (by omega) (fun e=>by have:=hrow A e.symm;omega)).trans (nWY.block A hbA)
    have s7:A+1≤w7.heap.size:=by have:=g7.size;omega
    have hb7:DBox w7 A d ⟨_,_⟩:=⟨by omega,fun i v hv=>(World.cell?_of_block (a:=⟨A,i,none⟩) b7).trans (hbr.at' i v hv)⟩
    rw [← htk.out] at o7
    have o8:w7.ownsRow (A+1) 3 1 v7 (k+1) (((airP d picks).take (k+1)).map one).flatten:=by
     have:(((airP d picks).take (k+1)).map one).length=k+1:=by rw [htk.out,List.length_append,hrl.out];rfl
     rw [this] at o7
     exact o7
    gi_wp2
    exact⟨⟨k+1,hlt,by simp,o8,n7,s7,hb7⟩,by simp [intOf];omega⟩
   all_goals (first | exact fun _=>n1 | exact fun _=>n1.trans n6 | exact fun _=>n1.trans (n6.trans nY) | exact fun h=>absurd h (by decide))
  ·obtain rfl:k=d.steps.length:=by omega
   have hfull:(airP d picks).take d.steps.length=airP d picks:=List.take_of_length_le (by rw [hlen.out];exact Nat.le_refl _)
   rw [hfull] at hown
   have hown:=Lib.hid hown
   gi_wp2
   go_ret
   exact⟨_,rfl,nr,own_sl ones_row (by rw [List.length_map,hlen.out]) hown.out⟩
end Go.Proofs.Ytedomogjmhommaa
namespace Go.Proofs.Ytedomogjmhommaa
open Go.RowKit Go.Con Go.Conc
def out11 (d:Dry):Bool:=greatD d || decide (dryF d≠0)
structure PlA (w:World) (d:Dry) (r:R2) (p1:Nat) (vp va:Value) (plan air:List Int):Prop where
 B:DBox w p1 d r
 S:DrySl w d r
 p:Sl w vp 1 (plan.map one)
 a:Sl w va 1 (air.map one)
theorem PlA.nx {w w' : World} {d:Dry} {r:R2} {p1:Nat} {vp va:Value} {plan air:List Int} (h:PlA w d r p1 vp va plan air) (n:Nx w w'):PlA w' d r p1 vp va plan air:=⟨h.B.nx n,h.S.nx n,h.p.nx n,h.a.nx n⟩
theorem PlA.oc {w w' : World} {d:Dry} {r:R2} {p1:Nat} {vp va:Value} {plan air:List Int} (h:PlA w d r p1 vp va plan air) (o:OldC w w'):PlA w' d r p1 vp va plan air:=⟨h.B.oc o,h.S.oc o,h.p.oc o,h.a.oc o⟩
theorem OldC.set {w w' : World} (h:OldC w w') {b i:Nat} {v:Value} (hb:w.heap.size≤b):OldC w (w'.setCell ⟨b,i,none⟩ v) :=
 ⟨by rw [set_size];exact h.size,fun a ha=>by
  rw [← h.cell a ha]
  exact World.cell?_of_block (set_other (by omega))⟩
end Go.Proofs.Ytedomogjmhommaa
namespace Go.Proofs.Ytedomogjmhommaa
open Go.RowKit Go.Con Go.Conc
noncomputable def b14:Code:=match Try.f14.body with | some c=>c | none=>.skip
noncomputable def x14_0:Code:=cL b14
noncomputable def x14_1:Code:=cL (cL (cR b14))
noncomputable def x14_2:Code:=cL (cT (cR (cL (cR b14))))
noncomputable def r14_3:Code:=cR (cR b14)
noncomputable def x14_3:Code:=cL r14_3
noncomputable def x14_4:Code:=cL (cL (cR r14_3))
noncomputable def x14_5:Code:=cL (cT (cR (cL (cR r14_3))))
noncomputable def r14_6:Code:=cR (cR r14_3)
noncomputable def x14_6:Code:=cL (cL r14_6)
noncomputable def x14_7:Code:=cL (cT (cR (cL r14_6)))
noncomputable def x14_8:Code:=cL (cR r14_6)
noncomputable def r14_9:Code:=cR (cR r14_6)
noncomputable def x14_9:Code:=cL (cL r14_9)
noncomputable def x14_10:Code:=cL (cT (cR (cL r14_9)))
noncomputable def x14_11:Code:=cL (cL (cR r14_9))
noncomputable def x14_12:Code:=cL (cT (cR (cL (cR r14_9))))
noncomputable def r14_13:Code:=cR (cR r14_9)
noncomputable def x14_13:Code:=cL r14_13
noncomputable def x14_14:Code:=cL (cL (cR r14_13))
noncomputable def x14_15:Code:=cL (cT (cR (cL (cR r14_13))))
noncomputable def r14_16:Code:=cR (cR r14_13)
noncomputable def x14_16:Code:=cL r14_16
noncomputable def x14_17:Code:=cL (cR r14_16)
noncomputable def x14_18:Code:=cL (cR (cR r14_16))
noncomputable def x14_27:Code:=cL (cR (cR (cR r14_16)))
theorem b14_eq:b14=.seq x14_0 (.seq (.seq x14_1 (.cond (.tmp 23) (.seq x14_2 .ret) .skip)) (.seq x14_3 (.seq (.seq x14_4 (.cond (.tmp 53) (.seq x14_5 .ret) .skip)) (.seq (.seq x14_6 (.cond (.tmp 57) (.seq x14_7 .ret) .skip)) (.seq x14_8 (.seq (.seq x14_9 (.cond (.tmp 76) (.seq x14_10 .ret) .skip)) (.seq (.seq x14_11 (.cond (.tmp 78) (.seq x14_12 .ret) .skip)) (.seq x14_13 (.seq (.seq x14_14 (.cond (.tmp 91) (.seq x14_15 .ret) .skip)) (.seq x14_16 (.seq x14_17 (.seq x14_18 (.seq x14_27 .ret))))))))))))):=by kernel_rfl
theorem ex160_14 {t:Array Value} (h:t.size=160):∃ f:Nat→Value,t=#[f 0,f 1,f 2,f 3,f 4,f 5,f 6,f 7,f 8,f 9,f 10,f 11,f 12,f 13,f 14,f 15,f 16,f 17,f 18,f 19,f 20,f 21,f 22,f 23,f 24,f 25,f 26,f 27,f 28,f 29,f 30,f 31,f 32,f 33,f 34,f 35,f 36,f 37,f 38,f 39,f 40,f 41,f 42,f 43,f 44,f 45,f 46,f 47,f 48,f 49,f 50,f 51,f 52,f 53,f 54,f 55,f 56,f 57,f 58,f 59,f 60,f 61,f 62,f 63,f 64,f 65,f 66,f 67,f 68,f 69,f 70,f 71,f 72,f 73,f 74,f 75,f 76,f 77,f 78,f 79,f 80,f 81,f 82,f 83,f 84,f 85,f 86,f 87,f 88,f 89,f 90,f 91,f 92,f 93,f 94,f 95,f 96,f 97,f 98,f 99,f 100,f 101,f 102,f 103,f 104,f 105,f 106,f 107,f 108,f 109,f 110,f 111,f 112,f 113,f 114,f 115,f 116,f 117,f 118,f 119,f 120,f 121,f 122,f 123,f 124,f 125,f 126,f 127,f 128,f 129,f 130,f 131,f 132,f 133,f 134,f 135,f 136,f 137,f 138,f 139,f 140,f 141,f 142,f 143,f 144,f 145,f 146,f 147,f 148,f 149,f 150,f 151,f 152,f 153,f 154,f 155,f 156,f 157,f 158,f 159]:=by
 obtain⟨f,rfl⟩:=exN 160 h
 exact⟨f,by kernel_rfl⟩
theorem f14_0 (d:Dry) (ha sa:Option Addr) (hn hcap sn scap:Nat) (u:Value) (t:Array Value) (hs:t.size=160) (h0:t[0]?=some (d.val ⟨.slice ha hn hcap,.slice sa sn scap⟩)) (h1:t[1]?=some (u)) (w:World)  :
  x14_0.wpIn FW 0 Try.prog (fun e a w'=>e=.normal∧a.defers=[]∧(a.tmps.size=160∧a.tmps[1]?=some (u)∧a.tmps[2]?=some (ptr w.heap.size))∧w'=w.alloc (.cells (d.cellsA ⟨.slice ha hn hcap,.slice sa sn scap⟩) 27)) ⟨t,[]⟩ w:=by
 obtain⟨f,rfl⟩:=ex160_14 hs
 have g0:f 0=d.val ⟨.slice ha hn hcap,.slice sa sn scap⟩:=by simpa using h0
 have g1:f 1=u:=by simpa using h1
 rw [g0,g1] at *
 clear hs h0 h1 g0 g1
 simp only [x14_0,x14_1,x14_3,x14_4,x14_6,x14_8,x14_9,x14_11,x14_13,x14_14,x14_16,x14_17,x14_18,r14_3,r14_6,r14_9,r14_13,r14_16,b14,Try.f14,cL,cR,cB,cT]
 gi_wp2
def Qf14_1 (w:World) (p1:Nat) (u:Value) (b:Bool) (t:Array Value) (w' : World):Prop:=(t.size=160∧t[1]?=some (u)∧t[2]?=some (ptr p1)∧t[23]?=some (.bool b))∧Nx w w'
theorem f14_1 (d:Dry) (r:R2) (p1:Nat) (u:Value) (t:Array Value) (hs:t.size=160) (h1:t[1]?=some (u)) (h2:t[2]?=some (ptr p1)) (w:World) (hB:DBox w p1 d r) (hh:Sl w r.h 2 (d.heats.map two)) (hst:Sl w r.s 6 (d.steps.map Stp.cells)) (hl:d.heats.length≤140737488355328) (sl:d.steps.length≤140737488355328) :
  x14_1.wpIn FW 0 Try.prog (fun e a w'=>e=.normal∧a.defers=[]∧Qf14_1 w p1 u (out11 d) a.tmps w') ⟨t,[]⟩ w:=by
 obtain⟨f,rfl⟩:=ex160_14 hs
 have g1:f 1=u:=by simpa using h1
 have g2:f 2=ptr p1:=by simpa using h2
 rw [g1,g2] at *
 clear hs h1 h2 g1 g2
 have k16:=great16_big d r w hh hst hl sl
 have c0:w.cell? ⟨p1,0,none⟩=some (r.h):=hB.at' 0 _ rfl
 have c1:w.cell? ⟨p1,1,none⟩=some (num d.soak):=hB.at' 1 _ rfl
 have c2:w.cell? ⟨p1,2,none⟩=some (num d.brittle):=hB.at' 2 _ rfl
 have c3:w.cell? ⟨p1,3,none⟩=some (num d.start.w):=hB.at' 3 _ rfl
 have c4:w.cell? ⟨p1,4,none⟩=some (num d.start.c):=hB.at' 4 _ rfl
 have c5:w.cell? ⟨p1,5,none⟩=some (num d.start.h):=hB.at' 5 _ rfl
 have c6:w.cell? ⟨p1,6,none⟩=some (r.s):=hB.at' 6 _ rfl
 by_cases hg:greatD d=true
 ·have ho:out11 d=true:=by simp [out11,hg]
  rw [hg] at k16
  rw [ho]
  clear hB hh hst hl sl hg ho
  simp only [x14_0,x14_1,x14_3,x14_4,x14_6,x14_8,x14_9,x14_11,x14_13,x14_14,x14_16,x14_17,x14_18,r14_3,r14_6,r14_9,r14_13,r14_16,b14,Try.f14,cL,cR,cB,cT]
  gi_wp2_with (first | (gi_at_call 16;refine CallsIn.mono k16 ?_;rintro e w1 ⟨rfl,n1⟩) | gi_in)
  exact⟨⟨rfl,rfl,rfl,rfl⟩,n1⟩
 ·have hd:DrySl w d r:=⟨hh,hst,by simp [greatD] at hg;omega,by simp [greatD] at hg;omega⟩
  have hgf:greatD d=false:=by simpa using hg
  rw [hgf] at k16
  obtain⟨rh,rs⟩:=r
  obtain⟨ha,hcap,e1⟩:=hd.heats.cases
  obtain⟨sa,scap,e2⟩:=hd.steps.cases
  dsimp only at e1 e2
  rw [List.length_map] at e1 e2
  subst e1 e2
  have kc:=fun (w1:World) (n:Nx w w1)=>(⟨(OldC.nx n).at c0,(OldC.nx n).at c1,(OldC.nx n).at c2,(OldC.nx n).at c3,(OldC.nx n).at c4,(OldC.nx n).at c5,(OldC.nx n).at c6⟩:_∧_∧_∧_∧_∧_∧_)
  dsimp only at kc
  have k33:=fun (w1:World) (n:Nx w w1)=>check33_any d _ w1 (hd.nx n)
  obtain⟨ov,hov⟩:∃ o,out11 d=o:=⟨_,rfl⟩
  rw [hov]
  unfold out11 at hov
  rw [hgf] at hov
  generalize dryF d=f1 at *
  clear hB hh hst hl sl hg hd hgf
  by_cases h1:f1=0
  ·subst h1
   have ho:ov=false:=by rw [← hov];simp
   rw [ho]
   clear hov ho
   simp only [x14_0,x14_1,x14_3,x14_4,x14_6,x14_8,x14_9,x14_11,x14_13,x14_14,x14_16,x14_17,x14_18,r14_3,r14_6,r14_9,r14_13,r14_16,b14,Try.f14,cL,cR,cB,cT]
   gi_wp2_with (first | (gi_at_call 16;refine CallsIn.mono k16 ?_;rintro e w1 ⟨rfl,n1⟩;clear c0 c1 c2 c3 c4 c5 c6;obtain⟨c0,c1,c2,c3,c4,c5,c6⟩:=kc _ n1) | (gi_at_call 33;refine CallsIn.mono (k33 _ n1) ?_;rintro e w2 ⟨rfl,n2'⟩;have n2:=n1.trans n2') | gi_in)
   exact⟨⟨rfl,rfl,rfl,rfl⟩,n2⟩
  ·have ho:ov=true:=by rw [← hov];simp [h1]
   rw [ho]
   have b1:(f1 != 0)=true:=by simpa using h1
   clear hov ho h1
   simp only [x14_0,x14_1,x14_3,x14_4,x14_6,x14_8,x14_9,x14_11,x14_13,x14_14,x14_16,x14_17,x14_18,r14_3,r14_6,r14_9,r14_13,r14_16,b14,Try.f14,cL,cR,cB,cT]
   gi_wp2_with (first | (gi_at_call 16;refine CallsIn.mono k16 ?_;rintro e w1 ⟨rfl,n1⟩;clear c0 c1 c2 c3 c4 c5 c6;obtain⟨c0,c1,c2,c3,c4,c5,c6⟩:=kc _ n1) | (gi_at_call 33;refine CallsIn.mono (k33 _ n1) ?_;rintro e w2 ⟨rfl,n2'⟩;have n2:=n1.trans n2') | gi_in)
   exact⟨⟨rfl,rfl,rfl,rfl⟩,n2⟩
def Qf14_3 (w:World) (p1:Nat) (u:Value) (sf:List (List St)×Bool×Int) (t:Array Value) (w' : World):Prop:=∃ vl,(t.size=160∧t[1]?=some (u)∧t[2]?=some (ptr p1)∧t[5]?=some (vl)∧t[6]?=some (.bool sf.2.1)∧t[7]?=some (num sf.2.2))∧Nx w w'∧SetsSl w' vl sf.1
theorem f14_3 (d:Dry) (r:R2) (p1:Nat) (u:Value) (sf:List (List St)×Bool×Int) (t:Array Value) (hs:t.size=160) (h1:t[1]?=some (u)) (h2:t[2]?=some (ptr p1)) (w:World) (hB:DBox w p1 d r) (hd:DrySl w d r) (hsf:safeF d=sf) :
  x14_3.wpIn FW 0 Try.prog (fun e a w'=>e=.normal∧a.defers=[]∧Qf14_3 w p1 u sf a.tmps w') ⟨t,[]⟩ w:=by
 obtain⟨f,rfl⟩:=ex160_14 hs
 have g1:f 1=u:=by simpa using h1
 have g2:f 2=ptr p1:=by simpa using h2
 rw [g1,g2] at *
 clear hs h1 h2 g1 g2
 have k20:=safe20_any d r w hd
 rw [hsf] at k20
 clear hsf
 have c0:w.cell? ⟨p1,0,none⟩=some (r.h):=hB.at' 0 _ rfl
 have c1:w.cell? ⟨p1,1,none⟩=some (num d.soak):=hB.at' 1 _ rfl
 have c2:w.cell? ⟨p1,2,none⟩=some (num d.brittle):=hB.at' 2 _ rfl
 have c3:w.cell? ⟨p1,3,none⟩=some (num d.start.w):=hB.at' 3 _ rfl
 have c4:w.cell? ⟨p1,4,none⟩=some (num d.start.c):=hB.at' 4 _ rfl
 have c5:w.cell? ⟨p1,5,none⟩=some (num d.start.h):=hB.at' 5 _ rfl
 have c6:w.cell? ⟨p1,6,none⟩=some (r.s):=hB.at' 6 _ rfl
 obtain⟨rh,rs⟩:=r
 obtain⟨ha,hcap,e1⟩:=hd.heats.cases
 obtain⟨sa,scap,e2⟩:=hd.steps.cases
 dsimp only at e1 e2
 rw [List.length_map] at e1 e2
 subst e1 e2
 obtain⟨sl,sb,sz⟩:=sf
 try dsimp only at *
 clear hB hd
 simp only [x14_0,x14_1,x14_3,x14_4,x14_6,x14_8,x14_9,x14_11,x14_13,x14_14,x14_16,x14_17,x14_18,r14_3,r14_6,r14_9,r14_13,r14_16,b14,Try.f14,cL,cR,cB,cT]
 gi_wp2_with (first | (gi_at_call 20;refine CallsIn.mono k20 ?_;rintro e w1 ⟨vl,rfl,n1,hS⟩) | gi_in)
 exact⟨vl,⟨rfl,rfl,rfl,rfl,rfl,rfl⟩,n1,hS⟩
def Qf14_4 (w:World) (p1:Nat) (u:Value) (vl:Value) (b:Bool) (t:Array Value) (w' : World):Prop:=(t.size=160∧t[1]?=some (u)∧t[2]?=some (ptr p1)∧t[5]?=some (vl)∧t[6]?=some (.bool b)∧t[53]?=some (.bool false))∧w'=w
theorem f14_4 (d:Dry) (r:R2) (p1:Nat) (u:Value) (la:Option Addr) (m lcap:Nat) (b:Bool) (t:Array Value) (hs:t.size=160) (h1:t[1]?=some (u)) (h2:t[2]?=some (ptr p1)) (h5:t[5]?=some (.slice la m lcap)) (h6:t[6]?=some (.bool b)) (h7:t[7]?=some (num 0)) (w:World) (hB:DBox w p1 d r) (hd:DrySl w d r) (hm:m=if b=true then d.steps.length+1 else 0) :
  x14_4.wpIn FW 0 Try.prog (fun e a w'=>e=.normal∧a.defers=[]∧Qf14_4 w p1 u (.slice la m lcap) b a.tmps w') ⟨t,[]⟩ w:=by
 obtain⟨f,rfl⟩:=ex160_14 hs
 have g1:f 1=u:=by simpa using h1
 have g2:f 2=ptr p1:=by simpa using h2
 have g5:f 5=.slice la m lcap:=by simpa using h5
 have g6:f 6=.bool b:=by simpa using h6
 have g7:f 7=num 0:=by simpa using h7
 rw [g1,g2,g5,g6,g7] at *
 clear hs h1 h2 h5 h6 h7 g1 g2 g5 g6 g7
 have c6:w.cell? ⟨p1,6,none⟩=some (r.s):=hB.at' 6 _ rfl
 obtain⟨rh,rs⟩:=r
 obtain⟨ha,hcap,e1⟩:=hd.heats.cases
 obtain⟨sa,scap,e2⟩:=hd.steps.cases
 dsimp only at e1 e2
 rw [List.length_map] at e1 e2
 subst e1 e2
 have hsl:=hd.sl
 clear hB hd
 try dsimp only at *
 generalize d.steps.length=n at *
 cases b with
 | false =>
  have hm0:m=0:=by simpa using hm
  clear hm
  subst hm0
  simp only [x14_0,x14_1,x14_3,x14_4,x14_6,x14_8,x14_9,x14_11,x14_13,x14_14,x14_16,x14_17,x14_18,r14_3,r14_6,r14_9,r14_13,r14_16,b14,Try.f14,cL,cR,cB,cT]
  gi_wp2
  exact⟨⟨rfl,rfl,rfl,rfl,rfl,rfl⟩,rfl⟩
 | true =>
  have hm0:m=n+1:=by simpa using hm
  clear hm
  subst hm0
  have e1:((n:Int)+1 != (n:Int)+1)=false:=by simp
  simp only [x14_0,x14_1,x14_3,x14_4,x14_6,x14_8,x14_9,x14_11,x14_13,x14_14,x14_16,x14_17,x14_18,r14_3,r14_6,r14_9,r14_13,r14_16,b14,Try.f14,cL,cR,cB,cT]
  gi_wp2
  exact⟨⟨rfl,rfl,rfl,rfl,rfl,rfl⟩,rfl⟩
def Qf14_6 (w:World) (p1:Nat) (u:Value) (vl:Value) (b c:Bool) (t:Array Value) (w' : World):Prop:=(t.size=160∧t[1]?=some (u)∧t[2]?=some (ptr p1)∧t[5]?=some (vl)∧t[6]?=some (.bool b)∧t[57]?=some (.bool c))∧w'=w
theorem f14_6 (d:Dry) (r:R2) (p1:Nat) (u:Value) (vl:Value) (b:Bool) (t:Array Value) (hs:t.size=160) (h1:t[1]?=some (u)) (h2:t[2]?=some (ptr p1)) (h5:t[5]?=some (vl)) (h6:t[6]?=some (.bool b)) (w:World) (hB:DBox w p1 d r) (hd:DrySl w d r) :
  x14_6.wpIn FW 0 Try.prog (fun e a w'=>e=.normal∧a.defers=[]∧Qf14_6 w p1 u vl b (decide (d.steps.length=0)) a.tmps w') ⟨t,[]⟩ w:=by
 obtain⟨f,rfl⟩:=ex160_14 hs
 have g1:f 1=u:=by simpa using h1
 have g2:f 2=ptr p1:=by simpa using h2
 have g5:f 5=vl:=by simpa using h5
 have g6:f 6=.bool b:=by simpa using h6
 rw [g1,g2,g5,g6] at *
 clear hs h1 h2 h5 h6 g1 g2 g5 g6
 have c6:w.cell? ⟨p1,6,none⟩=some (r.s):=hB.at' 6 _ rfl
 obtain⟨rh,rs⟩:=r
 obtain⟨ha,hcap,e1⟩:=hd.heats.cases
 obtain⟨sa,scap,e2⟩:=hd.steps.cases
 dsimp only at e1 e2
 rw [List.length_map] at e1 e2
 subst e1 e2
 have hsl:=hd.sl
 clear hB hd
 try dsimp only at *
 generalize d.steps.length=n at *
 by_cases hn:n=0
 ·subst hn
  simp only [x14_0,x14_1,x14_3,x14_4,x14_6,x14_8,x14_9,x14_11,x14_13,x14_14,x14_16,x14_17,x14_18,r14_3,r14_6,r14_9,r14_13,r14_16,b14,Try.f14,cL,cR,cB,cT]
  gi_wp2
  exact⟨⟨rfl,rfl,rfl,rfl,rfl,rfl⟩,rfl⟩
 ·have e1:((n:Int) == 0)=false:=by simp;omega
  rw [decide_eq_false hn]
  simp only [x14_0,x14_1,x14_3,x14_4,x14_6,x14_8,x14_9,x14_11,x14_13,x14_14,x14_16,x14_17,x14_18,r14_3,r14_6,r14_9,r14_13,r14_16,b14,Try.f14,cL,cR,cB,cT]
  gi_wp2
  exact⟨⟨rfl,rfl,rfl,rfl,rfl,rfl⟩,rfl⟩
def Qf14_8 (w:World) (p1:Nat) (u:Value) (vl:Value) (b:Bool) (c:Int×Bool×Int) (t:Array Value) (w' : World):Prop:=(t.size=160∧t[1]?=some (u)∧t[2]?=some (ptr p1)∧t[5]?=some (vl)∧t[6]?=some (.bool b)∧t[9]?=some (.bool c.2.1)∧t[7]?=some (num c.2.2))∧Nx w w'
theorem f14_8 (d:Dry) (r:R2) (p1:Nat) (u:Value) (vl:Value) (b:Bool) (c:Int×Bool×Int) (t:Array Value) (hs:t.size=160) (h1:t[1]?=some (u)) (h2:t[2]?=some (ptr p1)) (h5:t[5]?=some (vl)) (h6:t[6]?=some (.bool b)) (w:World) (hB:DBox w p1 d r) (hd:DrySl w d r) (hc:chooseF d (0:Int) d.start=c) :
  x14_8.wpIn FW 0 Try.prog (fun e a w'=>e=.normal∧a.defers=[]∧Qf14_8 w p1 u vl b c a.tmps w') ⟨t,[]⟩ w:=by
 obtain⟨f,rfl⟩:=ex160_14 hs
 have g1:f 1=u:=by simpa using h1
 have g2:f 2=ptr p1:=by simpa using h2
 have g5:f 5=vl:=by simpa using h5
 have g6:f 6=.bool b:=by simpa using h6
 rw [g1,g2,g5,g6] at *
 clear hs h1 h2 h5 h6 g1 g2 g5 g6
 have k18:=choose18_any d r 0 d.start w hd (by omega)
 rw [hc] at k18
 clear hc
 have c0:w.cell? ⟨p1,0,none⟩=some (r.h):=hB.at' 0 _ rfl
 have c1:w.cell? ⟨p1,1,none⟩=some (num d.soak):=hB.at' 1 _ rfl
 have c2:w.cell? ⟨p1,2,none⟩=some (num d.brittle):=hB.at' 2 _ rfl
 have c3:w.cell? ⟨p1,3,none⟩=some (num d.start.w):=hB.at' 3 _ rfl
 have c4:w.cell? ⟨p1,4,none⟩=some (num d.start.c):=hB.at' 4 _ rfl
 have c5:w.cell? ⟨p1,5,none⟩=some (num d.start.h):=hB.at' 5 _ rfl
 have c6:w.cell? ⟨p1,6,none⟩=some (r.s):=hB.at' 6 _ rfl
 obtain⟨rh,rs⟩:=r
 obtain⟨ha,hcap,e1⟩:=hd.heats.cases
 obtain⟨sa,scap,e2⟩:=hd.steps.cases
 dsimp only at e1 e2
 rw [List.length_map] at e1 e2
 subst e1 e2
 obtain⟨c0',cb,cz⟩:=c
 try dsimp only at *
 clear hB hd
 simp only [x14_0,x14_1,x14_3,x14_4,x14_6,x14_8,x14_9,x14_11,x14_13,x14_14,x14_16,x14_17,x14_18,r14_3,r14_6,r14_9,r14_13,r14_16,b14,Try.f14,cL,cR,cB,cT]
 gi_wp2_with (first | (gi_at_call 18;refine CallsIn.mono k18 ?_;rintro e w1 ⟨rfl,n1⟩) | gi_in)
 exact⟨⟨rfl,rfl,rfl,rfl,rfl,rfl,rfl⟩,n1⟩
theorem f14_9 (p1:Nat) (u:Value) (vl:Value) (b:Bool) (t:Array Value) (hs:t.size=160) (h1:t[1]?=some (u)) (h2:t[2]?=some (ptr p1)) (h5:t[5]?=some (vl)) (h6:t[6]?=some (.bool b)) (h9:t[9]?=some (.bool b)) (h7:t[7]?=some (num 0)) (w:World)  :
  x14_9.wpIn FW 0 Try.prog (fun e a w'=>e=.normal∧a.defers=[]∧(a.tmps.size=160∧a.tmps[1]?=some (u)∧a.tmps[2]?=some (ptr p1)∧a.tmps[5]?=some (vl)∧a.tmps[6]?=some (.bool b)∧a.tmps[76]?=some (.bool false))∧w'=w) ⟨t,[]⟩ w:=by
 obtain⟨f,rfl⟩:=ex160_14 hs
 have g1:f 1=u:=by simpa using h1
 have g2:f 2=ptr p1:=by simpa using h2
 have g5:f 5=vl:=by simpa using h5
 have g6:f 6=.bool b:=by simpa using h6
 have g9:f 9=.bool b:=by simpa using h9
 have g7:f 7=num 0:=by simpa using h7
 rw [g1,g2,g5,g6,g9,g7] at *
 clear hs h1 h2 h5 h6 h9 h7 g1 g2 g5 g6 g9 g7
 cases b <;>
 ·simp only [x14_0,x14_1,x14_3,x14_4,x14_6,x14_8,x14_9,x14_11,x14_13,x14_14,x14_16,x14_17,x14_18,r14_3,r14_6,r14_9,r14_13,r14_16,b14,Try.f14,cL,cR,cB,cT]
  gi_wp2
theorem f14_11 (p1:Nat) (u:Value) (vl:Value) (b:Bool) (t:Array Value) (hs:t.size=160) (h1:t[1]?=some (u)) (h2:t[2]?=some (ptr p1)) (h5:t[5]?=some (vl)) (h6:t[6]?=some (.bool b)) (w:World)  :
  x14_11.wpIn FW 0 Try.prog (fun e a w'=>e=.normal∧a.defers=[]∧(a.tmps.size=160∧a.tmps[1]?=some (u)∧a.tmps[2]?=some (ptr p1)∧a.tmps[5]?=some (vl)∧a.tmps[6]?=some (.bool b)∧a.tmps[78]?=some (.bool !b))∧w'=w) ⟨t,[]⟩ w:=by
 obtain⟨f,rfl⟩:=ex160_14 hs
 have g1:f 1=u:=by simpa using h1
 have g2:f 2=ptr p1:=by simpa using h2
 have g5:f 5=vl:=by simpa using h5
 have g6:f 6=.bool b:=by simpa using h6
 rw [g1,g2,g5,g6] at *
 clear hs h1 h2 h5 h6 g1 g2 g5 g6
 cases b <;>
 ·simp only [x14_0,x14_1,x14_3,x14_4,x14_6,x14_8,x14_9,x14_11,x14_13,x14_14,x14_16,x14_17,x14_18,r14_3,r14_6,r14_9,r14_13,r14_16,b14,Try.f14,cL,cR,cB,cT]
  gi_wp2
def Qf14_13 (w:World) (p1:Nat) (u:Value) (vl:Value) (pv:Bool×Int) (t:Array Value) (w' : World):Prop:=(t.size=160∧t[1]?=some (u)∧t[2]?=some (ptr p1)∧t[5]?=some (vl)∧t[10]?=some (.bool pv.1)∧t[7]?=some (num pv.2))∧Nx w w'
theorem f14_13 (d:Dry) (r:R2) (p1:Nat) (u:Value) (vl:Value) (L:List (List St)) (pv:Bool×Int) (t:Array Value) (hs:t.size=160) (h1:t[1]?=some (u)) (h2:t[2]?=some (ptr p1)) (h5:t[5]?=some (vl)) (w:World) (hB:DBox w p1 d r) (hd:DrySl w d r) (hS:SetsSl w vl L) (hl:L.length≤140737488355328) (hl2:∀ l∈L,l.length≤4000) (hp:provesF d L=pv) :
  x14_13.wpIn FW 0 Try.prog (fun e a w'=>e=.normal∧a.defers=[]∧Qf14_13 w p1 u vl pv a.tmps w') ⟨t,[]⟩ w:=by
 obtain⟨f,rfl⟩:=ex160_14 hs
 have g1:f 1=u:=by simpa using h1
 have g2:f 2=ptr p1:=by simpa using h2
 have g5:f 5=vl:=by simpa using h5
 rw [g1,g2,g5] at *
 clear hs h1 h2 h5 g1 g2 g5
 have k50:=proves50_any d r vl L w hd hS hl hl2
 rw [hp] at k50
 clear hp hS hl hl2
 have c0:w.cell? ⟨p1,0,none⟩=some (r.h):=hB.at' 0 _ rfl
 have c1:w.cell? ⟨p1,1,none⟩=some (num d.soak):=hB.at' 1 _ rfl
 have c2:w.cell? ⟨p1,2,none⟩=some (num d.brittle):=hB.at' 2 _ rfl
 have c3:w.cell? ⟨p1,3,none⟩=some (num d.start.w):=hB.at' 3 _ rfl
 have c4:w.cell? ⟨p1,4,none⟩=some (num d.start.c):=hB.at' 4 _ rfl
 have c5:w.cell? ⟨p1,5,none⟩=some (num d.start.h):=hB.at' 5 _ rfl
 have c6:w.cell? ⟨p1,6,none⟩=some (r.s):=hB.at' 6 _ rfl
 obtain⟨rh,rs⟩:=r
 obtain⟨ha,hcap,e1⟩:=hd.heats.cases
 obtain⟨sa,scap,e2⟩:=hd.steps.cases
 dsimp only at e1 e2
 rw [List.length_map] at e1 e2
 subst e1 e2
 obtain⟨pb,pz⟩:=pv
 try dsimp only at *
 clear hB hd
 simp only [x14_0,x14_1,x14_3,x14_4,x14_6,x14_8,x14_9,x14_11,x14_13,x14_14,x14_16,x14_17,x14_18,r14_3,r14_6,r14_9,r14_13,r14_16,b14,Try.f14,cL,cR,cB,cT]
 gi_wp2_with (first | (gi_at_call 50;refine CallsIn.mono k50 ?_;rintro e w1 ⟨rfl,n1⟩) | gi_in)
 exact⟨⟨rfl,rfl,rfl,rfl,rfl,rfl⟩,n1⟩
theorem f14_14 (p1:Nat) (u:Value) (vl:Value) (t:Array Value) (hs:t.size=160) (h1:t[1]?=some (u)) (h2:t[2]?=some (ptr p1)) (h5:t[5]?=some (vl)) (h10:t[10]?=some (.bool true)) (h7:t[7]?=some (num 0)) (w:World)  :
  x14_14.wpIn FW 0 Try.prog (fun e a w'=>e=.normal∧a.defers=[]∧(a.tmps.size=160∧a.tmps[1]?=some (u)∧a.tmps[2]?=some (ptr p1)∧a.tmps[5]?=some (vl)∧a.tmps[91]?=some (.bool false))∧w'=w) ⟨t,[]⟩ w:=by
 obtain⟨f,rfl⟩:=ex160_14 hs
 have g1:f 1=u:=by simpa using h1
 have g2:f 2=ptr p1:=by simpa using h2
 have g5:f 5=vl:=by simpa using h5
 have g10:f 10=.bool true:=by simpa using h10
 have g7:f 7=num 0:=by simpa using h7
 rw [g1,g2,g5,g10,g7] at *
 clear hs h1 h2 h5 h10 h7 g1 g2 g5 g10 g7
 simp only [x14_0,x14_1,x14_3,x14_4,x14_6,x14_8,x14_9,x14_11,x14_13,x14_14,x14_16,x14_17,x14_18,r14_3,r14_6,r14_9,r14_13,r14_16,b14,Try.f14,cL,cR,cB,cT]
 gi_wp2
def Qf14_16 (w:World) (p1:Nat) (vl:Value) (air:List Int) (t:Array Value) (w' : World):Prop:=∃ va,(t.size=160∧t[2]?=some (ptr p1)∧t[5]?=some (vl)∧t[11]?=some (va))∧Nx w w'∧Sl w' va 1 (air.map one)
theorem f14_16 (d:Dry) (r:R2) (p1:Nat) (u:Value) (vl:Value) (t:Array Value) (hs:t.size=160) (h1:t[1]?=some (u)) (h2:t[2]?=some (ptr p1)) (h5:t[5]?=some (vl)) (w:World) (hB:DBox w p1 d r) (hd:DrySl w d r) (hO:d.Ok) (picks:List Int) (hu:Sl w u 1 (picks.map fun x=>[u16 x])) (hpx:∀ x∈picks,0≤x∧x≤65535) (hpl:picks.length≤140737488355328) :
  x14_16.wpIn FW 0 Try.prog (fun e a w'=>e=.normal∧a.defers=[]∧Qf14_16 w p1 vl (airP d picks) a.tmps w') ⟨t,[]⟩ w:=by
 obtain⟨f,rfl⟩:=ex160_14 hs
 have g1:f 1=u:=by simpa using h1
 have g2:f 2=ptr p1:=by simpa using h2
 have g5:f 5=vl:=by simpa using h5
 rw [g1,g2,g5] at *
 clear hs h1 h2 h5 g1 g2 g5
 have k41:=air41_any d r u picks w hd hO hu hpx hpl
 have c0:w.cell? ⟨p1,0,none⟩=some (r.h):=hB.at' 0 _ rfl
 have c1:w.cell? ⟨p1,1,none⟩=some (num d.soak):=hB.at' 1 _ rfl
 have c2:w.cell? ⟨p1,2,none⟩=some (num d.brittle):=hB.at' 2 _ rfl
 have c3:w.cell? ⟨p1,3,none⟩=some (num d.start.w):=hB.at' 3 _ rfl
 have c4:w.cell? ⟨p1,4,none⟩=some (num d.start.c):=hB.at' 4 _ rfl
 have c5:w.cell? ⟨p1,5,none⟩=some (num d.start.h):=hB.at' 5 _ rfl
 have c6:w.cell? ⟨p1,6,none⟩=some (r.s):=hB.at' 6 _ rfl
 obtain⟨rh,rs⟩:=r
 obtain⟨ha,hcap,e1⟩:=hd.heats.cases
 obtain⟨sa,scap,e2⟩:=hd.steps.cases
 dsimp only at e1 e2
 rw [List.length_map] at e1 e2
 subst e1 e2
 obtain⟨ua,ucap,rfl⟩:=hu.cases
 rw [List.length_map] at *
 clear hB hd hO hu hpx hpl
 generalize airP d picks=air at *
 simp only [x14_0,x14_1,x14_3,x14_4,x14_6,x14_8,x14_9,x14_11,x14_13,x14_14,x14_16,x14_17,x14_18,r14_3,r14_6,r14_9,r14_13,r14_16,b14,Try.f14,cL,cR,cB,cT]
 gi_wp2_with (first | (gi_at_call 41;refine CallsIn.mono k41 ?_;rintro e w1 ⟨va,rfl,n1,sa⟩) | gi_in)
 exact⟨va,⟨rfl,rfl,rfl,rfl⟩,n1,sa⟩
def Qf14_17 (w:World) (p1:Nat) (vl:Value) (va:Value) (s:St) (t:Array Value) (w' : World):Prop:=(t.size=160∧t[2]?=some (ptr p1)∧t[5]?=some (vl)∧t[11]?=some (va)∧t[12]?=some (ptr w.heap.size))∧OldC w w'∧w'.heap[w.heap.size]?=some (.cells s.cells.toArray 24 (0,0))
theorem f14_17 (d:Dry) (r:R2) (p1:Nat) (vl:Value) (va:Value) (t:Array Value) (hs:t.size=160) (h2:t[2]?=some (ptr p1)) (h5:t[5]?=some (vl)) (h11:t[11]?=some (va)) (w:World) (hB:DBox w p1 d r) :
  x14_17.wpIn FW 0 Try.prog (fun e a w'=>e=.normal∧a.defers=[]∧Qf14_17 w p1 vl va d.start a.tmps w') ⟨t,[]⟩ w:=by
 obtain⟨f,rfl⟩:=ex160_14 hs
 have g2:f 2=ptr p1:=by simpa using h2
 have g5:f 5=vl:=by simpa using h5
 have g11:f 11=va:=by simpa using h11
 rw [g2,g5,g11] at *
 clear hs h2 h5 h11 g2 g5 g11
 have c0:w.cell? ⟨p1,0,none⟩=some (r.h):=hB.at' 0 _ rfl
 have c1:w.cell? ⟨p1,1,none⟩=some (num d.soak):=hB.at' 1 _ rfl
 have c2:w.cell? ⟨p1,2,none⟩=some (num d.brittle):=hB.at' 2 _ rfl
 have c3:w.cell? ⟨p1,3,none⟩=some (num d.start.w):=hB.at' 3 _ rfl
 have c4:w.cell? ⟨p1,4,none⟩=some (num d.start.c):=hB.at' 4 _ rfl
 have c5:w.cell? ⟨p1,5,none⟩=some (num d.start.h):=hB.at' 5 _ rfl
 have c6:w.cell? ⟨p1,6,none⟩=some (r.s):=hB.at' 6 _ rfl
 have hlt:=hB.lt
 clear hB
 obtain⟨nA,sA,gA⟩:=al1 (w:=w) (o1:=.cells d.start.cells.toArray 24 (0,0)) rfl
 obtain⟨nB,sB,gB⟩:=al1 (w:=w) (o1:=.cells #[num 0,num 0,num 0] 24 (0,0)) rfl
 have y0:=row_cell (i:=0) gB rfl
 have y1:=row_cell (i:=1) gB rfl
 have y2:=row_cell (i:=2) gB rfl
 have z0:=row_frozen (i:=0) gB
 have z1:=row_frozen (i:=1) gB
 have z2:=row_frozen (i:=2) gB
 simp only [x14_0,x14_1,x14_3,x14_4,x14_6,x14_8,x14_9,x14_11,x14_13,x14_14,x14_16,x14_17,x14_18,r14_3,r14_6,r14_9,r14_13,r14_16,b14,Try.f14,cL,cR,cB,cT]
 gi_wp2
 first
 | exact⟨⟨rfl,rfl,rfl,rfl,rfl⟩,OldC.nx nA,gA⟩
 | skip
end Go.Proofs.Ytedomogjmhommaa
