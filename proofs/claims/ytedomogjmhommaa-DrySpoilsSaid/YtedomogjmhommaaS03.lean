import Derived.Test.YtedomogjmhommaaS02
set_option linter.all false
set_option maxRecDepth 100000
set_option maxHeartbeats 8000000
namespace Go.Proofs.Ytedomogjmhommaa
open Go.RowKit Go.Con Go.Conc
noncomputable def b10:Code:=match Try.f10.body with | some c=>c | none=>.skip
noncomputable def x10_0:Code:=cL b10
noncomputable def x10_1:Code:=cL (cL (cR b10))
noncomputable def x10_2:Code:=cL (cT (cR (cL (cR b10))))
noncomputable def r10_3:Code:=cR (cR b10)
noncomputable def x10_3:Code:=cL r10_3
noncomputable def x10_4:Code:=cL (cR r10_3)
noncomputable def r10_5:Code:=cR (cR r10_3)
noncomputable def x10_5:Code:=cL r10_5
noncomputable def x10_7:Code:=cL (cR r10_5)
noncomputable def x10_8:Code:=cL (cL (cR (cR r10_5)))
noncomputable def x10_9:Code:=cL (cT (cR (cL (cR (cR r10_5)))))
noncomputable def r10_10:Code:=cR (cR (cR r10_5))
noncomputable def x10_10:Code:=cL r10_10
noncomputable def x10_11:Code:=cL (cR r10_10)
noncomputable def x10_13:Code:=cL (cR (cR r10_10))
noncomputable def x10_18:Code:=cL (cR (cR (cR r10_10)))
theorem b10_eq:b10=.seq x10_0 (.seq (.seq x10_1 (.cond (.tmp 20) (.seq x10_2 .ret) .skip)) (.seq x10_3 (.seq x10_4 (.seq x10_5 (.seq x10_7 (.seq (.seq x10_8 (.cond (.tmp 43) (.seq x10_9 .ret) .skip)) (.seq x10_10 (.seq x10_11 (.seq x10_13 (.seq x10_18 .ret)))))))))):=by kernel_rfl
theorem ex112_10 {t:Array Value} (h:t.size=112):∃ f:Nat→Value,t=#[f 0,f 1,f 2,f 3,f 4,f 5,f 6,f 7,f 8,f 9,f 10,f 11,f 12,f 13,f 14,f 15,f 16,f 17,f 18,f 19,f 20,f 21,f 22,f 23,f 24,f 25,f 26,f 27,f 28,f 29,f 30,f 31,f 32,f 33,f 34,f 35,f 36,f 37,f 38,f 39,f 40,f 41,f 42,f 43,f 44,f 45,f 46,f 47,f 48,f 49,f 50,f 51,f 52,f 53,f 54,f 55,f 56,f 57,f 58,f 59,f 60,f 61,f 62,f 63,f 64,f 65,f 66,f 67,f 68,f 69,f 70,f 71,f 72,f 73,f 74,f 75,f 76,f 77,f 78,f 79,f 80,f 81,f 82,f 83,f 84,f 85,f 86,f 87,f 88,f 89,f 90,f 91,f 92,f 93,f 94,f 95,f 96,f 97,f 98,f 99,f 100,f 101,f 102,f 103,f 104,f 105,f 106,f 107,f 108,f 109,f 110,f 111]:=by
 obtain⟨f,rfl⟩:=exN 112 h
 exact⟨f,by kernel_rfl⟩
theorem f10_0 (d:Dry) (ha sa:Option Addr) (hn hcap sn scap:Nat) (u:Value) (t:Array Value) (hs:t.size=112) (h0:t[0]?=some (d.val ⟨.slice ha hn hcap,.slice sa sn scap⟩)) (h1:t[1]?=some (u)) (w:World)  :
  x10_0.wpIn FW 0 Try.prog (fun e a w'=>e=.normal∧a.defers=[]∧(a.tmps.size=112∧a.tmps[1]?=some (u)∧a.tmps[2]?=some (ptr w.heap.size))∧w'=w.alloc (.cells (d.cellsA ⟨.slice ha hn hcap,.slice sa sn scap⟩) 27)) ⟨t,[]⟩ w:=by
 obtain⟨f,rfl⟩:=ex112_10 hs
 have g0:f 0=d.val ⟨.slice ha hn hcap,.slice sa sn scap⟩:=by simpa using h0
 have g1:f 1=u:=by simpa using h1
 rw [g0,g1] at *
 clear hs h0 h1 g0 g1
 simp only [x10_0,x10_1,x10_2,x10_3,x10_4,x10_5,x10_7,x10_8,x10_9,x10_10,x10_11,x10_13,x10_18,r10_3,r10_5,r10_10,b10,Try.f10,cL,cR,cB,cT]
 gi_wp2
def Qf10_1 (w:World) (p1:Nat) (u:Value) (b:Bool) (t:Array Value) (w' : World):Prop:=(t.size=112∧t[1]?=some (u)∧t[2]?=some (ptr p1)∧t[20]?=some (.bool b))∧Nx w w'
theorem f10_1 (d:Dry) (r:R2) (p1:Nat) (u:Value) (t:Array Value) (hs:t.size=112) (h1:t[1]?=some (u)) (h2:t[2]?=some (ptr p1)) (w:World) (hB:DBox w p1 d r) (hh:Sl w r.h 2 (d.heats.map two)) (hst:Sl w r.s 6 (d.steps.map Stp.cells)) (hl:d.heats.length≤140737488355328) (sl:d.steps.length≤140737488355328) :
  x10_1.wpIn FW 0 Try.prog (fun e a w'=>e=.normal∧a.defers=[]∧Qf10_1 w p1 u (out11 d) a.tmps w') ⟨t,[]⟩ w:=by
 obtain⟨f,rfl⟩:=ex112_10 hs
 have g1:f 1=u:=by simpa using h1
 have g2:f 2=ptr p1:=by simpa using h2
 rw [g1,g2] at *
 clear hs h1 h2 g1 g2
 have k16:=great16_big d r w hh hst hl sl
 have c0:w.cell? ⟨p1,0,none⟩=some (r.h):=hB.at' 0 _ rfl
 have c1:w.cell? ⟨p1,1,none⟩=some (num d.soak):=hB.at' 1 _ rfl
 have c2:w.cell? ⟨p1,2,none⟩=some (num d.brittle):=hB.at' 2 _ rfl
 have c3:w.cell? ⟨p1,3,none⟩=some (num d.start.w):=hB.at' 3 _ rfl
 have c4:w.cell? ⟨p1,4,none⟩=some (num d.start.c):=hB.at' 4 _ rfl
 have c5:w.cell? ⟨p1,5,none⟩=some (num d.start.h):=hB.at' 5 _ rfl
 have c6:w.cell? ⟨p1,6,none⟩=some (r.s):=hB.at' 6 _ rfl
 by_cases hg:greatD d=true
 ·have ho:out11 d=true:=by simp [out11,hg]
  rw [hg] at k16
  rw [ho]
  clear hB hh hst hl sl hg ho
  simp only [x10_0,x10_1,x10_2,x10_3,x10_4,x10_5,x10_7,x10_8,x10_9,x10_10,x10_11,x10_13,x10_18,r10_3,r10_5,r10_10,b10,Try.f10,cL,cR,cB,cT]
  gi_wp2_with (first | (gi_at_call 16;refine CallsIn.mono k16 ?_;rintro e w1 ⟨rfl,n1⟩) | gi_in)
  exact⟨⟨rfl,rfl,rfl,rfl⟩,n1⟩
 ·have hd:DrySl w d r:=⟨hh,hst,by simp [greatD] at hg;omega,by simp [greatD] at hg;omega⟩
  have hgf:greatD d=false:=by simpa using hg
  rw [hgf] at k16
  obtain⟨rh,rs⟩:=r
  obtain⟨ha,hcap,e1⟩:=hd.heats.cases
  obtain⟨sa,scap,e2⟩:=hd.steps.cases
  dsimp only at e1 e2
  rw [List.length_map] at e1 e2
  subst e1 e2
  have kc:=fun (w1:World) (n:Nx w w1)=>(⟨(OldC.nx n).at c0,(OldC.nx n).at c1,(OldC.nx n).at c2,(OldC.nx n).at c3,(OldC.nx n).at c4,(OldC.nx n).at c5,(OldC.nx n).at c6⟩:_∧_∧_∧_∧_∧_∧_)
  dsimp only at kc
  have k33:=fun (w1:World) (n:Nx w w1)=>check33_any d _ w1 (hd.nx n)
  obtain⟨ov,hov⟩:∃ o,out11 d=o:=⟨_,rfl⟩
  rw [hov]
  unfold out11 at hov
  rw [hgf] at hov
  generalize dryF d=f1 at *
  clear hB hh hst hl sl hg hd hgf
  by_cases h1:f1=0
  ·subst h1
   have ho:ov=false:=by rw [← hov];simp
   rw [ho]
   clear hov ho
   simp only [x10_0,x10_1,x10_2,x10_3,x10_4,x10_5,x10_7,x10_8,x10_9,x10_10,x10_11,x10_13,x10_18,r10_3,r10_5,r10_10,b10,Try.f10,cL,cR,cB,cT]
   gi_wp2_with (first | (gi_at_call 16;refine CallsIn.mono k16 ?_;rintro e w1 ⟨rfl,n1⟩;clear c0 c1 c2 c3 c4 c5 c6;obtain⟨c0,c1,c2,c3,c4,c5,c6⟩:=kc _ n1) | (gi_at_call 33;refine CallsIn.mono (k33 _ n1) ?_;rintro e w2 ⟨rfl,n2'⟩;have n2:=n1.trans n2') | gi_in)
   exact⟨⟨rfl,rfl,rfl,rfl⟩,n2⟩
  ·have ho:ov=true:=by rw [← hov];simp [h1]
   rw [ho]
   have b1:(f1 != 0)=true:=by simpa using h1
   clear hov ho h1
   simp only [x10_0,x10_1,x10_2,x10_3,x10_4,x10_5,x10_7,x10_8,x10_9,x10_10,x10_11,x10_13,x10_18,r10_3,r10_5,r10_10,b10,Try.f10,cL,cR,cB,cT]
   gi_wp2_with (first | (gi_at_call 16;refine CallsIn.mono k16 ?_;rintro e w1 ⟨rfl,n1⟩;clear c0 c1 c2 c3 c4 c5 c6;obtain⟨c0,c1,c2,c3,c4,c5,c6⟩:=kc _ n1) | (gi_at_call 33;refine CallsIn.mono (k33 _ n1) ?_;rintro e w2 ⟨rfl,n2'⟩;have n2:=n1.trans n2') | gi_in)
   exact⟨⟨rfl,rfl,rfl,rfl⟩,n2⟩
def Qf10_3 (w:World) (p1:Nat)  (plan air:List Int) (t:Array Value) (w' : World):Prop:=∃ vp va,(t.size=112∧t[2]?=some (ptr p1)∧t[5]?=some (vp)∧t[6]?=some (va))∧Nx w w'∧Sl w' vp 1 (plan.map one)∧Sl w' va 1 (air.map one)
theorem f10_3 (d:Dry) (r:R2) (p1:Nat) (u:Value) (t:Array Value) (hs:t.size=112) (h1:t[1]?=some (u)) (h2:t[2]?=some (ptr p1)) (w:World) (hB:DBox w p1 d r) (hd:DrySl w d r) (hO:d.Ok) (picks:List Int) (hu:Sl w u 1 (picks.map fun x=>[u16 x])) (hpx:∀ x∈picks,0≤x∧x≤65535) (hpl:picks.length≤140737488355328) :
  x10_3.wpIn FW 0 Try.prog (fun e a w'=>e=.normal∧a.defers=[]∧Qf10_3 w p1  (planP d picks) (airP d picks) a.tmps w') ⟨t,[]⟩ w:=by
 obtain⟨f,rfl⟩:=ex112_10 hs
 have g1:f 1=u:=by simpa using h1
 have g2:f 2=ptr p1:=by simpa using h2
 rw [g1,g2] at *
 clear hs h1 h2 g1 g2
 have k38:=fun (w1:World) (n:Nx w w1)=>plan38_any d r u picks w1 (hd.nx n) hO (hu.nx n) hpx hpl
 have k41:=fun (w1:World) (n:Nx w w1)=>air41_any d r u picks w1 (hd.nx n) hO (hu.nx n) hpx hpl
 have c0:w.cell? ⟨p1,0,none⟩=some (r.h):=hB.at' 0 _ rfl
 have c1:w.cell? ⟨p1,1,none⟩=some (num d.soak):=hB.at' 1 _ rfl
 have c2:w.cell? ⟨p1,2,none⟩=some (num d.brittle):=hB.at' 2 _ rfl
 have c3:w.cell? ⟨p1,3,none⟩=some (num d.start.w):=hB.at' 3 _ rfl
 have c4:w.cell? ⟨p1,4,none⟩=some (num d.start.c):=hB.at' 4 _ rfl
 have c5:w.cell? ⟨p1,5,none⟩=some (num d.start.h):=hB.at' 5 _ rfl
 have c6:w.cell? ⟨p1,6,none⟩=some (r.s):=hB.at' 6 _ rfl
 have hBl:=hB.lt
 obtain⟨rh,rs⟩:=r
 obtain⟨ha,hcap,e1⟩:=hd.heats.cases
 obtain⟨sa,scap,e2⟩:=hd.steps.cases
 dsimp only at e1 e2
 rw [List.length_map] at e1 e2
 subst e1 e2
 obtain⟨ua,ucap,rfl⟩:=hu.cases
 rw [List.length_map] at *
 clear hB hd hO hu hpx hpl
 simp only [x10_0,x10_1,x10_2,x10_3,x10_4,x10_5,x10_7,x10_8,x10_9,x10_10,x10_11,x10_13,x10_18,r10_3,r10_5,r10_10,b10,Try.f10,cL,cR,cB,cT]
 refine wpIn_region_Zn (Nx w) 5 (by kernel_rfl) ?_
 obtain⟨Z,G,hN,hG,hG'⟩:=class_par (C:=Nx w) (x:=w) (Nx.refl _)
 have r0:=fun z=>((hG' z).cell (p:=⟨p1,0,none⟩) hBl).trans c0
 have r1:=fun z=>((hG' z).cell (p:=⟨p1,1,none⟩) hBl).trans c1
 have r2:=fun z=>((hG' z).cell (p:=⟨p1,2,none⟩) hBl).trans c2
 have r3:=fun z=>((hG' z).cell (p:=⟨p1,3,none⟩) hBl).trans c3
 have r4:=fun z=>((hG' z).cell (p:=⟨p1,4,none⟩) hBl).trans c4
 have r5:=fun z=>((hG' z).cell (p:=⟨p1,5,none⟩) hBl).trans c5
 have r6:=fun z=>((hG' z).cell (p:=⟨p1,6,none⟩) hBl).trans c6
 change Go.wpAnyZ _ _ _ _ _ _ _ _ 8 #[false,false,false,false,false,false,false,false] _ _
 obtain⟨n1,s1⟩:Nx w w.drew∧w.drew.heap.size=w.heap.size:=⟨Nx.drew (Nx.refl w),rfl⟩
 generalize w.drew=V at n1 s1 ⊢
 refine Go.zqE 0 hG (by kernel_rfl) (fun _ _ _ h=>by cases h.1) rfl ?_;intro o ho K hK;simp at ho;subst ho;gi_big_quiet_op;go_big_quiet_on
 refine Go.zqE 1 hG (by kernel_rfl) (fun _ _ _ h=>by cases h.1) rfl ?_;intro o ho K hK;simp at ho;subst ho;gi_big_quiet_op;go_big_quiet_on
 refine Go.zqE 3 hG (by kernel_rfl) (fun _ _ _ h=>by cases h.1) rfl ?_;intro o ho K hK;simp at ho;subst ho;gi_big_quiet_op;go_big_quiet_on
 refine Go.zqE 4 hG (by kernel_rfl) (fun _ _ _ h=>by cases h.1) rfl ?_;intro o ho K hK;simp at ho;subst ho;gi_big_quiet_op;go_big_quiet_on
 clear r0 r1 r2 r3 r4 r5 r6 hG hG' hN c0 c1 c2 c3 c4 c5 c6
 refine Go.zoE 2 (by kernel_rfl) rfl ?_ ?_;rotate_left;intro o ho K hK;simp at ho;subst ho
 gi_wp2_with (first | (gi_at_call 38;refine CallsIn.mono (k38 _ n1) ?_;rintro e w2 ⟨vp,rfl,n2,sp⟩) | gi_in)
 have n12:=n1.trans n2
 refine Go.zoE 5 (by kernel_rfl) rfl ?_ ?_;rotate_left;intro o ho K hK;simp at ho;subst ho
 gi_wp2_with (first | (gi_at_call 41;refine CallsIn.mono (k41 _ n12) ?_;rintro e w3 ⟨va,rfl,n3,sa⟩) | gi_in)
 refine Go.zoE 6 (by kernel_rfl) rfl ?_ ?_;rotate_left;intro o ho K hK;simp at ho;subst ho
 gi_wp2_with fail
 refine Go.zoE 7 (by kernel_rfl) rfl ?_ ?_;rotate_left;intro o ho K hK;simp at ho;subst ho
 gi_wp2_with fail
 refine wpAnyZ_done (by kernel_rfl) (fun h=>absurd h (by decide)) ⟨rfl,?_⟩
 ·exact⟨trivial,rfl,vp,va,⟨rfl,rfl,rfl,rfl⟩,n12.trans n3,sp.nx n3,sa⟩
 all_goals (intro _;first | exact n1 | exact n12 | exact n12.trans n3 | contradiction)
def Qf10_4 (w:World) (p1:Nat) (vp va:Value) (sp:List Int×Int×Bool×Int) (t:Array Value) (w' : World):Prop:=∃ v7,(t.size=112∧t[2]?=some (ptr p1)∧t[5]?=some (vp)∧t[6]?=some (va)∧t[7]?=some (v7)∧t[8]?=some (num sp.2.1)∧t[9]?=some (.bool sp.2.2.1)∧t[10]?=some (num sp.2.2.2))∧Nx w w'∧Sl w' v7 1 (sp.1.map one)
theorem f10_4 (d:Dry) (r:R2) (p1:Nat) (vp va:Value) (plan:List Int) (sp:List Int×Int×Bool×Int) (t:Array Value) (hs:t.size=112) (h2:t[2]?=some (ptr p1)) (h5:t[5]?=some (vp)) (h6:t[6]?=some (va)) (w:World) (hB:DBox w p1 d r) (hd:DrySl w d r) (hp:Sl w vp 1 (plan.map one)) (hl:plan.length≤1000000000) (hsp:spoilF d plan=sp) :
  x10_4.wpIn FW 0 Try.prog (fun e a w'=>e=.normal∧a.defers=[]∧Qf10_4 w p1 vp va sp a.tmps w') ⟨t,[]⟩ w:=by
 obtain⟨f,rfl⟩:=ex112_10 hs
 have g2:f 2=ptr p1:=by simpa using h2
 have g5:f 5=vp:=by simpa using h5
 have g6:f 6=va:=by simpa using h6
 rw [g2,g5,g6] at *
 clear hs h2 h5 h6 g2 g5 g6
 have k26:=spoil26_any d r vp plan w hd hp hl
 rw [hsp] at k26
 clear hsp
 have c0:w.cell? ⟨p1,0,none⟩=some (r.h):=hB.at' 0 _ rfl
 have c1:w.cell? ⟨p1,1,none⟩=some (num d.soak):=hB.at' 1 _ rfl
 have c2:w.cell? ⟨p1,2,none⟩=some (num d.brittle):=hB.at' 2 _ rfl
 have c3:w.cell? ⟨p1,3,none⟩=some (num d.start.w):=hB.at' 3 _ rfl
 have c4:w.cell? ⟨p1,4,none⟩=some (num d.start.c):=hB.at' 4 _ rfl
 have c5:w.cell? ⟨p1,5,none⟩=some (num d.start.h):=hB.at' 5 _ rfl
 have c6:w.cell? ⟨p1,6,none⟩=some (r.s):=hB.at' 6 _ rfl
 obtain⟨rh,rs⟩:=r
 obtain⟨ha,hcap,e1⟩:=hd.heats.cases
 obtain⟨sa,scap,e2⟩:=hd.steps.cases
 dsimp only at e1 e2
 rw [List.length_map] at e1 e2
 subst e1 e2
 obtain⟨pa,pcap,e3⟩:=hp.cases
 rw [List.length_map] at e3
 subst e3
 try dsimp only at *
 clear hB hd hp
 simp only [x10_0,x10_1,x10_2,x10_3,x10_4,x10_5,x10_7,x10_8,x10_9,x10_10,x10_11,x10_13,x10_18,r10_3,r10_5,r10_10,b10,Try.f10,cL,cR,cB,cT]
 gi_wp2_with (first | (gi_at_call 26;refine CallsIn.mono k26 ?_;rintro e w1 ⟨v7,rfl,n1,hrow⟩) | gi_in)
 exact⟨v7,⟨rfl,rfl,rfl,rfl,rfl,rfl,rfl,rfl⟩,n1,hrow⟩
theorem f10_5 (p1:Nat) (vp:Value) (va:Value) (v7:Value) (v8:Value) (b:Bool) (t:Array Value) (hs:t.size=112) (h2:t[2]?=some (ptr p1)) (h5:t[5]?=some (vp)) (h6:t[6]?=some (va)) (h7:t[7]?=some (v7)) (h8:t[8]?=some (v8)) (h9:t[9]?=some (.bool b)) (h10:t[10]?=some (num 0)) (w:World)  :
  x10_5.wpIn FW 0 Try.prog (fun e a w'=>e=.normal∧a.defers=[]∧(a.tmps.size=112∧a.tmps[2]?=some (ptr p1)∧a.tmps[5]?=some (vp)∧a.tmps[6]?=some (va)∧a.tmps[7]?=some (v7)∧a.tmps[8]?=some (v8)∧a.tmps[9]?=some (.bool b))∧w'=w) ⟨t,[]⟩ w:=by
 obtain⟨f,rfl⟩:=ex112_10 hs
 have g2:f 2=ptr p1:=by simpa using h2
 have g5:f 5=vp:=by simpa using h5
 have g6:f 6=va:=by simpa using h6
 have g7:f 7=v7:=by simpa using h7
 have g8:f 8=v8:=by simpa using h8
 have g9:f 9=.bool b:=by simpa using h9
 have g10:f 10=num 0:=by simpa using h10
 rw [g2,g5,g6,g7,g8,g9,g10] at *
 clear hs h2 h5 h6 h7 h8 h9 h10 g2 g5 g6 g7 g8 g9 g10
 simp only [x10_0,x10_1,x10_2,x10_3,x10_4,x10_5,x10_7,x10_8,x10_9,x10_10,x10_11,x10_13,x10_18,r10_3,r10_5,r10_10,b10,Try.f10,cL,cR,cB,cT]
 gi_wp2
def Qf10_7 (w:World) (p1:Nat) (vp:Value) (va:Value) (v7:Value) (v8:Value) (b:Bool) (k:Int) (t:Array Value) (w' : World):Prop:=(t.size=112∧t[2]?=some (ptr p1)∧t[5]?=some (vp)∧t[6]?=some (va)∧t[7]?=some (v7)∧t[8]?=some (v8)∧t[9]?=some (.bool b)∧t[11]?=some (num k))∧Nx w w'
theorem f10_7 (d:Dry) (r:R2) (p1:Nat) (vp:Value) (va:Value) (v7:Value) (v8:Value) (b:Bool) (plan air:List Int) (k:Int) (t:Array Value) (hs:t.size=112) (h2:t[2]?=some (ptr p1)) (h5:t[5]?=some (vp)) (h6:t[6]?=some (va)) (h7:t[7]?=some (v7)) (h8:t[8]?=some (v8)) (h9:t[9]?=some (.bool b)) (w:World) (hB:DBox w p1 d r) (hd:DrySl w d r) (hp:Sl w vp 1 (plan.map one)) (ha:Sl w va 1 (air.map one)) (hO:d.Ok) (hP:PA d plan air) (hpl:plan.length=d.steps.length) (hl:plan.length≤1000000000) (hk:brk d (followS d d.start plan air)=k) :
  x10_7.wpIn FW 0 Try.prog (fun e a w'=>e=.normal∧a.defers=[]∧Qf10_7 w p1 vp va v7 v8 b k a.tmps w') ⟨t,[]⟩ w:=by
 obtain⟨f,rfl⟩:=ex112_10 hs
 have g2:f 2=ptr p1:=by simpa using h2
 have g5:f 5=vp:=by simpa using h5
 have g6:f 6=va:=by simpa using h6
 have g7:f 7=v7:=by simpa using h7
 have g8:f 8=v8:=by simpa using h8
 have g9:f 9=.bool b:=by simpa using h9
 rw [g2,g5,g6,g7,g8,g9] at *
 clear hs h2 h5 h6 h7 h8 h9 g2 g5 g6 g7 g8 g9
 have k40:=broken40_any d r vp va plan air w hd hO hP hpl hp ha hl
 rw [hk] at k40
 clear hk hO hP hpl
 have c0:w.cell? ⟨p1,0,none⟩=some (r.h):=hB.at' 0 _ rfl
 have c1:w.cell? ⟨p1,1,none⟩=some (num d.soak):=hB.at' 1 _ rfl
 have c2:w.cell? ⟨p1,2,none⟩=some (num d.brittle):=hB.at' 2 _ rfl
 have c3:w.cell? ⟨p1,3,none⟩=some (num d.start.w):=hB.at' 3 _ rfl
 have c4:w.cell? ⟨p1,4,none⟩=some (num d.start.c):=hB.at' 4 _ rfl
 have c5:w.cell? ⟨p1,5,none⟩=some (num d.start.h):=hB.at' 5 _ rfl
 have c6:w.cell? ⟨p1,6,none⟩=some (r.s):=hB.at' 6 _ rfl
 have hha:=ha
 obtain⟨rh,rs⟩:=r
 obtain⟨hha1,hcap,e1⟩:=hd.heats.cases
 obtain⟨sa,scap,e2⟩:=hd.steps.cases
 dsimp only at e1 e2
 rw [List.length_map] at e1 e2
 subst e1 e2
 obtain⟨pa,pcap,e3⟩:=hp.cases
 obtain⟨aa,acap,e4⟩:=hha.cases
 rw [List.length_map] at e3 e4
 subst e3 e4
 try dsimp only at *
 clear hB hd hp ha hha
 simp only [x10_0,x10_1,x10_2,x10_3,x10_4,x10_5,x10_7,x10_8,x10_9,x10_10,x10_11,x10_13,x10_18,r10_3,r10_5,r10_10,b10,Try.f10,cL,cR,cB,cT]
 gi_wp2_with (first | (gi_at_call 40;refine CallsIn.mono k40 ?_;rintro e w1 ⟨rfl,n1⟩) | gi_in)
 exact⟨⟨rfl,rfl,rfl,rfl,rfl,rfl,rfl,rfl⟩,n1⟩
theorem f10_8 (p1:Nat) (vp:Value) (va:Value) (v7:Value) (v8:Value) (b:Bool) (k:Int) (t:Array Value) (hs:t.size=112) (h2:t[2]?=some (ptr p1)) (h5:t[5]?=some (vp)) (h6:t[6]?=some (va)) (h7:t[7]?=some (v7)) (h8:t[8]?=some (v8)) (h9:t[9]?=some (.bool b)) (h11:t[11]?=some (num k)) (w:World)  :
  x10_8.wpIn FW 0 Try.prog (fun e a w'=>e=.normal∧a.defers=[]∧(a.tmps.size=112∧a.tmps[2]?=some (ptr p1)∧a.tmps[5]?=some (vp)∧a.tmps[6]?=some (va)∧a.tmps[7]?=some (v7)∧a.tmps[8]?=some (v8)∧a.tmps[9]?=some (.bool b)∧a.tmps[11]?=some (num k)∧a.tmps[43]?=some (.bool (!b)))∧w'=w) ⟨t,[]⟩ w:=by
 obtain⟨f,rfl⟩:=ex112_10 hs
 have g2:f 2=ptr p1:=by simpa using h2
 have g5:f 5=vp:=by simpa using h5
 have g6:f 6=va:=by simpa using h6
 have g7:f 7=v7:=by simpa using h7
 have g8:f 8=v8:=by simpa using h8
 have g9:f 9=.bool b:=by simpa using h9
 have g11:f 11=num k:=by simpa using h11
 rw [g2,g5,g6,g7,g8,g9,g11] at *
 clear hs h2 h5 h6 h7 h8 h9 h11 g2 g5 g6 g7 g8 g9 g11
 simp only [x10_0,x10_1,x10_2,x10_3,x10_4,x10_5,x10_7,x10_8,x10_9,x10_10,x10_11,x10_13,x10_18,r10_3,r10_5,r10_10,b10,Try.f10,cL,cR,cB,cT]
 gi_wp2
def Qf10_10 (w:World) (p1:Nat) (vp:Value) (va:Value) (v7:Value) (v8:Value) (k:Int) (L:List St) (t:Array Value) (w' : World):Prop:=∃ vl,(t.size=112∧t[2]?=some (ptr p1)∧t[6]?=some (va)∧t[7]?=some (v7)∧t[8]?=some (v8)∧t[11]?=some (num k)∧t[12]?=some (vl)∧t[10]?=some (num 0))∧Nx w w'∧Sl w' vl 3 (L.map St.cells)
theorem f10_10 (d:Dry) (r:R2) (p1:Nat) (vp:Value) (va:Value) (v7:Value) (v8:Value) (k:Int) (plan air:List Int) (L:List St) (t:Array Value) (hs:t.size=112) (h2:t[2]?=some (ptr p1)) (h5:t[5]?=some (vp)) (h6:t[6]?=some (va)) (h7:t[7]?=some (v7)) (h8:t[8]?=some (v8)) (h11:t[11]?=some (num k)) (w:World) (hB:DBox w p1 d r) (hd:DrySl w d r) (hp:Sl w vp 1 (plan.map one)) (hv:Sl w v7 1 (air.map one)) (hl:plan.length≤1000000000) (hl2:air.length≤1000000000) (hfo:followF d plan air=(L,0)) :
  x10_10.wpIn FW 0 Try.prog (fun e a w'=>e=.normal∧a.defers=[]∧Qf10_10 w p1 vp va v7 v8 k L a.tmps w') ⟨t,[]⟩ w:=by
 obtain⟨f,rfl⟩:=ex112_10 hs
 have g2:f 2=ptr p1:=by simpa using h2
 have g5:f 5=vp:=by simpa using h5
 have g6:f 6=va:=by simpa using h6
 have g7:f 7=v7:=by simpa using h7
 have g8:f 8=v8:=by simpa using h8
 have g11:f 11=num k:=by simpa using h11
 rw [g2,g5,g6,g7,g8,g11] at *
 clear hs h2 h5 h6 h7 h8 h11 g2 g5 g6 g7 g8 g11
 have k44:=follow44_any d r vp v7 plan air w hd hp hv hl hl2
 rw [hfo] at k44
 clear hfo
 have c0:w.cell? ⟨p1,0,none⟩=some (r.h):=hB.at' 0 _ rfl
 have c1:w.cell? ⟨p1,1,none⟩=some (num d.soak):=hB.at' 1 _ rfl
 have c2:w.cell? ⟨p1,2,none⟩=some (num d.brittle):=hB.at' 2 _ rfl
 have c3:w.cell? ⟨p1,3,none⟩=some (num d.start.w):=hB.at' 3 _ rfl
 have c4:w.cell? ⟨p1,4,none⟩=some (num d.start.c):=hB.at' 4 _ rfl
 have c5:w.cell? ⟨p1,5,none⟩=some (num d.start.h):=hB.at' 5 _ rfl
 have c6:w.cell? ⟨p1,6,none⟩=some (r.s):=hB.at' 6 _ rfl
 obtain⟨rh,rs⟩:=r
 obtain⟨ha,hcap,e1⟩:=hd.heats.cases
 obtain⟨sa,scap,e2⟩:=hd.steps.cases
 dsimp only at e1 e2
 rw [List.length_map] at e1 e2
 subst e1 e2
 obtain⟨pa,pcap,e3⟩:=hp.cases
 obtain⟨aa,acap,e4⟩:=hv.cases
 rw [List.length_map] at e3 e4
 subst e3 e4
 try dsimp only at *
 clear hB hd hp hv
 simp only [x10_0,x10_1,x10_2,x10_3,x10_4,x10_5,x10_7,x10_8,x10_9,x10_10,x10_11,x10_13,x10_18,r10_3,r10_5,r10_10,b10,Try.f10,cL,cR,cB,cT]
 gi_wp2_with (first | (gi_at_call 44;refine CallsIn.mono k44 ?_;rintro e w1 ⟨vl,rfl,n1,hrow⟩) | gi_in)
 exact⟨vl,⟨rfl,rfl,rfl,rfl,rfl,rfl,rfl,rfl⟩,n1,stRow_sl hrow⟩
def Qf10_11 (w:World) (p1:Nat) (va:Value) (v7:Value) (vl:Value) (n k:Int) (t:Array Value) (w' : World):Prop:=(t.size=112∧t[2]?=some (ptr p1)∧t[6]?=some (va)∧t[7]?=some (v7)∧t[8]?=some (num n)∧t[11]?=some (num k)∧t[12]?=some (vl))∧Nx w w'
theorem f10_11 (d:Dry) (r:R2) (p1:Nat) (va:Value) (v7:Value) (vl:Value) (n:Nat) (k:Int) (L:List St) (t:Array Value) (hs:t.size=112) (h2:t[2]?=some (ptr p1)) (h6:t[6]?=some (va)) (h7:t[7]?=some (v7)) (h8:t[8]?=some (num n)) (h11:t[11]?=some (num k)) (h12:t[12]?=some (vl)) (h10:t[10]?=some (num 0)) (w:World) (hB:DBox w p1 d r) (hd:DrySl w d r) (hL:Sl w vl 3 (L.map St.cells)) (hlen:L.length=d.steps.length) (hn:n<L.length) :
  x10_11.wpIn FW 0 Try.prog (fun e a w'=>e=.normal∧a.defers=[]∧Qf10_11 w p1 va v7 vl n k a.tmps w') ⟨t,[]⟩ w:=by
 obtain⟨f,rfl⟩:=ex112_10 hs
 have g2:f 2=ptr p1:=by simpa using h2
 have g6:f 6=va:=by simpa using h6
 have g7:f 7=v7:=by simpa using h7
 have g8:f 8=num n:=by simpa using h8
 have g11:f 11=num k:=by simpa using h11
 have g12:f 12=vl:=by simpa using h12
 have g10:f 10=num 0:=by simpa using h10
 rw [g2,g6,g7,g8,g11,g12,g10] at *
 clear hs h2 h6 h7 h8 h11 h12 h10 g2 g6 g7 g8 g11 g12 g10
 have c6:w.cell? ⟨p1,6,none⟩=some (r.s):=hB.at' 6 _ rfl
 obtain⟨rh,rs⟩:=r
 obtain⟨ha,hcap,e1⟩:=hd.heats.cases
 obtain⟨sa,scap,e2⟩:=hd.steps.cases
 dsimp only at e1 e2
 rw [List.length_map] at e1 e2
 subst e1 e2
 obtain⟨la,lcap,e3⟩:=hL.cases
 rw [List.length_map] at e3
 subst e3
 have hsl:=hd.sl
 clear hB hd hL
 rw [hlen] at hn ⊢
 try dsimp only at *
 generalize d.steps.length=m at *
 have d1:decide ((n:Int)<0)=false:=decide_eq_false (by omega)
 have d2:decide ((n:Int)≥(m:Int))=false:=decide_eq_false (by omega)
 simp only [x10_0,x10_1,x10_2,x10_3,x10_4,x10_5,x10_7,x10_8,x10_9,x10_10,x10_11,x10_13,x10_18,r10_3,r10_5,r10_10,b10,Try.f10,cL,cR,cB,cT]
 gi_wp2
 exact⟨⟨rfl,rfl,rfl,rfl,rfl,rfl,rfl⟩,Nx.refl _⟩
def Qf10_13 (w:World) (va:Value) (v7:Value) (k:Int) (t:Array Value) (w' : World):Prop:=(t.size=112∧t[6]?=some (va)∧t[7]?=some (v7)∧t[11]?=some (num k))∧Nx w w'
theorem f10_13 (d:Dry) (r:R2) (p1:Nat) (va:Value) (v7:Value) (vl:Value) (n:Nat) (k:Int) (L:List St) (t:Array Value) (hs:t.size=112) (h2:t[2]?=some (ptr p1)) (h6:t[6]?=some (va)) (h7:t[7]?=some (v7)) (h8:t[8]?=some (num n)) (h11:t[11]?=some (num k)) (h12:t[12]?=some (vl)) (w:World) (hB:DBox w p1 d r) (hd:DrySl w d r) (hL:Sl w vl 3 (L.map St.cells)) (hlen:L.length=d.steps.length) (hn:n<L.length) (hln:L.length≤5) (hkp:∀ (j:Nat) (x:Stp) (s:St),j≤n→d.steps[j]?=some x→L[j]?=some s→keepsB x s=decide (j<n)) :
  x10_13.wpIn FW 0 Try.prog (fun e a w'=>e=.normal∧a.defers=[]∧Qf10_13 w va v7 k a.tmps w') ⟨t,[]⟩ w:=by
 obtain⟨f,rfl⟩:=ex112_10 hs
 have g2:f 2=ptr p1:=by simpa using h2
 have g6:f 6=va:=by simpa using h6
 have g7:f 7=v7:=by simpa using h7
 have g8:f 8=num n:=by simpa using h8
 have g11:f 11=num k:=by simpa using h11
 have g12:f 12=vl:=by simpa using h12
 rw [g2,g6,g7,g8,g11,g12] at *
 clear hs h2 h6 h7 h8 h11 h12 g2 g6 g7 g8 g11 g12
 have k37:=fun (j:Nat) (x:Stp) (hx:d.steps[j]?=some x) (s:St) (w1:World) (n:Nx w w1)=>keeps37_any d r j x s w1 (hd.nx n) hx
 have c0:w.cell? ⟨p1,0,none⟩=some (r.h):=hB.at' 0 _ rfl
 have c1:w.cell? ⟨p1,1,none⟩=some (num d.soak):=hB.at' 1 _ rfl
 have c2:w.cell? ⟨p1,2,none⟩=some (num d.brittle):=hB.at' 2 _ rfl
 have c3:w.cell? ⟨p1,3,none⟩=some (num d.start.w):=hB.at' 3 _ rfl
 have c4:w.cell? ⟨p1,4,none⟩=some (num d.start.c):=hB.at' 4 _ rfl
 have c5:w.cell? ⟨p1,5,none⟩=some (num d.start.h):=hB.at' 5 _ rfl
 have c6:w.cell? ⟨p1,6,none⟩=some (r.s):=hB.at' 6 _ rfl
 have hBl:=hB.lt
 obtain⟨rh,rs⟩:=r
 obtain⟨ha,hcap,e1⟩:=hd.heats.cases
 obtain⟨sa,scap,e2⟩:=hd.steps.cases
 dsimp only at e1 e2
 rw [List.length_map] at e1 e2
 subst e1 e2
 obtain⟨la,lcap,e3⟩:=hL.cases
 rw [List.length_map] at e3
 subst e3
 have HL:=Lib.hid hL
 have HK:=Lib.hid hkp
 have HN:=Lib.hid hlen
 clear hB hd hL hkp hlen
 try dsimp only at *
 simp only [x10_0,x10_1,x10_2,x10_3,x10_4,x10_5,x10_7,x10_8,x10_9,x10_10,x10_11,x10_13,x10_18,r10_3,r10_5,r10_10,b10,Try.f10,cL,cR,cB,cT]
 gi_wp2
 gi_loopw [13] (fun i wr=>∃ j:Nat,j≤n+1∧i=num j∧Nx w wr) (fun i _=>n+1-(intOf i).toNat)
 case atStart=>exact⟨0,Nat.zero_le _,rfl,Nx.refl w⟩
 case round =>
  obtain⟨j,hj,rfl,nr⟩:=hrel
  by_cases hlt:j≤n
  ·obtain⟨b,off,rfl,hbl,hcl⟩:=(HL.out).get (by simp;omega)
   have hjl:j<L.length:=by omega
   have hjs:j<d.steps.length:=by have:=HN.out;omega
   have hh:L[j]?=some L[j]:=List.getElem?_eq_getElem hjl
   have hx:d.steps[j]?=some d.steps[j]:=List.getElem?_eq_getElem hjs
   have hkp:=HK.out j _ _ hlt hx hh
   generalize d.steps[j]=x at hx hkp
   generalize L[j]=s at hh hkp
   have or:=OldC.nx nr
   have e0:wr.cell? ⟨b,off+j * 3,none⟩=some (num s.w):=slAtO hcl or hh 0 (v:=num s.w) rfl
   have e1:wr.cell? ⟨b,off+j * 3+1,none⟩=some (num s.c):=slAtO hcl or hh 1 (v:=num s.c) rfl
   have e2:wr.cell? ⟨b,off+j * 3+2,none⟩=some (num s.h):=slAtO hcl or hh 2 (v:=num s.h) rfl
   have k37:=k37 j x hx s
   rw [hkp] at k37
   have hbw:b<wr.heap.size:=Nat.lt_of_lt_of_le hbl nr.size
   have hbp:p1<wr.heap.size:=Nat.lt_of_lt_of_le hBl nr.size
   clear hcl hh hx hkp hjs
   have c0:=or.at c0
   have c1:=or.at c1
   have c2:=or.at c2
   have c3:=or.at c3
   have c4:=or.at c4
   have c5:=or.at c5
   have c6:=or.at c6
   gi_upto_region 16 with fail
   refine wpIn_region_Zn (Nx wr) 10 (by kernel_rfl) ?_
   obtain⟨Z,G,hN,hG,hG'⟩:=class_par (C:=Nx wr) (x:=wr) (Nx.refl _)
   have r0:=fun z=>((hG' z).cell (p:=⟨p1,0,none⟩) hbp).trans c0
   have r1:=fun z=>((hG' z).cell (p:=⟨p1,1,none⟩) hbp).trans c1
   have r2:=fun z=>((hG' z).cell (p:=⟨p1,2,none⟩) hbp).trans c2
   have r3:=fun z=>((hG' z).cell (p:=⟨p1,3,none⟩) hbp).trans c3
   have r4:=fun z=>((hG' z).cell (p:=⟨p1,4,none⟩) hbp).trans c4
   have r5:=fun z=>((hG' z).cell (p:=⟨p1,5,none⟩) hbp).trans c5
   have r6:=fun z=>((hG' z).cell (p:=⟨p1,6,none⟩) hbp).trans c6
   have y0:=fun z=>((hG' z).cell (p:=⟨b,off+j * 3,none⟩) hbw).trans e0
   have y1:=fun z=>((hG' z).cell (p:=⟨b,off+j * 3+1,none⟩) hbw).trans e1
   have y2:=fun z=>((hG' z).cell (p:=⟨b,off+j * 3+2,none⟩) hbw).trans e2
   change Go.wpAnyZ _ _ _ _ _ _ _ _ 11 #[false,false,false,false,false,false,false,false,false,false,false] _ _
   obtain⟨n1,s1⟩:Nx wr wr.drew∧wr.drew.heap.size=wr.heap.size:=⟨Nx.drew (Nx.refl wr),rfl⟩
   generalize wr.drew=V at n1 s1 ⊢
   refine Go.zqE 0 hG (by kernel_rfl) (fun _ _ _ h=>by cases h.1) rfl ?_;intro o ho K hK;simp at ho;subst ho;gi_big_quiet_op;go_big_quiet_on
   refine Go.zqE 1 hG (by kernel_rfl) (fun _ _ _ h=>by cases h.1) rfl ?_;intro o ho K hK;simp at ho;subst ho;gi_big_quiet_op;go_big_quiet_on
   refine Go.zqE 2 hG (by kernel_rfl) (fun _ _ _ h=>by cases h.1) rfl ?_;intro o ho K hK;simp at ho;subst ho;gi_big_quiet_op;go_big_quiet_on
   refine Go.zqE 3 hG (by kernel_rfl) (fun _ _ _ h=>by cases h.1) rfl ?_;intro o ho K hK;simp at ho;subst ho;gi_big_quiet_op;go_big_quiet_on
   refine Go.zqE 4 hG (by kernel_rfl) (fun _ _ _ h=>by cases h.1) rfl ?_;intro o ho K hK;simp at ho;subst ho;gi_big_quiet_op;go_big_quiet_on
   refine Go.zqE 5 hG (by kernel_rfl) (fun _ _ _ h=>by cases h.1) rfl ?_;intro o ho K hK;simp at ho;subst ho;gi_big_quiet_op;go_big_quiet_on
   refine Go.zqE 7 hG (by kernel_rfl) (fun _ _ _ h=>by cases h.1) rfl ?_;intro o ho K hK;simp at ho;subst ho;gi_big_quiet_op;go_big_quiet_on
   refine Go.zqE 8 hG (by kernel_rfl) (fun _ _ _ h=>by cases h.1) rfl ?_;intro o ho K hK;simp at ho;subst ho;gi_big_quiet_op;go_big_quiet_on
   refine Go.zqE 9 hG (by kernel_rfl) (fun _ _ _ h=>by cases h.1) rfl ?_;intro o ho K hK;simp at ho;subst ho;gi_big_quiet_op;go_big_quiet_on
   have nV:=nr.trans n1
   clear r0 r1 r2 r3 r4 r5 r6 y0 y1 y2 hG hG' hN c0 c1 c2 c3 c4 c5 c6 e0 e1 e2
   have k37:=k37 V nV
   obtain⟨bb,hbb⟩:∃ bb,decide (j<n)=bb:=⟨_,rfl⟩
   have hbi:decide ((j:Int)<(n:Int))=bb:=by rw [← hbb];by_cases h:j<n<;>simp [h]
   rw [hbb] at k37
   try rw [hbi]
   refine Go.zoE 6 (by kernel_rfl) rfl ?_ ?_;rotate_left;intro o ho K hK;simp at ho;subst ho
   gi_wp2_with (first | (gi_at_call 37;refine CallsIn.mono k37 ?_;rintro e w5 ⟨rfl,n5⟩) | gi_in)
   refine Go.zoE 10 (by kernel_rfl) rfl ?_ ?_;rotate_left;intro o ho K hK;simp at ho;subst ho
   have hne:(bb != bb)=false:=by cases bb<;>rfl
   gi_wp2_with fail
   refine wpAnyZ_done (by kernel_rfl) (fun h=>absurd h (by decide)) ⟨rfl,?_⟩
   ·gi_wp2
    exact⟨⟨j+1,by omega,by simp,nV.trans n5⟩,by simp [intOf];omega⟩
   all_goals (first | exact fun _=>n1 | exact fun _=>n1.trans n5 | exact fun h=>absurd h (by decide))
  ·obtain rfl:j=n+1:=by omega
   have d1:decide (((n+1:Nat):Int)≤(n:Int))=false:=decide_eq_false (by omega)
   gi_wp2
   exact⟨⟨rfl,rfl,rfl,rfl⟩,nr⟩
end Go.Proofs.Ytedomogjmhommaa
namespace Go.Con
open Go.RowKit Go.Conc
section
variable [Lone]
variable {P:Program} {maps:Bool} {E Fz Arg:Nat→Prop} {W0:World} {f:FuncId} {t:Array Value} {k:List Item} {cs:List Frame} {W:World}
variable {Q:(Nat→Prop)→(Nat→Prop)→Goroutine→World→Prop} {φ:Ph} {pend:List Nat}
theorem Gm.pass {ops:Array Oper} {i:Nat} {rest:List Nat} {o:Oper} (ho:ops[i]?=some o) (hw:Region.wanted o (yielded ops t)=false) (hop:okOp P maps o.op=true) (hv:okVal P (Fr f t []).eval o.op=true)
  (hg:GoM P maps E Fz Arg W0 Q φ pend (Fr f (putD t o.dst undef) (.inRegion ops rest :: k)) cs W):GoM P maps E Fz Arg W0 Q φ pend (Fr f t (.inRegion ops (i :: rest) :: k)) cs W:=by
 have he:(Fr f t (.inRegion ops (i :: rest) :: k)).eval=(Fr f t []).eval:=funext fun x=>by cases x<;>rfl
 refine GoM.step (srh_op rfl rfl ho hop (by rw [he];exact hv)) ⟨fun it t' e=>?_,.inl rfl,fun d hdm=>(List.not_mem_nil hdm).elim,.inl rfl⟩ fun τ hτ=>?_
 ·cases e
  simp only [okItem1,ho,Option.all_some]
  exact hop
 ·refine⟨(Fr f t (.inRegion ops (i :: rest) :: k)).finish undef,cs,{ W with tape:=τ },?_,id,?_⟩
  ·unfold frameSem
   dsimp only
   unfold runSem
   dsimp only
   rw [ho]
   simp only [Option.map_some,Option.getD_some,hw]
   rfl
  ·rw [Fr_finish ho]
   exact Gm.tape hg
end
end Go.Con
namespace Go.Proofs.Ytedomogjmhommaa
open Go.RowKit Go.Con Go.Conc
local instance dryI98:Lone:=dryL
theorem wanted_not {ops:Array Oper} {o:Oper} {i d:Nat} {b:Bool} {t:Array Value} (hg:o.guard=some (i,b)) (hd:(ops[i]?).bind (·.dst)=some d) (hv:t[d]?=some (.bool (!b))):Region.wanted o (yielded ops t)=false:=by
 unfold Region.wanted yielded
 cases b<;>simp_all
section
variable {dst:Option Nat} {ty:TypeId} {pos:String} {af:Array Edge} {gd:Option (Nat×Bool)} {x y:Nat}
end
end Go.Proofs.Ytedomogjmhommaa
