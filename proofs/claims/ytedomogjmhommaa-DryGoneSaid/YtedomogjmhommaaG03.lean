import Derived.Test.YtedomogjmhommaaG02
set_option linter.all false
set_option maxRecDepth 100000
set_option maxHeartbeats 8000000
namespace Go.Proofs.Ytedomogjmhommaa
open Go.RowKit Go.Con Go.Conc
noncomputable def b11:Code:=match Try.f11.body with | some c=>c | none=>.skip
noncomputable def x11_0:Code:=cL b11
noncomputable def x11_1:Code:=cL (cL (cR b11))
noncomputable def x11_2:Code:=cL (cT (cR (cL (cR b11))))
noncomputable def r11_3:Code:=cR (cR b11)
noncomputable def x11_3:Code:=cL r11_3
noncomputable def x11_4:Code:=cL (cR r11_3)
noncomputable def x11_5:Code:=cL (cR (cR r11_3))
noncomputable def r11_6:Code:=cR (cR (cR r11_3))
noncomputable def x11_6:Code:=cL r11_6
noncomputable def x11_8:Code:=cL (cR r11_6)
noncomputable def r11_9:Code:=cR (cR r11_6)
noncomputable def x11_9:Code:=cL r11_9
noncomputable def x11_15:Code:=cL (cR r11_9)
noncomputable def x11_16:Code:=cL (cR (cR r11_9))
noncomputable def r11_18:Code:=cR (cR (cR r11_9))
noncomputable def x11_18:Code:=cL r11_18
noncomputable def x11_19:Code:=cL (cR r11_18)
noncomputable def x11_23:Code:=cL (cR (cR r11_18))
noncomputable def r11_24:Code:=cR (cR (cR r11_18))
noncomputable def x11_24:Code:=cL r11_24
noncomputable def x11_26:Code:=cL (cR r11_24)
noncomputable def x11_31:Code:=cL (cR (cR r11_24))
theorem b11_eq:b11=.seq x11_0 (.seq (.seq x11_1 (.cond (.tmp 28) (.seq x11_2 .ret) .skip)) (.seq x11_3 (.seq x11_4 (.seq x11_5 (.seq x11_6 (.seq x11_8 (.seq x11_9 (.seq x11_15 (.seq x11_16 (.seq x11_18 (.seq x11_19 (.seq x11_23 (.seq x11_24 (.seq x11_26 (.seq x11_31 .ret))))))))))))))):=by kernel_rfl
theorem ex215 {t:Array Value} (h:t.size=215):∃ f:Nat→Value,t=#[f 0,f 1,f 2,f 3,f 4,f 5,f 6,f 7,f 8,f 9,f 10,f 11,f 12,f 13,f 14,f 15,f 16,f 17,f 18,f 19,f 20,f 21,f 22,f 23,f 24,f 25,f 26,f 27,f 28,f 29,f 30,f 31,f 32,f 33,f 34,f 35,f 36,f 37,f 38,f 39,f 40,f 41,f 42,f 43,f 44,f 45,f 46,f 47,f 48,f 49,f 50,f 51,f 52,f 53,f 54,f 55,f 56,f 57,f 58,f 59,f 60,f 61,f 62,f 63,f 64,f 65,f 66,f 67,f 68,f 69,f 70,f 71,f 72,f 73,f 74,f 75,f 76,f 77,f 78,f 79,f 80,f 81,f 82,f 83,f 84,f 85,f 86,f 87,f 88,f 89,f 90,f 91,f 92,f 93,f 94,f 95,f 96,f 97,f 98,f 99,f 100,f 101,f 102,f 103,f 104,f 105,f 106,f 107,f 108,f 109,f 110,f 111,f 112,f 113,f 114,f 115,f 116,f 117,f 118,f 119,f 120,f 121,f 122,f 123,f 124,f 125,f 126,f 127,f 128,f 129,f 130,f 131,f 132,f 133,f 134,f 135,f 136,f 137,f 138,f 139,f 140,f 141,f 142,f 143,f 144,f 145,f 146,f 147,f 148,f 149,f 150,f 151,f 152,f 153,f 154,f 155,f 156,f 157,f 158,f 159,f 160,f 161,f 162,f 163,f 164,f 165,f 166,f 167,f 168,f 169,f 170,f 171,f 172,f 173,f 174,f 175,f 176,f 177,f 178,f 179,f 180,f 181,f 182,f 183,f 184,f 185,f 186,f 187,f 188,f 189,f 190,f 191,f 192,f 193,f 194,f 195,f 196,f 197,f 198,f 199,f 200,f 201,f 202,f 203,f 204,f 205,f 206,f 207,f 208,f 209,f 210,f 211,f 212,f 213,f 214]:=by
 obtain⟨f,rfl⟩:=exN 215 h
 exact⟨f,by kernel_rfl⟩
def out11 (d:Dry):Bool:=greatD d || decide (dryF d≠0)
structure PlA (w:World) (d:Dry) (r:R2) (p1:Nat) (vp va:Value) (plan air:List Int):Prop where
 B:DBox w p1 d r
 S:DrySl w d r
 p:Sl w vp 1 (plan.map one)
 a:Sl w va 1 (air.map one)
theorem PlA.nx {w w' : World} {d:Dry} {r:R2} {p1:Nat} {vp va:Value} {plan air:List Int} (h:PlA w d r p1 vp va plan air) (n:Nx w w'):PlA w' d r p1 vp va plan air:=⟨h.B.nx n,h.S.nx n,h.p.nx n,h.a.nx n⟩
theorem PlA.oc {w w' : World} {d:Dry} {r:R2} {p1:Nat} {vp va:Value} {plan air:List Int} (h:PlA w d r p1 vp va plan air) (o:OldC w w'):PlA w' d r p1 vp va plan air:=⟨h.B.oc o,h.S.oc o,h.p.oc o,h.a.oc o⟩
theorem OldC.set {w w' : World} (h:OldC w w') {b i:Nat} {v:Value} (hb:w.heap.size≤b):OldC w (w'.setCell ⟨b,i,none⟩ v) :=
 ⟨by rw [set_size];exact h.size,fun a ha=>by
  rw [← h.cell a ha]
  exact World.cell?_of_block (set_other (by omega))⟩
theorem f11_0 (d:Dry) (ha sa:Option Addr) (hn hcap sn scap:Nat) (u:Value) (by1:Int) (t:Array Value) (hs:t.size=215) (h0:t[0]?=some (d.val ⟨.slice ha hn hcap,.slice sa sn scap⟩)) (h1:t[1]?=some (u)) (h2:t[2]?=some (.int .u8 by1)) (w:World)  :
  x11_0.wpIn FW 0 Try.prog (fun e a w'=>e=.normal∧a.defers=[]∧(a.tmps.size=215∧a.tmps[1]?=some (u)∧a.tmps[2]?=some (.int .u8 by1)∧a.tmps[3]?=some (ptr w.heap.size))∧w'=w.alloc (.cells (d.cellsA ⟨.slice ha hn hcap,.slice sa sn scap⟩) 27)) ⟨t,[]⟩ w:=by
 obtain⟨f,rfl⟩:=ex215 hs
 have g0:f 0=d.val ⟨.slice ha hn hcap,.slice sa sn scap⟩:=by simpa using h0
 have g1:f 1=u:=by simpa using h1
 have g2:f 2=.int .u8 by1:=by simpa using h2
 rw [g0,g1,g2] at *
 clear hs h0 h1 h2 g0 g1 g2
 simp only [x11_0,x11_1,x11_2,x11_3,x11_4,x11_5,x11_6,x11_8,x11_9,x11_15,x11_16,x11_18,x11_19,x11_23,x11_24,x11_26,x11_31,r11_3,r11_6,r11_9,r11_18,r11_24,b11,Try.f11,cL,cR,cB,cT]
 gi_wp2
def Q11a (w:World) (p1:Nat) (u:Value) (by1:Int) (b:Bool) (t:Array Value) (w' : World):Prop:=(t.size=215∧t[1]?=some (u)∧t[2]?=some (.int .u8 by1)∧t[3]?=some (ptr p1)∧t[28]?=some (.bool b))∧Nx w w'
theorem f11_1 (d:Dry) (r:R2) (p1:Nat) (u:Value) (by1:Int) (t:Array Value) (hs:t.size=215) (h1:t[1]?=some (u)) (h2:t[2]?=some (.int .u8 by1)) (h3:t[3]?=some (ptr p1)) (w:World) (hB:DBox w p1 d r) (hh:Sl w r.h 2 (d.heats.map two)) (hst:Sl w r.s 6 (d.steps.map Stp.cells)) (hl:d.heats.length≤140737488355328) (sl:d.steps.length≤140737488355328) :
  x11_1.wpIn FW 0 Try.prog (fun e a w'=>e=.normal∧a.defers=[]∧Q11a w p1 u by1 (out11 d) a.tmps w') ⟨t,[]⟩ w:=by
 obtain⟨f,rfl⟩:=ex215 hs
 have g1:f 1=u:=by simpa using h1
 have g2:f 2=.int .u8 by1:=by simpa using h2
 have g3:f 3=ptr p1:=by simpa using h3
 rw [g1,g2,g3] at *
 clear hs h1 h2 h3 g1 g2 g3
 have k16:=great16_big d r w hh hst hl sl
 have c0:w.cell? ⟨p1,0,none⟩=some (r.h):=hB.at' 0 _ rfl
 have c1:w.cell? ⟨p1,1,none⟩=some (num d.soak):=hB.at' 1 _ rfl
 have c2:w.cell? ⟨p1,2,none⟩=some (num d.brittle):=hB.at' 2 _ rfl
 have c3:w.cell? ⟨p1,3,none⟩=some (num d.start.w):=hB.at' 3 _ rfl
 have c4:w.cell? ⟨p1,4,none⟩=some (num d.start.c):=hB.at' 4 _ rfl
 have c5:w.cell? ⟨p1,5,none⟩=some (num d.start.h):=hB.at' 5 _ rfl
 have c6:w.cell? ⟨p1,6,none⟩=some (r.s):=hB.at' 6 _ rfl
 by_cases hg:greatD d=true
 ·have ho:out11 d=true:=by simp [out11,hg]
  rw [hg] at k16
  rw [ho]
  clear hB hh hst hl sl hg ho
  simp only [x11_0,x11_1,x11_2,x11_3,x11_4,x11_5,x11_6,x11_8,x11_9,x11_15,x11_16,x11_18,x11_19,x11_23,x11_24,x11_26,x11_31,r11_3,r11_6,r11_9,r11_18,r11_24,b11,Try.f11,cL,cR,cB,cT]
  gi_wp2_with (first | (gi_at_call 16;refine CallsIn.mono k16 ?_;rintro e w1 ⟨rfl,n1⟩) | gi_in)
  exact⟨⟨rfl,rfl,rfl,rfl,rfl⟩,n1⟩
 ·have hd:DrySl w d r:=⟨hh,hst,by simp [greatD] at hg;omega,by simp [greatD] at hg;omega⟩
  have hgf:greatD d=false:=by simpa using hg
  rw [hgf] at k16
  obtain⟨rh,rs⟩:=r
  obtain⟨ha,hcap,e1⟩:=hd.heats.cases
  obtain⟨sa,scap,e2⟩:=hd.steps.cases
  dsimp only at e1 e2
  rw [List.length_map] at e1 e2
  subst e1 e2
  have kc:=fun (w1:World) (n:Nx w w1)=>(⟨(OldC.nx n).at c0,(OldC.nx n).at c1,(OldC.nx n).at c2,(OldC.nx n).at c3,(OldC.nx n).at c4,(OldC.nx n).at c5,(OldC.nx n).at c6⟩:_∧_∧_∧_∧_∧_∧_)
  dsimp only at kc
  have k33:=fun (w1:World) (n:Nx w w1)=>check33_any d _ w1 (hd.nx n)
  obtain⟨ov,hov⟩:∃ o,out11 d=o:=⟨_,rfl⟩
  rw [hov]
  unfold out11 at hov
  rw [hgf] at hov
  generalize dryF d=f1 at *
  clear hB hh hst hl sl hg hd hgf
  by_cases h1:f1=0
  ·subst h1
   have ho:ov=false:=by rw [← hov];simp
   rw [ho]
   clear hov ho
   simp only [x11_0,x11_1,x11_2,x11_3,x11_4,x11_5,x11_6,x11_8,x11_9,x11_15,x11_16,x11_18,x11_19,x11_23,x11_24,x11_26,x11_31,r11_3,r11_6,r11_9,r11_18,r11_24,b11,Try.f11,cL,cR,cB,cT]
   gi_wp2_with (first | (gi_at_call 16;refine CallsIn.mono k16 ?_;rintro e w1 ⟨rfl,n1⟩;clear c0 c1 c2 c3 c4 c5 c6;obtain⟨c0,c1,c2,c3,c4,c5,c6⟩:=kc _ n1) | (gi_at_call 33;refine CallsIn.mono (k33 _ n1) ?_;rintro e w2 ⟨rfl,n2'⟩;have n2:=n1.trans n2') | gi_in)
   exact⟨⟨rfl,rfl,rfl,rfl,rfl⟩,n2⟩
  ·have ho:ov=true:=by rw [← hov];simp [h1]
   rw [ho]
   have b1:(f1 != 0)=true:=by simpa using h1
   clear hov ho h1
   simp only [x11_0,x11_1,x11_2,x11_3,x11_4,x11_5,x11_6,x11_8,x11_9,x11_15,x11_16,x11_18,x11_19,x11_23,x11_24,x11_26,x11_31,r11_3,r11_6,r11_9,r11_18,r11_24,b11,Try.f11,cL,cR,cB,cT]
   gi_wp2_with (first | (gi_at_call 16;refine CallsIn.mono k16 ?_;rintro e w1 ⟨rfl,n1⟩;clear c0 c1 c2 c3 c4 c5 c6;obtain⟨c0,c1,c2,c3,c4,c5,c6⟩:=kc _ n1) | (gi_at_call 33;refine CallsIn.mono (k33 _ n1) ?_;rintro e w2 ⟨rfl,n2'⟩;have n2:=n1.trans n2') | gi_in)
   exact⟨⟨rfl,rfl,rfl,rfl,rfl⟩,n2⟩
def Q11_3 (w:World) (p1:Nat) (by1:Int) (plan air:List Int) (t:Array Value) (w' : World):Prop:=∃ vp va,(t.size=215∧t[2]?=some (.int .u8 by1)∧t[3]?=some (ptr p1)∧t[7]?=some (vp)∧t[8]?=some (va))∧Nx w w'∧Sl w' vp 1 (plan.map one)∧Sl w' va 1 (air.map one)
theorem f11_3 (d:Dry) (r:R2) (p1:Nat) (u:Value) (by1:Int) (t:Array Value) (hs:t.size=215) (h1:t[1]?=some (u)) (h2:t[2]?=some (.int .u8 by1)) (h3:t[3]?=some (ptr p1)) (w:World) (hB:DBox w p1 d r) (hd:DrySl w d r) (hO:d.Ok) (picks:List Int) (hu:Sl w u 1 (picks.map fun x=>[u16 x])) (hpx:∀ x∈picks,0≤x∧x≤65535) (hpl:picks.length≤140737488355328) :
  x11_3.wpIn FW 0 Try.prog (fun e a w'=>e=.normal∧a.defers=[]∧Q11_3 w p1 by1 (planP d picks) (airP d picks) a.tmps w') ⟨t,[]⟩ w:=by
 obtain⟨f,rfl⟩:=ex215 hs
 have g1:f 1=u:=by simpa using h1
 have g2:f 2=.int .u8 by1:=by simpa using h2
 have g3:f 3=ptr p1:=by simpa using h3
 rw [g1,g2,g3] at *
 clear hs h1 h2 h3 g1 g2 g3
 have k38:=fun (w1:World) (n:Nx w w1)=>plan38_any d r u picks w1 (hd.nx n) hO (hu.nx n) hpx hpl
 have k41:=fun (w1:World) (n:Nx w w1)=>air41_any d r u picks w1 (hd.nx n) hO (hu.nx n) hpx hpl
 have c0:w.cell? ⟨p1,0,none⟩=some (r.h):=hB.at' 0 _ rfl
 have c1:w.cell? ⟨p1,1,none⟩=some (num d.soak):=hB.at' 1 _ rfl
 have c2:w.cell? ⟨p1,2,none⟩=some (num d.brittle):=hB.at' 2 _ rfl
 have c3:w.cell? ⟨p1,3,none⟩=some (num d.start.w):=hB.at' 3 _ rfl
 have c4:w.cell? ⟨p1,4,none⟩=some (num d.start.c):=hB.at' 4 _ rfl
 have c5:w.cell? ⟨p1,5,none⟩=some (num d.start.h):=hB.at' 5 _ rfl
 have c6:w.cell? ⟨p1,6,none⟩=some (r.s):=hB.at' 6 _ rfl
 have hBl:=hB.lt
 obtain⟨rh,rs⟩:=r
 obtain⟨ha,hcap,e1⟩:=hd.heats.cases
 obtain⟨sa,scap,e2⟩:=hd.steps.cases
 dsimp only at e1 e2
 rw [List.length_map] at e1 e2
 subst e1 e2
 obtain⟨ua,ucap,rfl⟩:=hu.cases
 rw [List.length_map] at *
 clear hB hd hO hu hpx hpl
 simp only [x11_0,x11_1,x11_2,x11_3,x11_4,x11_5,x11_6,x11_8,x11_9,x11_15,x11_16,x11_18,x11_19,x11_23,x11_24,x11_26,x11_31,r11_3,r11_6,r11_9,r11_18,r11_24,b11,Try.f11,cL,cR,cB,cT]
 refine wpIn_region_Zn (Nx w) 5 (by kernel_rfl) ?_
 obtain⟨Z,G,hN,hG,hG'⟩:=class_par (C:=Nx w) (x:=w) (Nx.refl _)
 have r0:=fun z=>((hG' z).cell (p:=⟨p1,0,none⟩) hBl).trans c0
 have r1:=fun z=>((hG' z).cell (p:=⟨p1,1,none⟩) hBl).trans c1
 have r2:=fun z=>((hG' z).cell (p:=⟨p1,2,none⟩) hBl).trans c2
 have r3:=fun z=>((hG' z).cell (p:=⟨p1,3,none⟩) hBl).trans c3
 have r4:=fun z=>((hG' z).cell (p:=⟨p1,4,none⟩) hBl).trans c4
 have r5:=fun z=>((hG' z).cell (p:=⟨p1,5,none⟩) hBl).trans c5
 have r6:=fun z=>((hG' z).cell (p:=⟨p1,6,none⟩) hBl).trans c6
 change Go.wpAnyZ _ _ _ _ _ _ _ _ 8 #[false,false,false,false,false,false,false,false] _ _
 obtain⟨n1,s1⟩:Nx w w.drew∧w.drew.heap.size=w.heap.size:=⟨Nx.drew (Nx.refl w),rfl⟩
 generalize w.drew=V at n1 s1 ⊢
 refine Go.zqE 0 hG (by kernel_rfl) (fun _ _ _ h=>by cases h.1) rfl ?_;intro o ho K hK;simp at ho;subst ho;gi_big_quiet_op;go_big_quiet_on
 refine Go.zqE 1 hG (by kernel_rfl) (fun _ _ _ h=>by cases h.1) rfl ?_;intro o ho K hK;simp at ho;subst ho;gi_big_quiet_op;go_big_quiet_on
 refine Go.zqE 3 hG (by kernel_rfl) (fun _ _ _ h=>by cases h.1) rfl ?_;intro o ho K hK;simp at ho;subst ho;gi_big_quiet_op;go_big_quiet_on
 refine Go.zqE 4 hG (by kernel_rfl) (fun _ _ _ h=>by cases h.1) rfl ?_;intro o ho K hK;simp at ho;subst ho;gi_big_quiet_op;go_big_quiet_on
 clear r0 r1 r2 r3 r4 r5 r6 hG hG' hN c0 c1 c2 c3 c4 c5 c6
 refine Go.zoE 2 (by kernel_rfl) rfl ?_ ?_;rotate_left;intro o ho K hK;simp at ho;subst ho
 gi_wp2_with (first | (gi_at_call 38;refine CallsIn.mono (k38 _ n1) ?_;rintro e w2 ⟨vp,rfl,n2,sp⟩) | gi_in)
 have n12:=n1.trans n2
 refine Go.zoE 5 (by kernel_rfl) rfl ?_ ?_;rotate_left;intro o ho K hK;simp at ho;subst ho
 gi_wp2_with (first | (gi_at_call 41;refine CallsIn.mono (k41 _ n12) ?_;rintro e w3 ⟨va,rfl,n3,sa⟩) | gi_in)
 refine Go.zoE 6 (by kernel_rfl) rfl ?_ ?_;rotate_left;intro o ho K hK;simp at ho;subst ho
 gi_wp2_with fail
 refine Go.zoE 7 (by kernel_rfl) rfl ?_ ?_;rotate_left;intro o ho K hK;simp at ho;subst ho
 gi_wp2_with fail
 refine wpAnyZ_done (by kernel_rfl) (fun h=>absurd h (by decide)) ⟨rfl,?_⟩
 ·exact⟨trivial,rfl,vp,va,⟨rfl,rfl,rfl,rfl,rfl⟩,n12.trans n3,sp.nx n3,sa⟩
 all_goals (intro _;first | exact n1 | exact n12 | exact n12.trans n3 | contradiction)
def Q11_4 (w:World) (p1:Nat) (vp va:Value) (by1:Int) (st:(Int×Int)×(Int×Int)×Int) (t:Array Value) (w' : World):Prop:=∃ ps pb,(t.size=215∧t[2]?=some (.int .u8 by1)∧t[3]?=some (ptr p1)∧t[7]?=some (vp)∧t[8]?=some (va)∧t[9]?=some (ptr ps)∧t[10]?=some (ptr pb)∧t[11]?=some (num st.2.2))∧Nx w w'∧w'.cell? ⟨ps,0,none⟩=some (num st.1.1)∧w'.cell? ⟨ps,1,none⟩=some (num st.1.2)∧w'.cell? ⟨pb,0,none⟩=some (num st.2.1.1)∧w'.cell? ⟨pb,1,none⟩=some (num st.2.1.2)
theorem f11_4 (d:Dry) (r:R2) (p1:Nat) (vp va:Value) (plan air:List Int) (by1:Int) (st:(Int×Int)×(Int×Int)×Int) (t:Array Value) (hs:t.size=215) (h2:t[2]?=some (.int .u8 by1)) (h3:t[3]?=some (ptr p1)) (h7:t[7]?=some (vp)) (h8:t[8]?=some (va)) (w:World) (hF:PlA w d r p1 vp va plan air) (hl:plan.length≤1000000000) (hst:steamF d plan=st) :
  x11_4.wpIn FW 0 Try.prog (fun e a w'=>e=.normal∧a.defers=[]∧Q11_4 w p1 vp va by1 st a.tmps w') ⟨t,[]⟩ w:=by
 obtain⟨f,rfl⟩:=ex215 hs
 have g2:f 2=.int .u8 by1:=by simpa using h2
 have g3:f 3=ptr p1:=by simpa using h3
 have g7:f 7=vp:=by simpa using h7
 have g8:f 8=va:=by simpa using h8
 rw [g2,g3,g7,g8] at *
 clear hs h2 h3 h7 h8 g2 g3 g7 g8
 have k28:=steam28_any d r vp plan w hF.S hF.p hl
 rw [hst] at k28
 clear hst
 have hB:=hF.B
 have hd:=hF.S
 have c0:w.cell? ⟨p1,0,none⟩=some (r.h):=hB.at' 0 _ rfl
 have c1:w.cell? ⟨p1,1,none⟩=some (num d.soak):=hB.at' 1 _ rfl
 have c2:w.cell? ⟨p1,2,none⟩=some (num d.brittle):=hB.at' 2 _ rfl
 have c3:w.cell? ⟨p1,3,none⟩=some (num d.start.w):=hB.at' 3 _ rfl
 have c4:w.cell? ⟨p1,4,none⟩=some (num d.start.c):=hB.at' 4 _ rfl
 have c5:w.cell? ⟨p1,5,none⟩=some (num d.start.h):=hB.at' 5 _ rfl
 have c6:w.cell? ⟨p1,6,none⟩=some (r.s):=hB.at' 6 _ rfl
 obtain⟨rh,rs⟩:=r
 obtain⟨ha,hcap,e1⟩:=hd.heats.cases
 obtain⟨sa,scap,e2⟩:=hd.steps.cases
 dsimp only at e1 e2
 rw [List.length_map] at e1 e2
 subst e1 e2
 obtain⟨pa,pcap,e3⟩:=hF.p.cases
 obtain⟨aa,acap,e4⟩:=hF.a.cases
 rw [List.length_map] at e3 e4
 subst e3 e4
 try dsimp only at *
 obtain⟨⟨a0,a1⟩,⟨b0,b1⟩,f0⟩:=st
 try dsimp only at *
 clear hF hB hd
 simp only [x11_0,x11_1,x11_2,x11_3,x11_4,x11_5,x11_6,x11_8,x11_9,x11_15,x11_16,x11_18,x11_19,x11_23,x11_24,x11_26,x11_31,r11_3,r11_6,r11_9,r11_18,r11_24,b11,Try.f11,cL,cR,cB,cT]
 gi_wp2_with (first | (gi_at_call 28;refine CallsIn.mono k28 ?_;rintro e w1 ⟨rfl,n1⟩;have y1:=(al2 (w:=w1) (o1:=.cells #[num 0,num 0] 45 (0,0)) (o2:=.cells #[num 0,num 0] 45 (0,0)) rfl).2.2.1;have y2:=(al2 (w:=w1) (o1:=.cells #[num 0,num 0] 45 (0,0)) (o2:=.cells #[num 0,num 0] 45 (0,0)) rfl).2.2.2;have r0:=row_cell (i:=0) (v:=num 0) y1 rfl;have r1:=row_cell (i:=1) (v:=num 0) y1 rfl;have r2:=row_cell (i:=0) (v:=num 0) y2 rfl;have r3:=row_cell (i:=1) (v:=num 0) y2 rfl;have z0:=row_frozen (i:=0) y1;have z1:=row_frozen (i:=1) y1;have z2:=row_frozen (i:=0) y2;have z3:=row_frozen (i:=1) y2) | gi_in)
 refine⟨_,_,⟨rfl,rfl,rfl,rfl,rfl,rfl,rfl,rfl⟩,alloc_nx (alloc_nx n1 _) _,row_cell (al2 rfl).2.2.1 rfl,row_cell (al2 rfl).2.2.1 rfl,row_cell (al2 rfl).2.2.2 rfl,row_cell (al2 rfl).2.2.2 rfl⟩
def Q11_5 (w:World) (p1 ps pb:Nat) (vp va:Value) (by1:Int) (L:List St) (t:Array Value) (w' : World):Prop:=∃ vl,(t.size=215∧t[2]?=some (.int .u8 by1)∧t[3]?=some (ptr p1)∧t[7]?=some (vp)∧t[8]?=some (va)∧t[9]?=some (ptr ps)∧t[10]?=some (ptr pb)∧t[11]?=some (num 0)∧t[12]?=some (vl)∧t[13]?=some (num 0))∧Nx w w'∧Sl w' vl 3 (L.map St.cells)
theorem f11_5 (d:Dry) (r:R2) (p1 ps pb:Nat) (vp va:Value) (plan air:List Int) (by1:Int) (L:List St) (t:Array Value) (hs:t.size=215) (h2:t[2]?=some (.int .u8 by1)) (h3:t[3]?=some (ptr p1)) (h7:t[7]?=some (vp)) (h8:t[8]?=some (va)) (h9:t[9]?=some (ptr ps)) (h10:t[10]?=some (ptr pb)) (h11:t[11]?=some (num 0)) (w:World) (hF:PlA w d r p1 vp va plan air) (hl:plan.length≤1000000000) (hl2:air.length≤1000000000) (hfo:followF d plan air=(L,0)) :
  x11_5.wpIn FW 0 Try.prog (fun e a w'=>e=.normal∧a.defers=[]∧Q11_5 w p1 ps pb vp va by1 L a.tmps w') ⟨t,[]⟩ w:=by
 obtain⟨f,rfl⟩:=ex215 hs
 have g2:f 2=.int .u8 by1:=by simpa using h2
 have g3:f 3=ptr p1:=by simpa using h3
 have g7:f 7=vp:=by simpa using h7
 have g8:f 8=va:=by simpa using h8
 have g9:f 9=ptr ps:=by simpa using h9
 have g10:f 10=ptr pb:=by simpa using h10
 have g11:f 11=num 0:=by simpa using h11
 rw [g2,g3,g7,g8,g9,g10,g11] at *
 clear hs h2 h3 h7 h8 h9 h10 h11 g2 g3 g7 g8 g9 g10 g11
 have k44:=follow44_any d r vp va plan air w hF.S hF.p hF.a hl hl2
 rw [hfo] at k44
 clear hfo
 have hB:=hF.B
 have hd:=hF.S
 have c0:w.cell? ⟨p1,0,none⟩=some (r.h):=hB.at' 0 _ rfl
 have c1:w.cell? ⟨p1,1,none⟩=some (num d.soak):=hB.at' 1 _ rfl
 have c2:w.cell? ⟨p1,2,none⟩=some (num d.brittle):=hB.at' 2 _ rfl
 have c3:w.cell? ⟨p1,3,none⟩=some (num d.start.w):=hB.at' 3 _ rfl
 have c4:w.cell? ⟨p1,4,none⟩=some (num d.start.c):=hB.at' 4 _ rfl
 have c5:w.cell? ⟨p1,5,none⟩=some (num d.start.h):=hB.at' 5 _ rfl
 have c6:w.cell? ⟨p1,6,none⟩=some (r.s):=hB.at' 6 _ rfl
 obtain⟨rh,rs⟩:=r
 obtain⟨ha,hcap,e1⟩:=hd.heats.cases
 obtain⟨sa,scap,e2⟩:=hd.steps.cases
 dsimp only at e1 e2
 rw [List.length_map] at e1 e2
 subst e1 e2
 obtain⟨pa,pcap,e3⟩:=hF.p.cases
 obtain⟨aa,acap,e4⟩:=hF.a.cases
 rw [List.length_map] at e3 e4
 subst e3 e4
 try dsimp only at *
 clear hF hB hd
 simp only [x11_0,x11_1,x11_2,x11_3,x11_4,x11_5,x11_6,x11_8,x11_9,x11_15,x11_16,x11_18,x11_19,x11_23,x11_24,x11_26,x11_31,r11_3,r11_6,r11_9,r11_18,r11_24,b11,Try.f11,cL,cR,cB,cT]
 gi_wp2_with (first | (gi_at_call 44;refine CallsIn.mono k44 ?_;rintro e w1 ⟨vl,rfl,n1,hrow⟩) | gi_in)
 exact⟨vl,⟨rfl,rfl,rfl,rfl,rfl,rfl,rfl,rfl,rfl,rfl⟩,n1,stRow_sl hrow⟩
def Q11_6 (w:World) (p1 ps pb:Nat) (vp va vl:Value) (by1:Int) (t:Array Value) (w' : World):Prop:=(t.size=215∧t[2]?=some (.int .u8 by1)∧t[3]?=some (ptr p1)∧t[7]?=some (vp)∧t[8]?=some (va)∧t[9]?=some (ptr ps)∧t[10]?=some (ptr pb)∧t[11]?=some (num 0)∧t[12]?=some (vl)∧t[13]?=some (num 0))∧Nx w w'
theorem f11_6 (d:Dry) (r:R2) (p1 ps pb:Nat) (vp va vl:Value) (by1:Int) (L:List St) (t:Array Value) (hs:t.size=215) (h2:t[2]?=some (.int .u8 by1)) (h3:t[3]?=some (ptr p1)) (h7:t[7]?=some (vp)) (h8:t[8]?=some (va)) (h9:t[9]?=some (ptr ps)) (h10:t[10]?=some (ptr pb)) (h11:t[11]?=some (num 0)) (h12:t[12]?=some (vl)) (h13:t[13]?=some (num 0)) (w:World) (hB:DBox w p1 d r) (hd:DrySl w d r) (hL:Sl w vl 3 (L.map St.cells)) (hlen:L.length=d.steps.length) :
  x11_6.wpIn FW 0 Try.prog (fun e a w'=>e=.normal∧a.defers=[]∧Q11_6 w p1 ps pb vp va vl by1 a.tmps w') ⟨t,[]⟩ w:=by
 obtain⟨f,rfl⟩:=ex215 hs
 have g2:f 2=.int .u8 by1:=by simpa using h2
 have g3:f 3=ptr p1:=by simpa using h3
 have g7:f 7=vp:=by simpa using h7
 have g8:f 8=va:=by simpa using h8
 have g9:f 9=ptr ps:=by simpa using h9
 have g10:f 10=ptr pb:=by simpa using h10
 have g11:f 11=num 0:=by simpa using h11
 have g12:f 12=vl:=by simpa using h12
 have g13:f 13=num 0:=by simpa using h13
 rw [g2,g3,g7,g8,g9,g10,g11,g12,g13] at *
 clear hs h2 h3 h7 h8 h9 h10 h11 h12 h13 g2 g3 g7 g8 g9 g10 g11 g12 g13
 have c0:w.cell? ⟨p1,0,none⟩=some (r.h):=hB.at' 0 _ rfl
 have c1:w.cell? ⟨p1,1,none⟩=some (num d.soak):=hB.at' 1 _ rfl
 have c2:w.cell? ⟨p1,2,none⟩=some (num d.brittle):=hB.at' 2 _ rfl
 have c3:w.cell? ⟨p1,3,none⟩=some (num d.start.w):=hB.at' 3 _ rfl
 have c4:w.cell? ⟨p1,4,none⟩=some (num d.start.c):=hB.at' 4 _ rfl
 have c5:w.cell? ⟨p1,5,none⟩=some (num d.start.h):=hB.at' 5 _ rfl
 have c6:w.cell? ⟨p1,6,none⟩=some (r.s):=hB.at' 6 _ rfl
 obtain⟨rh,rs⟩:=r
 obtain⟨ha,hcap,e1⟩:=hd.heats.cases
 obtain⟨sa,scap,e2⟩:=hd.steps.cases
 dsimp only at e1 e2
 rw [List.length_map] at e1 e2
 subst e1 e2
 obtain⟨la,lcap,e3⟩:=hL.cases
 rw [List.length_map] at e3
 subst e3
 have hsl:=hd.sl
 clear hB hd hL
 rw [hlen]
 try dsimp only at *
 generalize d.steps.length=m at *
 simp only [x11_0,x11_1,x11_2,x11_3,x11_4,x11_5,x11_6,x11_8,x11_9,x11_15,x11_16,x11_18,x11_19,x11_23,x11_24,x11_26,x11_31,r11_3,r11_6,r11_9,r11_18,r11_24,b11,Try.f11,cL,cR,cB,cT]
 gi_wp2
 exact⟨⟨rfl,rfl,rfl,rfl,rfl,rfl,rfl,rfl,rfl,rfl⟩,Nx.refl _⟩
def Q11_8 (w:World) (p1 ps pb:Nat) (vp va vl:Value) (by1:Int) (s:St) (t:Array Value) (w' : World):Prop:=(t.size=215∧t[2]?=some (.int .u8 by1)∧t[3]?=some (ptr p1)∧t[7]?=some (vp)∧t[8]?=some (va)∧t[9]?=some (ptr ps)∧t[10]?=some (ptr pb)∧t[11]?=some (num 0)∧t[12]?=some (vl)∧t[13]?=some (num 0)∧t[14]?=some (ptr w.heap.size))∧OldC w w'∧w'.heap[w.heap.size]?=some (.cells s.cells.toArray 24 (0,0))
theorem f11_8 (d:Dry) (r:R2) (p1 ps pb:Nat) (vp va vl:Value) (by1:Int) (t:Array Value) (hs:t.size=215) (h2:t[2]?=some (.int .u8 by1)) (h3:t[3]?=some (ptr p1)) (h7:t[7]?=some (vp)) (h8:t[8]?=some (va)) (h9:t[9]?=some (ptr ps)) (h10:t[10]?=some (ptr pb)) (h11:t[11]?=some (num 0)) (h12:t[12]?=some (vl)) (h13:t[13]?=some (num 0)) (w:World) (hB:DBox w p1 d r) :
  x11_8.wpIn FW 0 Try.prog (fun e a w'=>e=.normal∧a.defers=[]∧Q11_8 w p1 ps pb vp va vl by1 d.start a.tmps w') ⟨t,[]⟩ w:=by
 obtain⟨f,rfl⟩:=ex215 hs
 have g2:f 2=.int .u8 by1:=by simpa using h2
 have g3:f 3=ptr p1:=by simpa using h3
 have g7:f 7=vp:=by simpa using h7
 have g8:f 8=va:=by simpa using h8
 have g9:f 9=ptr ps:=by simpa using h9
 have g10:f 10=ptr pb:=by simpa using h10
 have g11:f 11=num 0:=by simpa using h11
 have g12:f 12=vl:=by simpa using h12
 have g13:f 13=num 0:=by simpa using h13
 rw [g2,g3,g7,g8,g9,g10,g11,g12,g13] at *
 clear hs h2 h3 h7 h8 h9 h10 h11 h12 h13 g2 g3 g7 g8 g9 g10 g11 g12 g13
 have c0:w.cell? ⟨p1,0,none⟩=some (r.h):=hB.at' 0 _ rfl
 have c1:w.cell? ⟨p1,1,none⟩=some (num d.soak):=hB.at' 1 _ rfl
 have c2:w.cell? ⟨p1,2,none⟩=some (num d.brittle):=hB.at' 2 _ rfl
 have c3:w.cell? ⟨p1,3,none⟩=some (num d.start.w):=hB.at' 3 _ rfl
 have c4:w.cell? ⟨p1,4,none⟩=some (num d.start.c):=hB.at' 4 _ rfl
 have c5:w.cell? ⟨p1,5,none⟩=some (num d.start.h):=hB.at' 5 _ rfl
 have c6:w.cell? ⟨p1,6,none⟩=some (r.s):=hB.at' 6 _ rfl
 clear hB
 have y1:=(al1 (w:=w) (o1:=.cells #[num 0,num 0,num 0] 24 (0,0)) rfl).2.2
 have r0:=row_cell (i:=0) (v:=num 0) y1 rfl
 have r1:=row_cell (i:=1) (v:=num 0) y1 rfl
 have r2:=row_cell (i:=2) (v:=num 0) y1 rfl
 have z0:=row_frozen (i:=0) y1
 have z1:=row_frozen (i:=1) y1
 have z2:=row_frozen (i:=2) y1
 simp only [x11_0,x11_1,x11_2,x11_3,x11_4,x11_5,x11_6,x11_8,x11_9,x11_15,x11_16,x11_18,x11_19,x11_23,x11_24,x11_26,x11_31,r11_3,r11_6,r11_9,r11_18,r11_24,b11,Try.f11,cL,cR,cB,cT]
 gi_wp2
 exact⟨⟨rfl,rfl,rfl,rfl,rfl,rfl,rfl,rfl,rfl,rfl,rfl⟩,OldC.nx (alloc_nx (Nx.refl w) _),(al1 rfl).2.2⟩
end Go.Proofs.Ytedomogjmhommaa
namespace Go.Proofs.Ytedomogjmhommaa
open Go.RowKit Go.Con Go.Conc
theorem slAtO {α:Type} {en:α→List Value} {w wr:World} {b off sz:Nat} {xs:List α} (hcl:∀ (j k:Nat) (z:List Value) (x:Value),(xs.map en)[j]?=some z→z[k]?=some x→w.cell? ⟨b,off+j * sz+k,none⟩=some x) (o:OldC w wr) {k:Nat} {p:α} (hk:xs[k]?=some p) (i:Nat) {v:Value} (hv:(en p)[i]?=some v) :
  wr.cell? ⟨b,off+k * sz+i,none⟩=some v:=o.at (hcl k i (en p) v (by simp [hk]) hv)
theorem slAtO1 {w wr:World} {b off:Nat} {xs:List Int} (hcl:∀ (j k:Nat) (z:List Value) (x:Value),(xs.map one)[j]?=some z→z[k]?=some x→w.cell? ⟨b,off+j * 1+k,none⟩=some x) (o:OldC w wr) {k:Nat} {p:Int} (hk:xs[k]?=some p) :
  wr.cell? ⟨b,off+k,none⟩=some (num p):=by
 have:=slAtO hcl o hk 0 (v:=num p) rfl
 simpa using this
def Q11_9 (Wb:World) (p1 ps pb q:Nat) (vp va vl:Value) (by1:Int) (s:St) (t:Array Value) (w' : World):Prop:=(t.size=215∧t[2]?=some (.int .u8 by1)∧t[3]?=some (ptr p1)∧t[7]?=some (vp)∧t[8]?=some (va)∧t[9]?=some (ptr ps)∧t[10]?=some (ptr pb)∧t[12]?=some (vl)∧t[14]?=some (ptr q))∧OldC Wb w'∧w'.heap[q]?=some (.cells s.cells.toArray 24 (0,0))
theorem f11_9 (d:Dry) (r:R2) (p1 ps pb q:Nat) (vp va vl:Value) (plan air:List Int) (by1:Int) (Wb:World) (t:Array Value) (hs:t.size=215) (h2:t[2]?=some (.int .u8 by1)) (h3:t[3]?=some (ptr p1)) (h7:t[7]?=some (vp)) (h8:t[8]?=some (va)) (h9:t[9]?=some (ptr ps)) (h10:t[10]?=some (ptr pb)) (h12:t[12]?=some (vl)) (h14:t[14]?=some (ptr q)) (w:World) (hF:PlA Wb d r p1 vp va plan air) (hL:Sl Wb vl 3 ((followS d d.start plan air).map St.cells)) (hO:d.Ok) (hP:PA d plan air) (hpn:plan.length≤5) (ob:OldC Wb w) (hq:Wb.heap.size≤q) (gq:w.heap[q]?=some (.cells d.start.cells.toArray 24 (0,0))) :
  x11_9.wpIn FW 0 Try.prog (fun e a w'=>e=.normal∧a.defers=[]∧Q11_9 Wb p1 ps pb q vp va vl by1 (stAt d d.start plan air plan.length) a.tmps w') ⟨t,[]⟩ w:=by
 obtain⟨f,rfl⟩:=ex215 hs
 have g2:f 2=.int .u8 by1:=by simpa using h2
 have g3:f 3=ptr p1:=by simpa using h3
 have g7:f 7=vp:=by simpa using h7
 have g8:f 8=va:=by simpa using h8
 have g9:f 9=ptr ps:=by simpa using h9
 have g10:f 10=ptr pb:=by simpa using h10
 have g12:f 12=vl:=by simpa using h12
 have g14:f 14=ptr q:=by simpa using h14
 rw [g2,g3,g7,g8,g9,g10,g12,g14] at *
 clear hs h2 h3 h7 h8 h9 h10 h12 h14 g2 g3 g7 g8 g9 g10 g12 g14
 have hlen:=followS_len d d.start plan air hP.len
 have HAT:=fun (k:Nat) (hk:k<plan.length)=>gone_step hO hP hk
 have HOK:=fun (k:Nat) (hk:k≤plan.length)=>stAt_ok hO hP (stF_ok.1 hO.start) k hk
 have HFA:=fun (k:Nat) (hk:k<plan.length)=>followS_at d d.start plan air k _ _ (List.getElem?_eq_getElem hk) (List.getElem?_eq_getElem (show k<air.length by have:=hP.len;omega))
 generalize followS d d.start plan air=L at *
 have hp:=Lib.hid hF.p
 have hL':=Lib.hid hL
 obtain⟨pa,pcap,e3⟩:=hF.p.cases
 obtain⟨la,lcap,e4⟩:=hL.cases
 rw [List.length_map] at e3 e4
 subst e3 e4
 have gq0:w.heap[q]?=some (.cells (stAt d d.start plan air 0).cells.toArray 24 (0,0)):=by
  rw [gq]
  cases plan<;>cases air<;>rfl
 rw [hlen]
 have HL:=Lib.hid hlen
 clear hF hL hO hP gq hlen
 simp only [x11_0,x11_1,x11_2,x11_3,x11_4,x11_5,x11_6,x11_8,x11_9,x11_15,x11_16,x11_18,x11_19,x11_23,x11_24,x11_26,x11_31,r11_3,r11_6,r11_9,r11_18,r11_24,b11,Try.f11,cL,cR,cB,cT]
 gi_wp2
 gi_loopw [15] (fun i wr=>∃ k:Nat,k≤plan.length∧i=num k∧OldC Wb wr∧wr.heap[q]?=some (.cells (stAt d d.start plan air k).cells.toArray 24 (0,0))) (fun i _=>plan.length-(intOf i).toNat)
 case atStart=>exact⟨0,Nat.zero_le _,rfl,ob,gq0⟩
 case round =>
  obtain⟨k,hk,rfl,ok,gk⟩:=hrel
  by_cases hlt:k<plan.length
  ·obtain⟨b,off,rfl,hbl,hcl⟩:=(hp.out).get (by simp;omega)
   obtain⟨b',off',rfl,hbl',hcl'⟩:=(hL'.out).get (by simp;have:=HL.out;omega)
   have hh:plan[k]?=some plan[k]:=List.getElem?_eq_getElem hlt
   have hs':=HFA k hlt
   obtain⟨hw1,hc1,hh1⟩:=HAT k hlt
   have ok1:=HOK (k+1) hlt
   rw [hh,Option.some.injEq] at hh1
   generalize hsk:stAt d d.start plan air k=s at *
   generalize hsk1:stAt d d.start plan air (k+1)=s' at *
   have HS:=Lib.hid hsk1
   clear hsk hsk1
   generalize plan[k]=h at hh hh1
   have f0:=slAtO1 hcl ok hh
   have e0:wr.cell? ⟨b',off' + k * 3,none⟩=some (num s'.w):=slAtO hcl' ok hs' 0 (v:=num s'.w) rfl
   have e1:=slAtO hcl' ok hs' 1 (v:=num s'.c) rfl
   have e2:=slAtO hcl' ok hs' 2 (v:=num s'.h) rfl
   have s0:wr.cell? ⟨q,0,none⟩=some (num s.w):=row_cell gk rfl
   have s1:wr.cell? ⟨q,1,none⟩=some (num s.c):=row_cell gk rfl
   have s2:wr.cell? ⟨q,2,none⟩=some (num s.h):=row_cell gk rfl
   have hqb:b' < Wb.heap.size:=hbl'
   clear hcl hcl' hh hs'
   obtain⟨sw,sc,sh⟩:=s'
   obtain⟨tw,tc,th⟩:=s
   have i1:=ok1.w
   have i2:=ok1.c
   try dsimp only at *
   subst hh1
   have d1:decide (sw > tw)=false:=decide_eq_false (by omega)
   have d2:decide (sc > tc)=false:=decide_eq_false (by omega)
   have d3:decide (sw<0)=false:=decide_eq_false (by omega)
   have d4:decide (sc<0)=false:=decide_eq_false (by omega)
   have d5:(sh != sh)=false:=by simp
   clear ok1 hw1 hc1 i1 i2
   gi_upto_region 12 with fail
   gi_big_quiet_th (fail)
   have n4:Nx wr (wr.drewN nq):=(Nx.refl wr).drewN nq
   have g4:=(n4.block q (lt_row gk)).trans gk
   generalize wr.drewN nq=V at n4 g4 ⊢
   have o4:=OldC.nx n4
   have e0:=o4.at e0
   have e1:=o4.at e1
   have e2:=o4.at e2
   clear s0 s1 s2 f0 d1 d2 d3 d4 d5
   have y0:V.cell? ⟨q,0,none⟩=some (num tw):=row_cell g4 rfl
   have y1:V.cell? ⟨q,1,none⟩=some (num tc):=row_cell g4 rfl
   have y2:V.cell? ⟨q,2,none⟩=some (num th):=row_cell g4 rfl
   have z0:=row_frozen (i:=0) g4
   have z1:=row_frozen (i:=1) g4
   have z2:=row_frozen (i:=2) g4
   gi_wp2
   refine⟨⟨k+1,hlt,by simp,?_,?_⟩,by simp [intOf];omega⟩
   ·repeat (refine OldC.set ?_ hq)
    exact ok.trans o4
   ·rw [HS.out]
    exact set3 g4
  ·obtain rfl:k=plan.length:=by omega
   gi_wp2
   exact⟨⟨rfl,rfl,rfl,rfl,rfl,rfl,rfl,rfl,rfl⟩,ok,gk⟩
def Q11_15 (w:World) (p1 ps pb:Nat) (vp va vl:Value) (by1:Int) (d:Dry) (s:St) (t:Array Value) (w' : World):Prop:=(t.size=215∧t[2]?=some (.int .u8 by1)∧t[3]?=some (ptr p1)∧t[7]?=some (vp)∧t[8]?=some (va)∧t[9]?=some (ptr ps)∧t[10]?=some (ptr pb)∧t[12]?=some (vl)∧t[16]?=some (num (d.start.w-s.w))∧t[17]?=some (num (d.start.c-s.c)))∧Nx w w'
theorem f11_15 (d:Dry) (r:R2) (p1 ps pb q:Nat) (vp va vl:Value) (by1:Int) (s:St) (t:Array Value) (hs:t.size=215) (h2:t[2]?=some (.int .u8 by1)) (h3:t[3]?=some (ptr p1)) (h7:t[7]?=some (vp)) (h8:t[8]?=some (va)) (h9:t[9]?=some (ptr ps)) (h10:t[10]?=some (ptr pb)) (h12:t[12]?=some (vl)) (h14:t[14]?=some (ptr q)) (w:World) (hB:DBox w p1 d r) (q0:w.cell? ⟨q,0,none⟩=some (num s.w)) (q1:w.cell? ⟨q,1,none⟩=some (num s.c)) (h1:0≤d.start.w∧d.start.w≤5000) (h2:0≤d.start.c∧d.start.c≤1000) (h3:0≤s.w∧s.w≤5000) (h4:0≤s.c∧s.c≤1000) :
  x11_15.wpIn FW 0 Try.prog (fun e a w'=>e=.normal∧a.defers=[]∧Q11_15 w p1 ps pb vp va vl by1 d s a.tmps w') ⟨t,[]⟩ w:=by
 obtain⟨f,rfl⟩:=ex215 hs
 have g2:f 2=.int .u8 by1:=by simpa using h2
 have g3:f 3=ptr p1:=by simpa using h3
 have g7:f 7=vp:=by simpa using h7
 have g8:f 8=va:=by simpa using h8
 have g9:f 9=ptr ps:=by simpa using h9
 have g10:f 10=ptr pb:=by simpa using h10
 have g12:f 12=vl:=by simpa using h12
 have g14:f 14=ptr q:=by simpa using h14
 rw [g2,g3,g7,g8,g9,g10,g12,g14] at *
 clear hs h2 h3 h7 h8 h9 h10 h12 h14 g2 g3 g7 g8 g9 g10 g12 g14
 have c3:w.cell? ⟨p1,3,none⟩=some (num d.start.w):=hB.at' 3 _ rfl
 have c4:w.cell? ⟨p1,4,none⟩=some (num d.start.c):=hB.at' 4 _ rfl
 clear hB
 generalize hd:d.start=x at *
 obtain⟨sw,sc,sh⟩:=s
 obtain⟨tw,tc,th⟩:=x
 dsimp only at *
 simp only [x11_0,x11_1,x11_2,x11_3,x11_4,x11_5,x11_6,x11_8,x11_9,x11_15,x11_16,x11_18,x11_19,x11_23,x11_24,x11_26,x11_31,r11_3,r11_6,r11_9,r11_18,r11_24,b11,Try.f11,cL,cR,cB,cT]
 gi_big_quiet_th (fail)
 gi_wp2
 exact⟨⟨rfl,rfl,rfl,rfl,rfl,rfl,rfl,rfl,by rw [hd];rfl,by rw [hd];rfl⟩,(Nx.refl w).drewN _⟩
def Q11_16 (w:World) (p1:Nat) (vp va vl:Value) (by1:Int) (t:Array Value) (w' : World):Prop:=(t.size=215∧t[2]?=some (.int .u8 by1)∧t[3]?=some (ptr p1)∧t[7]?=some (vp)∧t[8]?=some (va)∧t[12]?=some (vl))∧Nx w w'
theorem f11_16 (p1 ps pb:Nat) (vp va vl:Value) (by1 x y:Int) (a0 a1 b0 b1:Int) (t:Array Value) (hs:t.size=215) (h2:t[2]?=some (.int .u8 by1)) (h3:t[3]?=some (ptr p1)) (h7:t[7]?=some (vp)) (h8:t[8]?=some (va)) (h9:t[9]?=some (ptr ps)) (h10:t[10]?=some (ptr pb)) (h12:t[12]?=some (vl)) (h16:t[16]?=some (num x)) (h17:t[17]?=some (num y)) (w:World) (q0:w.cell? ⟨ps,0,none⟩=some (num a0)) (q1:w.cell? ⟨ps,1,none⟩=some (num a1)) (q2:w.cell? ⟨pb,0,none⟩=some (num b0)) (q3:w.cell? ⟨pb,1,none⟩=some (num b1)) (h1:a0≤x∧x≤a1) (h2:b0≤y∧y≤b1) :
  x11_16.wpIn FW 0 Try.prog (fun e a w'=>e=.normal∧a.defers=[]∧Q11_16 w p1 vp va vl by1 a.tmps w') ⟨t,[]⟩ w:=by
 obtain⟨f,rfl⟩:=ex215 hs
 have g2:f 2=.int .u8 by1:=by simpa using h2
 have g3:f 3=ptr p1:=by simpa using h3
 have g7:f 7=vp:=by simpa using h7
 have g8:f 8=va:=by simpa using h8
 have g9:f 9=ptr ps:=by simpa using h9
 have g10:f 10=ptr pb:=by simpa using h10
 have g12:f 12=vl:=by simpa using h12
 have g16:f 16=num x:=by simpa using h16
 have g17:f 17=num y:=by simpa using h17
 rw [g2,g3,g7,g8,g9,g10,g12,g16,g17] at *
 clear hs h2 h3 h7 h8 h9 h10 h12 h16 h17 g2 g3 g7 g8 g9 g10 g12 g16 g17
 have d1:decide (x<a0)=false:=decide_eq_false (by omega)
 have d2:decide (x > a1)=false:=decide_eq_false (by omega)
 have d3:decide (y<b0)=false:=decide_eq_false (by omega)
 have d4:decide (y > b1)=false:=decide_eq_false (by omega)
 clear h1 h2
 simp only [x11_0,x11_1,x11_2,x11_3,x11_4,x11_5,x11_6,x11_8,x11_9,x11_15,x11_16,x11_18,x11_19,x11_23,x11_24,x11_26,x11_31,r11_3,r11_6,r11_9,r11_18,r11_24,b11,Try.f11,cL,cR,cB,cT]
 gi_wp2
 exact⟨⟨rfl,rfl,rfl,rfl,rfl,rfl⟩,Nx.refl w⟩
theorem f11_18 (p1:Nat) (vp va vl:Value) (by1:Int) (t:Array Value) (hs:t.size=215) (h2:t[2]?=some (.int .u8 by1)) (h3:t[3]?=some (ptr p1)) (h7:t[7]?=some (vp)) (h8:t[8]?=some (va)) (h12:t[12]?=some (vl)) (w:World)  :
  x11_18.wpIn FW 0 Try.prog (fun e a w'=>e=.normal∧a.defers=[]∧(a.tmps.size=215∧a.tmps[2]?=some (.int .u8 by1)∧a.tmps[3]?=some (ptr p1)∧a.tmps[7]?=some (vp)∧a.tmps[8]?=some (va)∧a.tmps[12]?=some (vl)∧a.tmps[18]?=some (.slice none 0 0))∧w'=w) ⟨t,[]⟩ w:=by
 obtain⟨f,rfl⟩:=ex215 hs
 have g2:f 2=.int .u8 by1:=by simpa using h2
 have g3:f 3=ptr p1:=by simpa using h3
 have g7:f 7=vp:=by simpa using h7
 have g8:f 8=va:=by simpa using h8
 have g12:f 12=vl:=by simpa using h12
 rw [g2,g3,g7,g8,g12] at *
 clear hs h2 h3 h7 h8 h12 g2 g3 g7 g8 g12
 simp only [x11_0,x11_1,x11_2,x11_3,x11_4,x11_5,x11_6,x11_8,x11_9,x11_15,x11_16,x11_18,x11_19,x11_23,x11_24,x11_26,x11_31,r11_3,r11_6,r11_9,r11_18,r11_24,b11,Try.f11,cL,cR,cB,cT]
 gi_wp2
end Go.Proofs.Ytedomogjmhommaa
