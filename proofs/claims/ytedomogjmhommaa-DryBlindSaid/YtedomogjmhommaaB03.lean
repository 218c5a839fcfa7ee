import Derived.Test.YtedomogjmhommaaB02
set_option linter.all false
set_option maxRecDepth 100000
set_option maxHeartbeats 8000000
namespace Go.Proofs.Ytedomogjmhommaa
open Go.RowKit Go.Con Go.Conc
noncomputable def b7:Code:=match Try.f7.body with | some c=>c | none=>.skip
noncomputable def x7_0:Code:=cL b7
noncomputable def x7_1:Code:=cL (cL (cR b7))
noncomputable def x7_2:Code:=cL (cT (cR (cL (cR b7))))
noncomputable def r7_3:Code:=cR (cR b7)
noncomputable def x7_3:Code:=cL r7_3
noncomputable def x7_4:Code:=cL (cR r7_3)
noncomputable def x7_5:Code:=cL (cR (cR r7_3))
noncomputable def r7_6:Code:=cR (cR (cR r7_3))
noncomputable def x7_6:Code:=cL r7_6
noncomputable def x7_7:Code:=cL (cR r7_6)
noncomputable def x7_9:Code:=cL (cL (cR (cR r7_6)))
noncomputable def x7_10:Code:=cL (cT (cR (cL (cR (cR r7_6)))))
noncomputable def r7_11:Code:=cR (cR (cR r7_6))
noncomputable def x7_11:Code:=cL r7_11
noncomputable def x7_13:Code:=cL (cR r7_11)
noncomputable def x7_14:Code:=cL (cR (cR r7_11))
noncomputable def x7_16:Code:=cL (cR (cR (cR r7_11)))
theorem b7_eq:b7=.seq x7_0 (.seq (.seq x7_1 (.cond (.tmp 25) (.seq x7_2 .ret) .skip)) (.seq x7_3 (.seq x7_4 (.seq x7_5 (.seq x7_6 (.seq x7_7 (.seq (.seq x7_9 (.cond (.tmp 68) (.seq x7_10 .ret) .skip)) (.seq x7_11 (.seq x7_13 (.seq x7_14 (.seq x7_16 .ret))))))))))):=by kernel_rfl
theorem ex124_7 {t:Array Value} (h:t.size=124):∃ f:Nat→Value,t=#[f 0,f 1,f 2,f 3,f 4,f 5,f 6,f 7,f 8,f 9,f 10,f 11,f 12,f 13,f 14,f 15,f 16,f 17,f 18,f 19,f 20,f 21,f 22,f 23,f 24,f 25,f 26,f 27,f 28,f 29,f 30,f 31,f 32,f 33,f 34,f 35,f 36,f 37,f 38,f 39,f 40,f 41,f 42,f 43,f 44,f 45,f 46,f 47,f 48,f 49,f 50,f 51,f 52,f 53,f 54,f 55,f 56,f 57,f 58,f 59,f 60,f 61,f 62,f 63,f 64,f 65,f 66,f 67,f 68,f 69,f 70,f 71,f 72,f 73,f 74,f 75,f 76,f 77,f 78,f 79,f 80,f 81,f 82,f 83,f 84,f 85,f 86,f 87,f 88,f 89,f 90,f 91,f 92,f 93,f 94,f 95,f 96,f 97,f 98,f 99,f 100,f 101,f 102,f 103,f 104,f 105,f 106,f 107,f 108,f 109,f 110,f 111,f 112,f 113,f 114,f 115,f 116,f 117,f 118,f 119,f 120,f 121,f 122,f 123]:=by
 obtain⟨f,rfl⟩:=exN 124 h
 exact⟨f,by kernel_rfl⟩
theorem f7_0 (d:Dry) (ha sa:Option Addr) (hn hcap sn scap:Nat) (u:Value) (t:Array Value) (hs:t.size=124) (h0:t[0]?=some (d.val ⟨.slice ha hn hcap,.slice sa sn scap⟩)) (h1:t[1]?=some (u)) (w:World)  :
  x7_0.wpIn FW 0 Try.prog (fun e a w'=>e=.normal∧a.defers=[]∧(a.tmps.size=124∧a.tmps[1]?=some (u)∧a.tmps[2]?=some (ptr w.heap.size))∧w'=w.alloc (.cells (d.cellsA ⟨.slice ha hn hcap,.slice sa sn scap⟩) 27)) ⟨t,[]⟩ w:=by
 obtain⟨f,rfl⟩:=ex124_7 hs
 have g0:f 0=d.val ⟨.slice ha hn hcap,.slice sa sn scap⟩:=by simpa using h0
 have g1:f 1=u:=by simpa using h1
 rw [g0,g1] at *
 clear hs h0 h1 g0 g1
 simp only [x7_0,x7_1,x7_2,x7_4,x7_5,x7_6,x7_7,x7_9,x7_11,x7_13,x7_14,r7_3,r7_6,r7_11,b7,Try.f7,cL,cR,cB,cT]
 gi_wp2
def Qf7_1 (w:World) (p1:Nat) (u:Value) (b:Bool) (t:Array Value) (w' : World):Prop:=(t.size=124∧t[1]?=some (u)∧t[2]?=some (ptr p1)∧t[25]?=some (.bool b))∧Nx w w'
theorem f7_1 (d:Dry) (r:R2) (p1:Nat) (u:Value) (t:Array Value) (hs:t.size=124) (h1:t[1]?=some (u)) (h2:t[2]?=some (ptr p1)) (w:World) (hB:DBox w p1 d r) (hh:Sl w r.h 2 (d.heats.map two)) (hst:Sl w r.s 6 (d.steps.map Stp.cells)) (hl:d.heats.length≤140737488355328) (sl:d.steps.length≤140737488355328) :
  x7_1.wpIn FW 0 Try.prog (fun e a w'=>e=.normal∧a.defers=[]∧Qf7_1 w p1 u (out11 d) a.tmps w') ⟨t,[]⟩ w:=by
 obtain⟨f,rfl⟩:=ex124_7 hs
 have g1:f 1=u:=by simpa using h1
 have g2:f 2=ptr p1:=by simpa using h2
 rw [g1,g2] at *
 clear hs h1 h2 g1 g2
 have k16:=great16_big d r w hh hst hl sl
 have c0:w.cell? ⟨p1,0,none⟩=some (r.h):=hB.at' 0 _ rfl
 have c1:w.cell? ⟨p1,1,none⟩=some (num d.soak):=hB.at' 1 _ rfl
 have c2:w.cell? ⟨p1,2,none⟩=some (num d.brittle):=hB.at' 2 _ rfl
 have c3:w.cell? ⟨p1,3,none⟩=some (num d.start.w):=hB.at' 3 _ rfl
 have c4:w.cell? ⟨p1,4,none⟩=some (num d.start.c):=hB.at' 4 _ rfl
 have c5:w.cell? ⟨p1,5,none⟩=some (num d.start.h):=hB.at' 5 _ rfl
 have c6:w.cell? ⟨p1,6,none⟩=some (r.s):=hB.at' 6 _ rfl
 by_cases hg:greatD d=true
 ·have ho:out11 d=true:=by simp [out11,hg]
  rw [hg] at k16
  rw [ho]
  clear hB hh hst hl sl hg ho
  simp only [x7_0,x7_1,x7_2,x7_4,x7_5,x7_6,x7_7,x7_9,x7_11,x7_13,x7_14,r7_3,r7_6,r7_11,b7,Try.f7,cL,cR,cB,cT]
  gi_wp2_with (first | (gi_at_call 16;refine CallsIn.mono k16 ?_;rintro e w1 ⟨rfl,n1⟩) | gi_in)
  exact⟨⟨rfl,rfl,rfl,rfl⟩,n1⟩
 ·have hd:DrySl w d r:=⟨hh,hst,by simp [greatD] at hg;omega,by simp [greatD] at hg;omega⟩
  have hgf:greatD d=false:=by simpa using hg
  rw [hgf] at k16
  obtain⟨rh,rs⟩:=r
  obtain⟨ha,hcap,e1⟩:=hd.heats.cases
  obtain⟨sa,scap,e2⟩:=hd.steps.cases
  dsimp only at e1 e2
  rw [List.length_map] at e1 e2
  subst e1 e2
  have kc:=fun (w1:World) (n:Nx w w1)=>(⟨(OldC.nx n).at c0,(OldC.nx n).at c1,(OldC.nx n).at c2,(OldC.nx n).at c3,(OldC.nx n).at c4,(OldC.nx n).at c5,(OldC.nx n).at c6⟩:_∧_∧_∧_∧_∧_∧_)
  dsimp only at kc
  have k33:=fun (w1:World) (n:Nx w w1)=>check33_any d _ w1 (hd.nx n)
  obtain⟨ov,hov⟩:∃ o,out11 d=o:=⟨_,rfl⟩
  rw [hov]
  unfold out11 at hov
  rw [hgf] at hov
  generalize dryF d=f1 at *
  clear hB hh hst hl sl hg hd hgf
  by_cases h1:f1=0
  ·subst h1
   have ho:ov=false:=by rw [← hov];simp
   rw [ho]
   clear hov ho
   simp only [x7_0,x7_1,x7_2,x7_4,x7_5,x7_6,x7_7,x7_9,x7_11,x7_13,x7_14,r7_3,r7_6,r7_11,b7,Try.f7,cL,cR,cB,cT]
   gi_wp2_with (first | (gi_at_call 16;refine CallsIn.mono k16 ?_;rintro e w1 ⟨rfl,n1⟩;clear c0 c1 c2 c3 c4 c5 c6;obtain⟨c0,c1,c2,c3,c4,c5,c6⟩:=kc _ n1) | (gi_at_call 33;refine CallsIn.mono (k33 _ n1) ?_;rintro e w2 ⟨rfl,n2'⟩;have n2:=n1.trans n2') | gi_in)
   exact⟨⟨rfl,rfl,rfl,rfl⟩,n2⟩
  ·have ho:ov=true:=by rw [← hov];simp [h1]
   rw [ho]
   have b1:(f1 != 0)=true:=by simpa using h1
   clear hov ho h1
   simp only [x7_0,x7_1,x7_2,x7_4,x7_5,x7_6,x7_7,x7_9,x7_11,x7_13,x7_14,r7_3,r7_6,r7_11,b7,Try.f7,cL,cR,cB,cT]
   gi_wp2_with (first | (gi_at_call 16;refine CallsIn.mono k16 ?_;rintro e w1 ⟨rfl,n1⟩;clear c0 c1 c2 c3 c4 c5 c6;obtain⟨c0,c1,c2,c3,c4,c5,c6⟩:=kc _ n1) | (gi_at_call 33;refine CallsIn.mono (k33 _ n1) ?_;rintro e w2 ⟨rfl,n2'⟩;have n2:=n1.trans n2') | gi_in)
   exact⟨⟨rfl,rfl,rfl,rfl⟩,n2⟩
def Qf7_4 (w:World) (p1:Nat) (u:Value) (vb:Value) (b:Bool) (s:List (List St)×Bool×Int) (t:Array Value) (w' : World):Prop:=(t.size=124∧t[1]?=some (u)∧t[2]?=some (ptr p1)∧t[5]?=some (vb)∧t[6]?=some (.bool b)∧t[7]?=some (num 0)∧t[9]?=some (.bool s.2.1)∧t[10]?=some (num s.2.2))∧Nx w w'
theorem f7_4 (d:Dry) (r:R2) (p1:Nat) (u:Value) (vb:Value) (b:Bool) (s:List (List St)×Bool×Int) (t:Array Value) (hs:t.size=124) (h1:t[1]?=some (u)) (h2:t[2]?=some (ptr p1)) (h5:t[5]?=some (vb)) (h6:t[6]?=some (.bool b)) (h7:t[7]?=some (num 0)) (w:World) (hB:DBox w p1 d r) (hd:DrySl w d r) (hsf:safeF d=s) :
  x7_4.wpIn FW 0 Try.prog (fun e a w'=>e=.normal∧a.defers=[]∧Qf7_4 w p1 u vb b s a.tmps w') ⟨t,[]⟩ w:=by
 obtain⟨f,rfl⟩:=ex124_7 hs
 have g1:f 1=u:=by simpa using h1
 have g2:f 2=ptr p1:=by simpa using h2
 have g5:f 5=vb:=by simpa using h5
 have g6:f 6=.bool b:=by simpa using h6
 have g7:f 7=num 0:=by simpa using h7
 rw [g1,g2,g5,g6,g7] at *
 clear hs h1 h2 h5 h6 h7 g1 g2 g5 g6 g7
 have k20:=safe20_any d r w hd
 rw [hsf] at k20
 clear hsf
 have c0:w.cell? ⟨p1,0,none⟩=some (r.h):=hB.at' 0 _ rfl
 have c1:w.cell? ⟨p1,1,none⟩=some (num d.soak):=hB.at' 1 _ rfl
 have c2:w.cell? ⟨p1,2,none⟩=some (num d.brittle):=hB.at' 2 _ rfl
 have c3:w.cell? ⟨p1,3,none⟩=some (num d.start.w):=hB.at' 3 _ rfl
 have c4:w.cell? ⟨p1,4,none⟩=some (num d.start.c):=hB.at' 4 _ rfl
 have c5:w.cell? ⟨p1,5,none⟩=some (num d.start.h):=hB.at' 5 _ rfl
 have c6:w.cell? ⟨p1,6,none⟩=some (r.s):=hB.at' 6 _ rfl
 obtain⟨rh,rs⟩:=r
 obtain⟨ha,hcap,e1⟩:=hd.heats.cases
 obtain⟨sa,scap,e2⟩:=hd.steps.cases
 dsimp only at e1 e2
 rw [List.length_map] at e1 e2
 subst e1 e2
 try dsimp only at *
 clear hB hd
 simp only [x7_0,x7_1,x7_2,x7_4,x7_5,x7_6,x7_7,x7_9,x7_11,x7_13,x7_14,r7_3,r7_6,r7_11,b7,Try.f7,cL,cR,cB,cT]
 gi_wp2_with (first | (gi_at_call 20;refine CallsIn.mono k20 ?_;rintro e w1 ⟨v,rfl,n1,_⟩) | gi_in)
 exact⟨⟨rfl,rfl,rfl,rfl,rfl,rfl,rfl,rfl⟩,n1⟩
def Qf7_5 (w:World) (p1:Nat) (u:Value) (vb:Value) (b sb:Bool) (plan:List Int) (t:Array Value) (w' : World):Prop:=∃ vo,(t.size=124∧t[1]?=some (u)∧t[2]?=some (ptr p1)∧t[5]?=some (vb)∧t[6]?=some (.bool b)∧t[7]?=some (num 0)∧t[9]?=some (.bool sb)∧t[10]?=some (num 0)∧t[11]?=some (vo))∧Nx w w'∧Sl w' vo 1 (plan.map one)
theorem f7_5 (d:Dry) (r:R2) (p1:Nat) (u:Value) (vb:Value) (b sb:Bool) (t:Array Value) (hs:t.size=124) (h1:t[1]?=some (u)) (h2:t[2]?=some (ptr p1)) (h5:t[5]?=some (vb)) (h6:t[6]?=some (.bool b)) (h7:t[7]?=some (num 0)) (h9:t[9]?=some (.bool sb)) (h10:t[10]?=some (num 0)) (w:World) (hB:DBox w p1 d r) (hd:DrySl w d r) (hO:d.Ok) (picks:List Int) (hu:Sl w u 1 (picks.map fun x=>[u16 x])) (hpx:∀ x∈picks,0≤x∧x≤65535) (hpl:picks.length≤140737488355328) :
  x7_5.wpIn FW 0 Try.prog (fun e a w'=>e=.normal∧a.defers=[]∧Qf7_5 w p1 u vb b sb (planP d picks) a.tmps w') ⟨t,[]⟩ w:=by
 obtain⟨f,rfl⟩:=ex124_7 hs
 have g1:f 1=u:=by simpa using h1
 have g2:f 2=ptr p1:=by simpa using h2
 have g5:f 5=vb:=by simpa using h5
 have g6:f 6=.bool b:=by simpa using h6
 have g7:f 7=num 0:=by simpa using h7
 have g9:f 9=.bool sb:=by simpa using h9
 have g10:f 10=num 0:=by simpa using h10
 rw [g1,g2,g5,g6,g7,g9,g10] at *
 clear hs h1 h2 h5 h6 h7 h9 h10 g1 g2 g5 g6 g7 g9 g10
 have k38:=plan38_any d r u picks w hd hO hu hpx hpl
 have c0:w.cell? ⟨p1,0,none⟩=some (r.h):=hB.at' 0 _ rfl
 have c1:w.cell? ⟨p1,1,none⟩=some (num d.soak):=hB.at' 1 _ rfl
 have c2:w.cell? ⟨p1,2,none⟩=some (num d.brittle):=hB.at' 2 _ rfl
 have c3:w.cell? ⟨p1,3,none⟩=some (num d.start.w):=hB.at' 3 _ rfl
 have c4:w.cell? ⟨p1,4,none⟩=some (num d.start.c):=hB.at' 4 _ rfl
 have c5:w.cell? ⟨p1,5,none⟩=some (num d.start.h):=hB.at' 5 _ rfl
 have c6:w.cell? ⟨p1,6,none⟩=some (r.s):=hB.at' 6 _ rfl
 obtain⟨rh,rs⟩:=r
 obtain⟨ha,hcap,e1⟩:=hd.heats.cases
 obtain⟨sa,scap,e2⟩:=hd.steps.cases
 dsimp only at e1 e2
 rw [List.length_map] at e1 e2
 subst e1 e2
 try dsimp only at *
 clear hB hd hO hu hpx hpl
 simp only [x7_0,x7_1,x7_2,x7_4,x7_5,x7_6,x7_7,x7_9,x7_11,x7_13,x7_14,r7_3,r7_6,r7_11,b7,Try.f7,cL,cR,cB,cT]
 gi_wp2_with (first | (gi_at_call 38;refine CallsIn.mono k38 ?_;rintro e w1 ⟨vo,rfl,n1,hs⟩) | gi_in)
 exact⟨vo,⟨rfl,rfl,rfl,rfl,rfl,rfl,rfl,rfl,rfl⟩,n1,hs⟩
def Qf7_6 (w:World) (p1:Nat) (u:Value) (vb:Value) (vo:Value) (b sb:Bool) (sp:List Int×Int×Bool×Int) (t:Array Value) (w' : World):Prop:=(t.size=124∧t[1]?=some (u)∧t[2]?=some (ptr p1)∧t[5]?=some (vb)∧t[6]?=some (.bool b)∧t[7]?=some (num 0)∧t[9]?=some (.bool sb)∧t[10]?=some (num 0)∧t[11]?=some (vo)∧t[14]?=some (.bool sp.2.2.1)∧t[15]?=some (num sp.2.2.2))∧Nx w w'
theorem f7_6 (d:Dry) (r:R2) (p1:Nat) (u:Value) (vb:Value) (vo:Value) (b sb:Bool) (plan:List Int) (sp:List Int×Int×Bool×Int) (t:Array Value) (hs:t.size=124) (h1:t[1]?=some (u)) (h2:t[2]?=some (ptr p1)) (h5:t[5]?=some (vb)) (h6:t[6]?=some (.bool b)) (h7:t[7]?=some (num 0)) (h9:t[9]?=some (.bool sb)) (h10:t[10]?=some (num 0)) (h11:t[11]?=some (vo)) (w:World) (hB:DBox w p1 d r) (hd:DrySl w d r) (hp:Sl w vo 1 (plan.map one)) (hl:plan.length≤1000000000) (hsp:spoilF d plan=sp) :
  x7_6.wpIn FW 0 Try.prog (fun e a w'=>e=.normal∧a.defers=[]∧Qf7_6 w p1 u vb vo b sb sp a.tmps w') ⟨t,[]⟩ w:=by
 obtain⟨f,rfl⟩:=ex124_7 hs
 have g1:f 1=u:=by simpa using h1
 have g2:f 2=ptr p1:=by simpa using h2
 have g5:f 5=vb:=by simpa using h5
 have g6:f 6=.bool b:=by simpa using h6
 have g7:f 7=num 0:=by simpa using h7
 have g9:f 9=.bool sb:=by simpa using h9
 have g10:f 10=num 0:=by simpa using h10
 have g11:f 11=vo:=by simpa using h11
 rw [g1,g2,g5,g6,g7,g9,g10,g11] at *
 clear hs h1 h2 h5 h6 h7 h9 h10 h11 g1 g2 g5 g6 g7 g9 g10 g11
 have k26:=spoil26_any d r vo plan w hd hp hl
 rw [hsp] at k26
 clear hsp
 have c0:w.cell? ⟨p1,0,none⟩=some (r.h):=hB.at' 0 _ rfl
 have c1:w.cell? ⟨p1,1,none⟩=some (num d.soak):=hB.at' 1 _ rfl
 have c2:w.cell? ⟨p1,2,none⟩=some (num d.brittle):=hB.at' 2 _ rfl
 have c3:w.cell? ⟨p1,3,none⟩=some (num d.start.w):=hB.at' 3 _ rfl
 have c4:w.cell? ⟨p1,4,none⟩=some (num d.start.c):=hB.at' 4 _ rfl
 have c5:w.cell? ⟨p1,5,none⟩=some (num d.start.h):=hB.at' 5 _ rfl
 have c6:w.cell? ⟨p1,6,none⟩=some (r.s):=hB.at' 6 _ rfl
 obtain⟨rh,rs⟩:=r
 obtain⟨ha,hcap,e1⟩:=hd.heats.cases
 obtain⟨sa,scap,e2⟩:=hd.steps.cases
 dsimp only at e1 e2
 rw [List.length_map] at e1 e2
 subst e1 e2
 obtain⟨pa,pcap,e3⟩:=hp.cases
 rw [List.length_map] at e3
 subst e3
 try dsimp only at *
 clear hB hd hp
 simp only [x7_0,x7_1,x7_2,x7_4,x7_5,x7_6,x7_7,x7_9,x7_11,x7_13,x7_14,r7_3,r7_6,r7_11,b7,Try.f7,cL,cR,cB,cT]
 gi_wp2_with (first | (gi_at_call 26;refine CallsIn.mono k26 ?_;rintro e w1 ⟨v7,rfl,n1,hrow⟩) | gi_in)
 exact⟨⟨rfl,rfl,rfl,rfl,rfl,rfl,rfl,rfl,rfl,rfl,rfl⟩,n1⟩
theorem f7_7 (p1:Nat) (u:Value) (vb:Value) (vo:Value) (b sb x:Bool) (t:Array Value) (hs:t.size=124) (h1:t[1]?=some (u)) (h2:t[2]?=some (ptr p1)) (h5:t[5]?=some (vb)) (h6:t[6]?=some (.bool b)) (h7:t[7]?=some (num 0)) (h9:t[9]?=some (.bool sb)) (h10:t[10]?=some (num 0)) (h11:t[11]?=some (vo)) (h14:t[14]?=some (.bool x)) (h15:t[15]?=some (num 0)) (w:World) (hbs:b=true→sb=true) :
  x7_7.wpIn FW 0 Try.prog (fun e a w'=>e=.normal∧a.defers=[]∧(a.tmps.size=124∧a.tmps[1]?=some (u)∧a.tmps[2]?=some (ptr p1)∧a.tmps[5]?=some (vb)∧a.tmps[6]?=some (.bool b)∧a.tmps[11]?=some (vo)∧a.tmps[14]?=some (.bool x))∧w'=w) ⟨t,[]⟩ w:=by
 obtain⟨f,rfl⟩:=ex124_7 hs
 have g1:f 1=u:=by simpa using h1
 have g2:f 2=ptr p1:=by simpa using h2
 have g5:f 5=vb:=by simpa using h5
 have g6:f 6=.bool b:=by simpa using h6
 have g7:f 7=num 0:=by simpa using h7
 have g9:f 9=.bool sb:=by simpa using h9
 have g10:f 10=num 0:=by simpa using h10
 have g11:f 11=vo:=by simpa using h11
 have g14:f 14=.bool x:=by simpa using h14
 have g15:f 15=num 0:=by simpa using h15
 rw [g1,g2,g5,g6,g7,g9,g10,g11,g14,g15] at *
 clear hs h1 h2 h5 h6 h7 h9 h10 h11 h14 h15 g1 g2 g5 g6 g7 g9 g10 g11 g14 g15
 cases b with
 | true =>
  have e:=hbs rfl
  subst e
  clear hbs
  simp only [x7_0,x7_1,x7_2,x7_4,x7_5,x7_6,x7_7,x7_9,x7_11,x7_13,x7_14,r7_3,r7_6,r7_11,b7,Try.f7,cL,cR,cB,cT]
  gi_wp2
 | false =>
  clear hbs
  simp only [x7_0,x7_1,x7_2,x7_4,x7_5,x7_6,x7_7,x7_9,x7_11,x7_13,x7_14,r7_3,r7_6,r7_11,b7,Try.f7,cL,cR,cB,cT]
  gi_wp2
theorem f7_9 (p1:Nat) (u:Value) (vb:Value) (vo:Value) (b x:Bool) (t:Array Value) (hs:t.size=124) (h1:t[1]?=some (u)) (h2:t[2]?=some (ptr p1)) (h5:t[5]?=some (vb)) (h6:t[6]?=some (.bool b)) (h11:t[11]?=some (vo)) (h14:t[14]?=some (.bool x)) (w:World)  :
  x7_9.wpIn FW 0 Try.prog (fun e a w'=>e=.normal∧a.defers=[]∧(a.tmps.size=124∧a.tmps[1]?=some (u)∧a.tmps[2]?=some (ptr p1)∧a.tmps[5]?=some (vb)∧a.tmps[11]?=some (vo)∧a.tmps[14]?=some (.bool x)∧a.tmps[68]?=some (.bool (!b)))∧w'=w) ⟨t,[]⟩ w:=by
 obtain⟨f,rfl⟩:=ex124_7 hs
 have g1:f 1=u:=by simpa using h1
 have g2:f 2=ptr p1:=by simpa using h2
 have g5:f 5=vb:=by simpa using h5
 have g6:f 6=.bool b:=by simpa using h6
 have g11:f 11=vo:=by simpa using h11
 have g14:f 14=.bool x:=by simpa using h14
 rw [g1,g2,g5,g6,g11,g14] at *
 clear hs h1 h2 h5 h6 h11 h14 g1 g2 g5 g6 g11 g14
 simp only [x7_0,x7_1,x7_2,x7_4,x7_5,x7_6,x7_7,x7_9,x7_11,x7_13,x7_14,r7_3,r7_6,r7_11,b7,Try.f7,cL,cR,cB,cT]
 gi_wp2
def Qf7_11 (w:World) (p1:Nat) (vb:Value) (vo:Value) (x:Bool) (t:Array Value) (w' : World):Prop:=(t.size=124∧t[2]?=some (ptr p1)∧t[5]?=some (vb)∧t[11]?=some (vo)∧t[14]?=some (.bool x))∧Nx w w'
theorem f7_11 (d:Dry) (r:R2) (p1:Nat) (u:Value) (vb:Value) (vo:Value) (x:Bool) (plan:List Int) (t:Array Value) (hs:t.size=124) (h1:t[1]?=some (u)) (h2:t[2]?=some (ptr p1)) (h5:t[5]?=some (vb)) (h11:t[11]?=some (vo)) (h14:t[14]?=some (.bool x)) (w:World) (hB:DBox w p1 d r) (hd:DrySl w d r) (hO:d.Ok) (picks:List Int) (hu:Sl w u 1 (picks.map fun x=>[u16 x])) (hpx:∀ x∈picks,0≤x∧x≤65535) (hpl:picks.length≤140737488355328) (hp:Sl w vb 1 (plan.map one)) (hl:plan.length≤1000000000) (hpF:planF d plan=0) (hpl2:plan.length=d.steps.length) (hP:PA d plan (airP d picks)) (hbr:brk d (followS d d.start plan (airP d picks))=-1) :
  x7_11.wpIn FW 0 Try.prog (fun e a w'=>e=.normal∧a.defers=[]∧Qf7_11 w p1 vb vo x a.tmps w') ⟨t,[]⟩ w:=by
 obtain⟨f,rfl⟩:=ex124_7 hs
 have g1:f 1=u:=by simpa using h1
 have g2:f 2=ptr p1:=by simpa using h2
 have g5:f 5=vb:=by simpa using h5
 have g11:f 11=vo:=by simpa using h11
 have g14:f 14=.bool x:=by simpa using h14
 rw [g1,g2,g5,g11,g14] at *
 clear hs h1 h2 h5 h11 h14 g1 g2 g5 g11 g14
 have k39:=fun (w1:World) (n:Nx w w1)=>plan39_any d r vb plan w1 (hd.nx n) (hp.nx n) hl
 have k41:=fun (w1:World) (n:Nx w w1)=>air41_any d r u picks w1 (hd.nx n) hO (hu.nx n) hpx hpl
 have k40:=fun (va:Value) (w1:World) (n:Nx w w1) (ha:Sl w1 va 1 ((airP d picks).map one))=>broken40_any d r vb va plan (airP d picks) w1 (hd.nx n) hO hP hpl2 (hp.nx n) ha hl
 rw [hpF] at k39
 rw [hbr] at k40
 have c0:w.cell? ⟨p1,0,none⟩=some (r.h):=hB.at' 0 _ rfl
 have c1:w.cell? ⟨p1,1,none⟩=some (num d.soak):=hB.at' 1 _ rfl
 have c2:w.cell? ⟨p1,2,none⟩=some (num d.brittle):=hB.at' 2 _ rfl
 have c3:w.cell? ⟨p1,3,none⟩=some (num d.start.w):=hB.at' 3 _ rfl
 have c4:w.cell? ⟨p1,4,none⟩=some (num d.start.c):=hB.at' 4 _ rfl
 have c5:w.cell? ⟨p1,5,none⟩=some (num d.start.h):=hB.at' 5 _ rfl
 have c6:w.cell? ⟨p1,6,none⟩=some (r.s):=hB.at' 6 _ rfl
 have hBl:=hB.lt
 obtain⟨rh,rs⟩:=r
 obtain⟨ha,hcap,e1⟩:=hd.heats.cases
 obtain⟨sa,scap,e2⟩:=hd.steps.cases
 dsimp only at e1 e2
 rw [List.length_map] at e1 e2
 subst e1 e2
 obtain⟨ua,ucap,rfl⟩:=hu.cases
 obtain⟨pa,pcap,rfl⟩:=hp.cases
 rw [List.length_map] at *
 clear hB hd hO hu hpx hpl hp hpF hpl2 hP hbr
 simp only [x7_0,x7_1,x7_2,x7_4,x7_5,x7_6,x7_7,x7_9,x7_11,x7_13,x7_14,r7_3,r7_6,r7_11,b7,Try.f7,cL,cR,cB,cT]
 gi_upto_region 11 with fail
 refine wpIn_region_Zn (Nx w) 12 (by kernel_rfl) ?_
 obtain⟨Z,G,hN,hG,hG'⟩:=class_par (C:=Nx w) (x:=w) (Nx.refl _)
 have r0:=fun z=>((hG' z).cell (p:=⟨p1,0,none⟩) hBl).trans c0
 have r1:=fun z=>((hG' z).cell (p:=⟨p1,1,none⟩) hBl).trans c1
 have r2:=fun z=>((hG' z).cell (p:=⟨p1,2,none⟩) hBl).trans c2
 have r3:=fun z=>((hG' z).cell (p:=⟨p1,3,none⟩) hBl).trans c3
 have r4:=fun z=>((hG' z).cell (p:=⟨p1,4,none⟩) hBl).trans c4
 have r5:=fun z=>((hG' z).cell (p:=⟨p1,5,none⟩) hBl).trans c5
 have r6:=fun z=>((hG' z).cell (p:=⟨p1,6,none⟩) hBl).trans c6
 change Go.wpAnyZ _ _ _ _ _ _ _ _ 13 #[false,false,false,false,false,false,false,false,false,false,false,false,false] _ _
 obtain⟨n1,s1⟩:Nx w w.drew∧w.drew.heap.size=w.heap.size:=⟨Nx.drew (Nx.refl w),rfl⟩
 generalize w.drew=V at n1 s1 ⊢
 refine Go.zqE 0 hG (by kernel_rfl) (fun _ _ _ h=>by cases h.1) rfl ?_;intro o ho K hK;simp at ho;subst ho;gi_big_quiet_op;go_big_quiet_on
 refine Go.zqE 1 hG (by kernel_rfl) (fun _ _ _ h=>by cases h.1) rfl ?_;intro o ho K hK;simp at ho;subst ho;gi_big_quiet_op;go_big_quiet_on
 refine Go.zoE 2 (by kernel_rfl) rfl ?_ ?_;rotate_left;intro o ho K hK;simp at ho;subst ho
 gi_wp2_with (first | (gi_at_call 39;refine CallsIn.mono (k39 _ n1) ?_;rintro e w2 ⟨rfl,n2⟩) | gi_in)
 have n12:=n1.trans n2
 refine Go.zqE 3 hG (by kernel_rfl) (fun _ _ _ h=>by cases h.1) rfl ?_;intro o ho K hK;simp at ho;subst ho;gi_big_quiet_op;go_big_quiet_on
 refine Go.zqE 4 hG (by kernel_rfl) (fun _ _ _ h=>by cases h.1) rfl ?_;intro o ho K hK;simp at ho;subst ho;gi_big_quiet_op;go_big_quiet_on
 refine Go.zqE 5 hG (by kernel_rfl) (fun _ _ _ h=>by cases h.1) rfl ?_;intro o ho K hK;simp at ho;subst ho;gi_big_quiet_op;go_big_quiet_on
 refine Go.zqE 6 hG (by kernel_rfl) (fun _ _ _ h=>by cases h.1) rfl ?_;intro o ho K hK;simp at ho;subst ho;gi_big_quiet_op;go_big_quiet_on
 refine Go.zqE 7 hG (by kernel_rfl) (fun _ _ _ h=>by cases h.1) rfl ?_;intro o ho K hK;simp at ho;subst ho;gi_big_quiet_op;go_big_quiet_on
 refine Go.zqE 8 hG (by kernel_rfl) (fun _ _ _ h=>by cases h.1) rfl ?_;intro o ho K hK;simp at ho;subst ho;gi_big_quiet_op;go_big_quiet_on
 clear r0 r1 r2 r3 r4 r5 r6 hG hG' hN c0 c1 c2 c3 c4 c5 c6
 refine Go.zoE 9 (by kernel_rfl) rfl ?_ ?_;rotate_left;intro o ho K hK;simp at ho;subst ho
 gi_wp2_with (first | (gi_at_call 41;refine CallsIn.mono (k41 _ n12) ?_;rintro e w3 ⟨va,rfl,n3,sa⟩) | gi_in)
 have n13:=n12.trans n3
 refine Go.zoE 10 (by kernel_rfl) rfl ?_ ?_;rotate_left;intro o ho K hK;simp at ho;subst ho
 gi_wp2_with (first | (gi_at_call 40;refine CallsIn.mono (k40 _ _ n13 sa) ?_;rintro e w4 ⟨rfl,n4⟩) | gi_in)
 refine Go.zoE 11 (by kernel_rfl) rfl ?_ ?_;rotate_left;intro o ho K hK;simp at ho;subst ho
 gi_wp2_with fail
 refine Go.zoE 12 (by kernel_rfl) rfl ?_ ?_;rotate_left;intro o ho K hK;simp at ho;subst ho
 gi_wp2_with fail
 refine wpAnyZ_done (by kernel_rfl) (fun h=>absurd h (by decide)) ⟨rfl,?_⟩
 ·gi_wp2
  exact⟨⟨rfl,rfl,rfl,rfl,rfl⟩,n13.trans n4⟩
 all_goals (first | exact fun _=>n1 | exact fun _=>n12 | exact fun _=>n1.trans n2 | exact fun _=>(n1.trans n2).trans n3 | exact fun _=>n12.trans n3 | exact fun _=>(n12.trans n3).trans n4 | exact fun h=>absurd h (by decide))
def Qf7_13 (w:World) (vb:Value) (vo:Value) (x:Bool) (sp:List Int×Int×Bool×Int) (t:Array Value) (w' : World):Prop:=∃ v7,(t.size=124∧t[5]?=some (vb)∧t[11]?=some (vo)∧t[14]?=some (.bool x)∧t[16]?=some (v7)∧t[18]?=some (.bool sp.2.2.1)∧t[7]?=some (num sp.2.2.2))∧Nx w w'∧Sl w' v7 1 (sp.1.map one)
theorem f7_13 (d:Dry) (r:R2) (p1:Nat) (vb:Value) (vo:Value) (x:Bool) (plan:List Int) (sp:List Int×Int×Bool×Int) (t:Array Value) (hs:t.size=124) (h2:t[2]?=some (ptr p1)) (h5:t[5]?=some (vb)) (h11:t[11]?=some (vo)) (h14:t[14]?=some (.bool x)) (w:World) (hB:DBox w p1 d r) (hd:DrySl w d r) (hp:Sl w vb 1 (plan.map one)) (hl:plan.length≤1000000000) (hsp:spoilF d plan=sp) :
  x7_13.wpIn FW 0 Try.prog (fun e a w'=>e=.normal∧a.defers=[]∧Qf7_13 w vb vo x sp a.tmps w') ⟨t,[]⟩ w:=by
 obtain⟨f,rfl⟩:=ex124_7 hs
 have g2:f 2=ptr p1:=by simpa using h2
 have g5:f 5=vb:=by simpa using h5
 have g11:f 11=vo:=by simpa using h11
 have g14:f 14=.bool x:=by simpa using h14
 rw [g2,g5,g11,g14] at *
 clear hs h2 h5 h11 h14 g2 g5 g11 g14
 have k26:=spoil26_any d r vb plan w hd hp hl
 rw [hsp] at k26
 clear hsp
 have c0:w.cell? ⟨p1,0,none⟩=some (r.h):=hB.at' 0 _ rfl
 have c1:w.cell? ⟨p1,1,none⟩=some (num d.soak):=hB.at' 1 _ rfl
 have c2:w.cell? ⟨p1,2,none⟩=some (num d.brittle):=hB.at' 2 _ rfl
 have c3:w.cell? ⟨p1,3,none⟩=some (num d.start.w):=hB.at' 3 _ rfl
 have c4:w.cell? ⟨p1,4,none⟩=some (num d.start.c):=hB.at' 4 _ rfl
 have c5:w.cell? ⟨p1,5,none⟩=some (num d.start.h):=hB.at' 5 _ rfl
 have c6:w.cell? ⟨p1,6,none⟩=some (r.s):=hB.at' 6 _ rfl
 obtain⟨rh,rs⟩:=r
 obtain⟨ha,hcap,e1⟩:=hd.heats.cases
 obtain⟨sa,scap,e2⟩:=hd.steps.cases
 dsimp only at e1 e2
 rw [List.length_map] at e1 e2
 subst e1 e2
 obtain⟨pa,pcap,e3⟩:=hp.cases
 rw [List.length_map] at e3
 subst e3
 try dsimp only at *
 clear hB hd hp
 simp only [x7_0,x7_1,x7_2,x7_4,x7_5,x7_6,x7_7,x7_9,x7_11,x7_13,x7_14,r7_3,r7_6,r7_11,b7,Try.f7,cL,cR,cB,cT]
 gi_wp2_with (first | (gi_at_call 26;refine CallsIn.mono k26 ?_;rintro e w1 ⟨v7,rfl,n1,hrow⟩) | gi_in)
 exact⟨v7,⟨rfl,rfl,rfl,rfl,rfl,rfl,rfl⟩,n1,hrow⟩
theorem f7_14 (vb:Value) (vo:Value) (x:Bool) (la:Option Addr) (lc:Nat) (t:Array Value) (hs:t.size=124) (h5:t[5]?=some (vb)) (h11:t[11]?=some (vo)) (h14:t[14]?=some (.bool x)) (h16:t[16]?=some (.slice la 0 lc)) (h18:t[18]?=some (.bool false)) (h7:t[7]?=some (num 0)) (w:World)  :
  x7_14.wpIn FW 0 Try.prog (fun e a w'=>e=.normal∧a.defers=[]∧(a.tmps.size=124∧a.tmps[5]?=some (vb)∧a.tmps[11]?=some (vo)∧a.tmps[14]?=some (.bool x))∧w'=w) ⟨t,[]⟩ w:=by
 obtain⟨f,rfl⟩:=ex124_7 hs
 have g5:f 5=vb:=by simpa using h5
 have g11:f 11=vo:=by simpa using h11
 have g14:f 14=.bool x:=by simpa using h14
 have g16:f 16=.slice la 0 lc:=by simpa using h16
 have g18:f 18=.bool false:=by simpa using h18
 have g7:f 7=num 0:=by simpa using h7
 rw [g5,g11,g14,g16,g18,g7] at *
 clear hs h5 h11 h14 h16 h18 h7 g5 g11 g14 g16 g18 g7
 simp only [x7_0,x7_1,x7_2,x7_4,x7_5,x7_6,x7_7,x7_9,x7_11,x7_13,x7_14,r7_3,r7_6,r7_11,b7,Try.f7,cL,cR,cB,cT]
 gi_wp2
end Go.Proofs.Ytedomogjmhommaa
namespace Go.Con
open Go.RowKit Go.Conc
section
variable [Lone]
variable {P:Program} {maps:Bool} {E Fz Arg:Nat→Prop} {W0:World} {f:FuncId} {t:Array Value} {k:List Item} {cs:List Frame} {W:World}
variable {Q:(Nat→Prop)→(Nat→Prop)→Goroutine→World→Prop} {φ:Ph} {pend:List Nat}
theorem Gm.pass {ops:Array Oper} {i:Nat} {rest:List Nat} {o:Oper} (ho:ops[i]?=some o) (hw:Region.wanted o (yielded ops t)=false) (hop:okOp P maps o.op=true) (hv:okVal P (Fr f t []).eval o.op=true)
  (hg:GoM P maps E Fz Arg W0 Q φ pend (Fr f (putD t o.dst undef) (.inRegion ops rest :: k)) cs W):GoM P maps E Fz Arg W0 Q φ pend (Fr f t (.inRegion ops (i :: rest) :: k)) cs W:=by
 have he:(Fr f t (.inRegion ops (i :: rest) :: k)).eval=(Fr f t []).eval:=funext fun x=>by cases x<;>rfl
 refine GoM.step (srh_op rfl rfl ho hop (by rw [he];exact hv)) ⟨fun it t' e=>?_,.inl rfl,fun d hdm=>(List.not_mem_nil hdm).elim,.inl rfl⟩ fun τ hτ=>?_
 ·cases e
  simp only [okItem1,ho,Option.all_some]
  exact hop
 ·refine⟨(Fr f t (.inRegion ops (i :: rest) :: k)).finish undef,cs,{ W with tape:=τ },?_,id,?_⟩
  ·unfold frameSem
   dsimp only
   unfold runSem
   dsimp only
   rw [ho]
   simp only [Option.map_some,Option.getD_some,hw]
   rfl
  ·rw [Fr_finish ho]
   exact Gm.tape hg
end
end Go.Con
namespace Go.Proofs.Ytedomogjmhommaa
open Go.RowKit Go.Con Go.Conc
local instance dryI98:Lone:=dryL
theorem wanted_not {ops:Array Oper} {o:Oper} {i d:Nat} {b:Bool} {t:Array Value} (hg:o.guard=some (i,b)) (hd:(ops[i]?).bind (·.dst)=some d) (hv:t[d]?=some (.bool (!b))):Region.wanted o (yielded ops t)=false:=by
 unfold Region.wanted yielded
 cases b<;>simp_all
section
variable {dst:Option Nat} {ty:TypeId} {pos:String} {af:Array Edge} {gd:Option (Nat×Bool)} {x y:Nat}
end
end Go.Proofs.Ytedomogjmhommaa
namespace Go.Proofs.Ytedomogjmhommaa
open Go.RowKit Go.Con Go.Conc Go.Shelf
local instance dryI112:Lone:=dryL
noncomputable def b42:Code:=match Try.f42.body with | some c=>c | none=>.skip
theorem body42_of:Try.f42.body=some b42:=by kernel_rfl
section
variable {dst:Option Nat} {ty:TypeId} {pos:String} {af:Array Edge} {gd:Option (Nat×Bool)} {x y:Nat}
theorem eqKt_run (e:Operand→Value) {w:World} {n:Int} (h:e (.tmp x)=num n) (hc:e (.const (num n))=num n) (τ:Tape):(execOp e ⟨dst,.binOp .eql 3 (.tmp x) (.const (num n)) 3,ty,pos,af,gd⟩).run Try.prog { w with tape:=τ }=.ok (.value (.bool true)) { w with tape:=τ }:=by
 simp [execOp,go_sem,h,hc]
theorem len38_run (e:Operand→Value) {w:World} {a:Option Addr} {n k:Nat} (h:e (.tmp x)=.slice a n k) (τ:Tape):(execOp e ⟨dst,.call { callee:=.builtin .len,args:=#[.tmp x],argTypes:=#[38] },ty,pos,af,gd⟩).run Try.prog { w with tape:=τ }=.ok (.value (num n)) { w with tape:=τ }:=by
 simp [execOp,resolve,invoke,builtin,go_sem,h,Try.underlying38]
theorem notF_run (e:Operand→Value) {w:World} (h:e (.tmp x)=.bool false) (τ:Tape):(execOp e ⟨dst,.unOp .not 4 (.tmp x),ty,pos,af,gd⟩).run Try.prog { w with tape:=τ }=.ok (.value (.bool true)) { w with tape:=τ }:=by
 simp [execOp,go_sem,h]
theorem pickTt_run (e:Operand→Value) {w:World} {c:Value} (h:e (.tmp x)=.bool true) (hc:e (.const c)=c) (τ:Tape):(execOp e ⟨dst,.pick (.tmp x) (.const c) (.tmp y),ty,pos,af,gd⟩).run Try.prog { w with tape:=τ }=.ok (.value c) { w with tape:=τ }:=by
 simp [execOp,go_sem,h,hc]
theorem pickTf_run (e:Operand→Value) {w:World} {v c:Value} (h:e (.tmp x)=.bool false) (h2:e (.tmp y)=v) (τ:Tape):(execOp e ⟨dst,.pick (.tmp x) (.const c) (.tmp y),ty,pos,af,gd⟩).run Try.prog { w with tape:=τ }=.ok (.value v) { w with tape:=τ }:=by
 simp [execOp,go_sem,h,h2]
end
end Go.Proofs.Ytedomogjmhommaa
