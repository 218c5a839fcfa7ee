import Derived.Test.YtedomogjmhommaaR02
set_option linter.all false
set_option maxRecDepth 100000
set_option maxHeartbeats 8000000
namespace Go.Proofs.Ytedomogjmhommaa
open Go.RowKit Go.Con Go.Conc
noncomputable def b8:Code:=match Try.f8.body with | some c=>c | none=>.skip
noncomputable def x8_0:Code:=cL b8
noncomputable def x8_1:Code:=cL (cL (cR b8))
noncomputable def x8_2:Code:=cL (cT (cR (cL (cR b8))))
noncomputable def r8_3:Code:=cR (cR b8)
noncomputable def x8_3:Code:=cL r8_3
noncomputable def x8_4:Code:=cL (cR r8_3)
noncomputable def x8_5:Code:=cL (cR (cR r8_3))
noncomputable def r8_6:Code:=cR (cR (cR r8_3))
noncomputable def x8_6:Code:=cL r8_6
noncomputable def x8_7:Code:=cL (cR r8_6)
noncomputable def x8_9:Code:=cL (cR (cR r8_6))
noncomputable def r8_13:Code:=cR (cR (cR r8_6))
noncomputable def x8_13:Code:=cL (cL r8_13)
noncomputable def x8_14:Code:=cL (cT (cR (cL r8_13)))
noncomputable def x8_15:Code:=cL (cR r8_13)
noncomputable def x8_16:Code:=cL (cR (cR r8_13))
noncomputable def x8_17:Code:=cL (cR (cR (cR r8_13)))
noncomputable def x8_18:Code:=cL (cR (cR (cR (cR r8_13))))
theorem b8_eq:b8=.seq x8_0 (.seq (.seq x8_1 (.cond (.tmp 30) (.seq x8_2 .ret) .skip)) (.seq x8_3 (.seq x8_4 (.seq x8_5 (.seq x8_6 (.seq x8_7 (.seq x8_9 (.seq (.seq x8_13 (.cond (.tmp 93) (.seq x8_14 .ret) .skip)) (.seq x8_15 (.seq x8_16 (.seq x8_17 (.seq x8_18 .ret)))))))))))):=by kernel_rfl
theorem ex133_8 {t:Array Value} (h:t.size=133):∃ f:Nat→Value,t=#[f 0,f 1,f 2,f 3,f 4,f 5,f 6,f 7,f 8,f 9,f 10,f 11,f 12,f 13,f 14,f 15,f 16,f 17,f 18,f 19,f 20,f 21,f 22,f 23,f 24,f 25,f 26,f 27,f 28,f 29,f 30,f 31,f 32,f 33,f 34,f 35,f 36,f 37,f 38,f 39,f 40,f 41,f 42,f 43,f 44,f 45,f 46,f 47,f 48,f 49,f 50,f 51,f 52,f 53,f 54,f 55,f 56,f 57,f 58,f 59,f 60,f 61,f 62,f 63,f 64,f 65,f 66,f 67,f 68,f 69,f 70,f 71,f 72,f 73,f 74,f 75,f 76,f 77,f 78,f 79,f 80,f 81,f 82,f 83,f 84,f 85,f 86,f 87,f 88,f 89,f 90,f 91,f 92,f 93,f 94,f 95,f 96,f 97,f 98,f 99,f 100,f 101,f 102,f 103,f 104,f 105,f 106,f 107,f 108,f 109,f 110,f 111,f 112,f 113,f 114,f 115,f 116,f 117,f 118,f 119,f 120,f 121,f 122,f 123,f 124,f 125,f 126,f 127,f 128,f 129,f 130,f 131,f 132]:=by
 obtain⟨f,rfl⟩:=exN 133 h
 exact⟨f,by kernel_rfl⟩
theorem f8_0 (d:Dry) (ha sa:Option Addr) (hn hcap sn scap:Nat) (u:Value) (s:St) (at1:Int) (t:Array Value) (hs:t.size=133) (h0:t[0]?=some (d.val ⟨.slice ha hn hcap,.slice sa sn scap⟩)) (h1:t[1]?=some (u)) (h2:t[2]?=some (s.val)) (h3:t[3]?=some (.int .u8 at1)) (w:World)  :
  x8_0.wpIn FW 0 Try.prog (fun e a w'=>e=.normal∧a.defers=[]∧(a.tmps.size=133∧a.tmps[1]?=some (u)∧a.tmps[3]?=some (.int .u8 at1)∧a.tmps[4]?=some (ptr w.heap.size)∧a.tmps[6]?=some (ptr (w.heap.size+1)))∧w'=(w.alloc (.cells (d.cellsA ⟨.slice ha hn hcap,.slice sa sn scap⟩) 27)).alloc (.cells #[num s.w,num s.c,num s.h] 24)) ⟨t,[]⟩ w:=by
 obtain⟨f,rfl⟩:=ex133_8 hs
 have g0:f 0=d.val ⟨.slice ha hn hcap,.slice sa sn scap⟩:=by simpa using h0
 have g1:f 1=u:=by simpa using h1
 have g2:f 2=s.val:=by simpa using h2
 have g3:f 3=.int .u8 at1:=by simpa using h3
 rw [g0,g1,g2,g3] at *
 clear hs h0 h1 h2 h3 g0 g1 g2 g3
 simp only [x8_0,x8_1,x8_3,x8_4,x8_5,x8_7,x8_9,x8_13,x8_15,x8_16,x8_17,r8_3,r8_6,r8_13,b8,Try.f8,cL,cR,cB,cT]
 gi_wp2
def Qf8_1 (w:World) (p1:Nat) (p2:Nat) (u:Value) (at1:Int) (b:Bool) (t:Array Value) (w' : World):Prop:=(t.size=133∧t[1]?=some (u)∧t[3]?=some (.int .u8 at1)∧t[4]?=some (ptr p1)∧t[6]?=some (ptr p2)∧t[30]?=some (.bool b))∧Nx w w'
theorem f8_1 (d:Dry) (r:R2) (p1:Nat) (p2:Nat) (u:Value) (at1:Int) (t:Array Value) (hs:t.size=133) (h1:t[1]?=some (u)) (h3:t[3]?=some (.int .u8 at1)) (h4:t[4]?=some (ptr p1)) (h6:t[6]?=some (ptr p2)) (w:World) (hB:DBox w p1 d r) (hh:Sl w r.h 2 (d.heats.map two)) (hst:Sl w r.s 6 (d.steps.map Stp.cells)) (hl:d.heats.length≤140737488355328) (sl:d.steps.length≤140737488355328) :
  x8_1.wpIn FW 0 Try.prog (fun e a w'=>e=.normal∧a.defers=[]∧Qf8_1 w p1 p2 u at1 (out11 d) a.tmps w') ⟨t,[]⟩ w:=by
 obtain⟨f,rfl⟩:=ex133_8 hs
 have g1:f 1=u:=by simpa using h1
 have g3:f 3=.int .u8 at1:=by simpa using h3
 have g4:f 4=ptr p1:=by simpa using h4
 have g6:f 6=ptr p2:=by simpa using h6
 rw [g1,g3,g4,g6] at *
 clear hs h1 h3 h4 h6 g1 g3 g4 g6
 have k16:=great16_big d r w hh hst hl sl
 have c0:w.cell? ⟨p1,0,none⟩=some (r.h):=hB.at' 0 _ rfl
 have c1:w.cell? ⟨p1,1,none⟩=some (num d.soak):=hB.at' 1 _ rfl
 have c2:w.cell? ⟨p1,2,none⟩=some (num d.brittle):=hB.at' 2 _ rfl
 have c3:w.cell? ⟨p1,3,none⟩=some (num d.start.w):=hB.at' 3 _ rfl
 have c4:w.cell? ⟨p1,4,none⟩=some (num d.start.c):=hB.at' 4 _ rfl
 have c5:w.cell? ⟨p1,5,none⟩=some (num d.start.h):=hB.at' 5 _ rfl
 have c6:w.cell? ⟨p1,6,none⟩=some (r.s):=hB.at' 6 _ rfl
 by_cases hg:greatD d=true
 ·have ho:out11 d=true:=by simp [out11,hg]
  rw [hg] at k16
  rw [ho]
  clear hB hh hst hl sl hg ho
  simp only [x8_0,x8_1,x8_3,x8_4,x8_5,x8_7,x8_9,x8_13,x8_15,x8_16,x8_17,r8_3,r8_6,r8_13,b8,Try.f8,cL,cR,cB,cT]
  gi_wp2_with (first | (gi_at_call 16;refine CallsIn.mono k16 ?_;rintro e w1 ⟨rfl,n1⟩) | gi_in)
  exact⟨⟨rfl,rfl,rfl,rfl,rfl,rfl⟩,n1⟩
 ·have hd:DrySl w d r:=⟨hh,hst,by simp [greatD] at hg;omega,by simp [greatD] at hg;omega⟩
  have hgf:greatD d=false:=by simpa using hg
  rw [hgf] at k16
  obtain⟨rh,rs⟩:=r
  obtain⟨ha,hcap,e1⟩:=hd.heats.cases
  obtain⟨sa,scap,e2⟩:=hd.steps.cases
  dsimp only at e1 e2
  rw [List.length_map] at e1 e2
  subst e1 e2
  have kc:=fun (w1:World) (n:Nx w w1)=>(⟨(OldC.nx n).at c0,(OldC.nx n).at c1,(OldC.nx n).at c2,(OldC.nx n).at c3,(OldC.nx n).at c4,(OldC.nx n).at c5,(OldC.nx n).at c6⟩:_∧_∧_∧_∧_∧_∧_)
  dsimp only at kc
  have k33:=fun (w1:World) (n:Nx w w1)=>check33_any d _ w1 (hd.nx n)
  obtain⟨ov,hov⟩:∃ o,out11 d=o:=⟨_,rfl⟩
  rw [hov]
  unfold out11 at hov
  rw [hgf] at hov
  generalize dryF d=f1 at *
  clear hB hh hst hl sl hg hd hgf
  by_cases h1:f1=0
  ·subst h1
   have ho:ov=false:=by rw [← hov];simp
   rw [ho]
   clear hov ho
   simp only [x8_0,x8_1,x8_3,x8_4,x8_5,x8_7,x8_9,x8_13,x8_15,x8_16,x8_17,r8_3,r8_6,r8_13,b8,Try.f8,cL,cR,cB,cT]
   gi_wp2_with (first | (gi_at_call 16;refine CallsIn.mono k16 ?_;rintro e w1 ⟨rfl,n1⟩;clear c0 c1 c2 c3 c4 c5 c6;obtain⟨c0,c1,c2,c3,c4,c5,c6⟩:=kc _ n1) | (gi_at_call 33;refine CallsIn.mono (k33 _ n1) ?_;rintro e w2 ⟨rfl,n2'⟩;have n2:=n1.trans n2') | gi_in)
   exact⟨⟨rfl,rfl,rfl,rfl,rfl,rfl⟩,n2⟩
  ·have ho:ov=true:=by rw [← hov];simp [h1]
   rw [ho]
   have b1:(f1 != 0)=true:=by simpa using h1
   clear hov ho h1
   simp only [x8_0,x8_1,x8_3,x8_4,x8_5,x8_7,x8_9,x8_13,x8_15,x8_16,x8_17,r8_3,r8_6,r8_13,b8,Try.f8,cL,cR,cB,cT]
   gi_wp2_with (first | (gi_at_call 16;refine CallsIn.mono k16 ?_;rintro e w1 ⟨rfl,n1⟩;clear c0 c1 c2 c3 c4 c5 c6;obtain⟨c0,c1,c2,c3,c4,c5,c6⟩:=kc _ n1) | (gi_at_call 33;refine CallsIn.mono (k33 _ n1) ?_;rintro e w2 ⟨rfl,n2'⟩;have n2:=n1.trans n2') | gi_in)
   exact⟨⟨rfl,rfl,rfl,rfl,rfl,rfl⟩,n2⟩
def Qf8_3 (w:World) (p1 p2:Nat) (at1:Int) (o:Dry) (rh:Value) (t:Array Value) (w' : World):Prop:=∃ po vs,(t.size=133∧t[3]?=some (.int .u8 at1)∧t[4]?=some (ptr p1)∧t[6]?=some (ptr p2)∧t[9]?=some (ptr po))∧Nx w w'∧DBox w' po o ⟨rh,vs⟩∧Sl w' vs 6 (o.steps.map Stp.cells)
theorem f8_3 (d:Dry) (r:R2) (p1 p2:Nat) (u:Value) (at1:Int) (t:Array Value) (hs:t.size=133) (h1:t[1]?=some (u)) (h3:t[3]?=some (.int .u8 at1)) (h4:t[4]?=some (ptr p1)) (h6:t[6]?=some (ptr p2)) (w:World) (hB:DBox w p1 d r) (hd:DrySl w d r) (hO:d.Ok) (picks:List Int) (hu:Sl w u 1 (picks.map fun x=>[u16 x])) (hpx:∀ x∈picks,0≤x∧x≤65535) (hpl:picks.length≤140737488355328) :
  x8_3.wpIn FW 0 Try.prog (fun e a w'=>e=.normal∧a.defers=[]∧Qf8_3 w p1 p2 at1 (easP d picks) r.h a.tmps w') ⟨t,[]⟩ w:=by
 obtain⟨f,rfl⟩:=ex133_8 hs
 have g1:f 1=u:=by simpa using h1
 have g3:f 3=.int .u8 at1:=by simpa using h3
 have g4:f 4=ptr p1:=by simpa using h4
 have g6:f 6=ptr p2:=by simpa using h6
 rw [g1,g3,g4,g6] at *
 clear hs h1 h3 h4 h6 g1 g3 g4 g6
 have k43:=easier43_any d r u picks w hd hO hu hpx hpl
 have c0:w.cell? ⟨p1,0,none⟩=some (r.h):=hB.at' 0 _ rfl
 have c1:w.cell? ⟨p1,1,none⟩=some (num d.soak):=hB.at' 1 _ rfl
 have c2:w.cell? ⟨p1,2,none⟩=some (num d.brittle):=hB.at' 2 _ rfl
 have c3:w.cell? ⟨p1,3,none⟩=some (num d.start.w):=hB.at' 3 _ rfl
 have c4:w.cell? ⟨p1,4,none⟩=some (num d.start.c):=hB.at' 4 _ rfl
 have c5:w.cell? ⟨p1,5,none⟩=some (num d.start.h):=hB.at' 5 _ rfl
 have c6:w.cell? ⟨p1,6,none⟩=some (r.s):=hB.at' 6 _ rfl
 obtain⟨rh,rs⟩:=r
 obtain⟨ha,hcap,e1⟩:=hd.heats.cases
 obtain⟨sa,scap,e2⟩:=hd.steps.cases
 dsimp only at e1 e2
 rw [List.length_map] at e1 e2
 subst e1 e2
 have k43' : CallsIn FW 0 Try.prog 43 #[d.val ⟨.slice ha d.heats.length hcap,.slice sa d.steps.length scap⟩,u] w fun e w'=>∃ v,e=.returned (.agg #[.slice ha d.heats.length hcap,num d.soak,num d.brittle,num d.start.w,num d.start.c,num d.start.h,v])∧Nx w w'∧Sl w' v 6 ((easP d picks).steps.map Stp.cells):=k43
 try dsimp only at c0 c1 c2 c3 c4 c5 c6
 clear hB hd hO hu hpx hpl k43
 simp only [x8_0,x8_1,x8_3,x8_4,x8_5,x8_7,x8_9,x8_13,x8_15,x8_16,x8_17,r8_3,r8_6,r8_13,b8,Try.f8,cL,cR,cB,cT]
 gi_wp2_with (first | (gi_at_call 43;refine CallsIn.mono k43' ?_;rintro e w1 ⟨vs,rfl,n1,hs⟩;obtain⟨va,vc,hv⟩:=hs.cases;rw [List.length_map] at hv;subst hv;have y1:=(al1 (w:=w1) (o1:=.cells #[.slice none 0 0,num 0,num 0,num 0,num 0,num 0,.slice none 0 0] 27 (0,0)) rfl).2.2;have r0:=row_cell (i:=0) y1 rfl;have z0:=row_frozen (i:=0) y1;have r1:=row_cell (i:=1) y1 rfl;have z1:=row_frozen (i:=1) y1;have r2:=row_cell (i:=2) y1 rfl;have z2:=row_frozen (i:=2) y1;have r3:=row_cell (i:=3) y1 rfl;have z3:=row_frozen (i:=3) y1;have r4:=row_cell (i:=4) y1 rfl;have z4:=row_frozen (i:=4) y1;have r5:=row_cell (i:=5) y1 rfl;have z5:=row_frozen (i:=5) y1;have r6:=row_cell (i:=6) y1 rfl;have z6:=row_frozen (i:=6) y1) | gi_in)
 exact⟨_,_,⟨rfl,rfl,rfl,rfl,rfl⟩,alloc_nx n1 _,⟨by simp,fun i v hv=>row_cell (al1 rfl).2.2 hv⟩,hs.nx (alloc_nx (Nx.refl w1) _)⟩
def Qf8_4 (w:World) (p1 p2 po:Nat) (at1:Int) (sf:List (List St)×Bool×Int) (t:Array Value) (w' : World):Prop:=(t.size=133∧t[3]?=some (.int .u8 at1)∧t[4]?=some (ptr p1)∧t[6]?=some (ptr p2)∧t[9]?=some (ptr po)∧t[11]?=some (.bool sf.2.1)∧t[12]?=some (num sf.2.2))∧Nx w w'
theorem f8_4 (d:Dry) (r:R2) (p1 p2 po:Nat) (at1:Int) (sf:List (List St)×Bool×Int) (t:Array Value) (hs:t.size=133) (h3:t[3]?=some (.int .u8 at1)) (h4:t[4]?=some (ptr p1)) (h6:t[6]?=some (ptr p2)) (h9:t[9]?=some (ptr po)) (w:World) (hB:DBox w p1 d r) (hd:DrySl w d r) (hsf:safeF d=sf) :
  x8_4.wpIn FW 0 Try.prog (fun e a w'=>e=.normal∧a.defers=[]∧Qf8_4 w p1 p2 po at1 sf a.tmps w') ⟨t,[]⟩ w:=by
 obtain⟨f,rfl⟩:=ex133_8 hs
 have g3:f 3=.int .u8 at1:=by simpa using h3
 have g4:f 4=ptr p1:=by simpa using h4
 have g6:f 6=ptr p2:=by simpa using h6
 have g9:f 9=ptr po:=by simpa using h9
 rw [g3,g4,g6,g9] at *
 clear hs h3 h4 h6 h9 g3 g4 g6 g9
 have k20:=safe20_any d r w hd
 rw [hsf] at k20
 clear hsf
 have c0:w.cell? ⟨p1,0,none⟩=some (r.h):=hB.at' 0 _ rfl
 have c1:w.cell? ⟨p1,1,none⟩=some (num d.soak):=hB.at' 1 _ rfl
 have c2:w.cell? ⟨p1,2,none⟩=some (num d.brittle):=hB.at' 2 _ rfl
 have c3:w.cell? ⟨p1,3,none⟩=some (num d.start.w):=hB.at' 3 _ rfl
 have c4:w.cell? ⟨p1,4,none⟩=some (num d.start.c):=hB.at' 4 _ rfl
 have c5:w.cell? ⟨p1,5,none⟩=some (num d.start.h):=hB.at' 5 _ rfl
 have c6:w.cell? ⟨p1,6,none⟩=some (r.s):=hB.at' 6 _ rfl
 obtain⟨rh,rs⟩:=r
 obtain⟨ha,hcap,e1⟩:=hd.heats.cases
 obtain⟨sa,scap,e2⟩:=hd.steps.cases
 dsimp only at e1 e2
 rw [List.length_map] at e1 e2
 subst e1 e2
 try dsimp only at *
 clear hB hd
 simp only [x8_0,x8_1,x8_3,x8_4,x8_5,x8_7,x8_9,x8_13,x8_15,x8_16,x8_17,r8_3,r8_6,r8_13,b8,Try.f8,cL,cR,cB,cT]
 gi_wp2_with (first | (gi_at_call 20;refine CallsIn.mono k20 ?_;rintro e w1 ⟨v,rfl,n1,_⟩) | gi_in)
 exact⟨⟨rfl,rfl,rfl,rfl,rfl,rfl,rfl⟩,n1⟩
def Qf8_5 (w:World) (p1 p2 po:Nat) (at1:Int) (a1:Bool) (sf:List (List St)×Bool×Int) (t:Array Value) (w' : World):Prop:=(t.size=133∧t[3]?=some (.int .u8 at1)∧t[4]?=some (ptr p1)∧t[6]?=some (ptr p2)∧t[9]?=some (ptr po)∧t[11]?=some (.bool a1)∧t[12]?=some (num 0)∧t[14]?=some (.bool sf.2.1)∧t[15]?=some (num sf.2.2))∧Nx w w'
theorem f8_5 (d:Dry) (r:R2) (p1 p2 po:Nat) (at1:Int) (a1:Bool) (sf:List (List St)×Bool×Int) (t:Array Value) (hs:t.size=133) (h3:t[3]?=some (.int .u8 at1)) (h4:t[4]?=some (ptr p1)) (h6:t[6]?=some (ptr p2)) (h9:t[9]?=some (ptr po)) (h11:t[11]?=some (.bool a1)) (h12:t[12]?=some (num 0)) (w:World) (hB:DBox w po d r) (hd:DrySl w d r) (hsf:safeF d=sf) :
  x8_5.wpIn FW 0 Try.prog (fun e a w'=>e=.normal∧a.defers=[]∧Qf8_5 w p1 p2 po at1 a1 sf a.tmps w') ⟨t,[]⟩ w:=by
 obtain⟨f,rfl⟩:=ex133_8 hs
 have g3:f 3=.int .u8 at1:=by simpa using h3
 have g4:f 4=ptr p1:=by simpa using h4
 have g6:f 6=ptr p2:=by simpa using h6
 have g9:f 9=ptr po:=by simpa using h9
 have g11:f 11=.bool a1:=by simpa using h11
 have g12:f 12=num 0:=by simpa using h12
 rw [g3,g4,g6,g9,g11,g12] at *
 clear hs h3 h4 h6 h9 h11 h12 g3 g4 g6 g9 g11 g12
 have k20:=safe20_any d r w hd
 rw [hsf] at k20
 clear hsf
 have c0:w.cell? ⟨po,0,none⟩=some (r.h):=hB.at' 0 _ rfl
 have c1:w.cell? ⟨po,1,none⟩=some (num d.soak):=hB.at' 1 _ rfl
 have c2:w.cell? ⟨po,2,none⟩=some (num d.brittle):=hB.at' 2 _ rfl
 have c3:w.cell? ⟨po,3,none⟩=some (num d.start.w):=hB.at' 3 _ rfl
 have c4:w.cell? ⟨po,4,none⟩=some (num d.start.c):=hB.at' 4 _ rfl
 have c5:w.cell? ⟨po,5,none⟩=some (num d.start.h):=hB.at' 5 _ rfl
 have c6:w.cell? ⟨po,6,none⟩=some (r.s):=hB.at' 6 _ rfl
 obtain⟨rh,rs⟩:=r
 obtain⟨ha,hcap,e1⟩:=hd.heats.cases
 obtain⟨sa,scap,e2⟩:=hd.steps.cases
 dsimp only at e1 e2
 rw [List.length_map] at e1 e2
 subst e1 e2
 try dsimp only at *
 clear hB hd
 simp only [x8_0,x8_1,x8_3,x8_4,x8_5,x8_7,x8_9,x8_13,x8_15,x8_16,x8_17,r8_3,r8_6,r8_13,b8,Try.f8,cL,cR,cB,cT]
 gi_wp2_with (first | (gi_at_call 20;refine CallsIn.mono k20 ?_;rintro e w1 ⟨v,rfl,n1,_⟩) | gi_in)
 exact⟨⟨rfl,rfl,rfl,rfl,rfl,rfl,rfl,rfl,rfl⟩,n1⟩
theorem f8_7 (p1 p2 po:Nat) (at1:Int) (vb:Value) (a1 b1 c:Bool) (t:Array Value) (hs:t.size=133) (h3:t[3]?=some (.int .u8 at1)) (h4:t[4]?=some (ptr p1)) (h6:t[6]?=some (ptr p2)) (h9:t[9]?=some (ptr po)) (h11:t[11]?=some (.bool a1)) (h12:t[12]?=some (num 0)) (h14:t[14]?=some (.bool b1)) (h15:t[15]?=some (num 0)) (h16:t[16]?=some (vb)) (h17:t[17]?=some (.bool c)) (h18:t[18]?=some (num 0)) (w:World) (hab:a1=true→b1=true) :
  x8_7.wpIn FW 0 Try.prog (fun e a w'=>e=.normal∧a.defers=[]∧(a.tmps.size=133∧a.tmps[3]?=some (.int .u8 at1)∧a.tmps[4]?=some (ptr p1)∧a.tmps[6]?=some (ptr p2)∧a.tmps[9]?=some (ptr po)∧a.tmps[16]?=some (vb)∧a.tmps[17]?=some (.bool c))∧w'=w) ⟨t,[]⟩ w:=by
 obtain⟨f,rfl⟩:=ex133_8 hs
 have g3:f 3=.int .u8 at1:=by simpa using h3
 have g4:f 4=ptr p1:=by simpa using h4
 have g6:f 6=ptr p2:=by simpa using h6
 have g9:f 9=ptr po:=by simpa using h9
 have g11:f 11=.bool a1:=by simpa using h11
 have g12:f 12=num 0:=by simpa using h12
 have g14:f 14=.bool b1:=by simpa using h14
 have g15:f 15=num 0:=by simpa using h15
 have g16:f 16=vb:=by simpa using h16
 have g17:f 17=.bool c:=by simpa using h17
 have g18:f 18=num 0:=by simpa using h18
 rw [g3,g4,g6,g9,g11,g12,g14,g15,g16,g17,g18] at *
 clear hs h3 h4 h6 h9 h11 h12 h14 h15 h16 h17 h18 g3 g4 g6 g9 g11 g12 g14 g15 g16 g17 g18
 cases a1 with
 | true =>
  have e:=hab rfl
  subst e
  clear hab
  simp only [x8_0,x8_1,x8_3,x8_4,x8_5,x8_7,x8_9,x8_13,x8_15,x8_16,x8_17,r8_3,r8_6,r8_13,b8,Try.f8,cL,cR,cB,cT]
  gi_wp2
 | false =>
  clear hab
  simp only [x8_0,x8_1,x8_3,x8_4,x8_5,x8_7,x8_9,x8_13,x8_15,x8_16,x8_17,r8_3,r8_6,r8_13,b8,Try.f8,cL,cR,cB,cT]
  gi_wp2
def Qf8_9 (w:World) (p1 p2 po:Nat) (at1:Int) (t:Array Value) (w' : World):Prop:=(t.size=133∧t[3]?=some (.int .u8 at1)∧t[4]?=some (ptr p1)∧t[6]?=some (ptr p2)∧t[9]?=some (ptr po))∧Nx w w'
theorem f8_9 (d:Dry) (r:R2) (p1 p2 po:Nat) (at1:Int) (vb:Value) (c:Bool) (plan:List Int) (t:Array Value) (hs:t.size=133) (h3:t[3]?=some (.int .u8 at1)) (h4:t[4]?=some (ptr p1)) (h6:t[6]?=some (ptr p2)) (h9:t[9]?=some (ptr po)) (h16:t[16]?=some (vb)) (h17:t[17]?=some (.bool c)) (w:World) (hB:DBox w po d r) (hd:DrySl w d r) (hp:Sl w vb 1 (plan.map one)) (hl:plan.length≤1000000000) (hsp:c=true→spoilF d plan=([],0,false,0)) :
  x8_9.wpIn FW 0 Try.prog (fun e a w'=>e=.normal∧a.defers=[]∧Qf8_9 w p1 p2 po at1 a.tmps w') ⟨t,[]⟩ w:=by
 obtain⟨f,rfl⟩:=ex133_8 hs
 have g3:f 3=.int .u8 at1:=by simpa using h3
 have g4:f 4=ptr p1:=by simpa using h4
 have g6:f 6=ptr p2:=by simpa using h6
 have g9:f 9=ptr po:=by simpa using h9
 have g16:f 16=vb:=by simpa using h16
 have g17:f 17=.bool c:=by simpa using h17
 rw [g3,g4,g6,g9,g16,g17] at *
 clear hs h3 h4 h6 h9 h16 h17 g3 g4 g6 g9 g16 g17
 cases c with
 | false =>
  clear hsp hB hd hp hl
  simp only [x8_0,x8_1,x8_3,x8_4,x8_5,x8_7,x8_9,x8_13,x8_15,x8_16,x8_17,r8_3,r8_6,r8_13,b8,Try.f8,cL,cR,cB,cT]
  gi_wp2
  exact⟨⟨rfl,rfl,rfl,rfl,rfl⟩,Nx.refl w⟩
 | true =>
  have hsp:=hsp rfl
  have k26:=spoil26_any d r vb plan w hd hp hl
  rw [hsp] at k26
  clear hsp
  have c0:w.cell? ⟨po,0,none⟩=some (r.h):=hB.at' 0 _ rfl
  have c1:w.cell? ⟨po,1,none⟩=some (num d.soak):=hB.at' 1 _ rfl
  have c2:w.cell? ⟨po,2,none⟩=some (num d.brittle):=hB.at' 2 _ rfl
  have c3:w.cell? ⟨po,3,none⟩=some (num d.start.w):=hB.at' 3 _ rfl
  have c4:w.cell? ⟨po,4,none⟩=some (num d.start.c):=hB.at' 4 _ rfl
  have c5:w.cell? ⟨po,5,none⟩=some (num d.start.h):=hB.at' 5 _ rfl
  have c6:w.cell? ⟨po,6,none⟩=some (r.s):=hB.at' 6 _ rfl
  obtain⟨rh,rs⟩:=r
  obtain⟨ha,hcap,e1⟩:=hd.heats.cases
  obtain⟨sa,scap,e2⟩:=hd.steps.cases
  dsimp only at e1 e2
  rw [List.length_map] at e1 e2
  subst e1 e2
  obtain⟨pa,pcap,e3⟩:=hp.cases
  rw [List.length_map] at e3
  subst e3
  try dsimp only at *
  clear hB hd hp
  simp only [x8_0,x8_1,x8_3,x8_4,x8_5,x8_7,x8_9,x8_13,x8_15,x8_16,x8_17,r8_3,r8_6,r8_13,b8,Try.f8,cL,cR,cB,cT]
  gi_wp2_with (first | (gi_at_call 26;refine CallsIn.mono k26 ?_;rintro e w1 ⟨v7,rfl,n1,hrow⟩) | gi_in)
  exact⟨⟨rfl,rfl,rfl,rfl,rfl⟩,n1⟩
def out8 (d:Dry) (s:St):Bool:=decide (d.steps.length=0) || decide (stF d s≠0)
def Qf8_13 (w:World) (p1 p2 po:Nat) (at1:Int) (b:Bool) (t:Array Value) (w' : World):Prop:=(t.size=133∧t[3]?=some (.int .u8 at1)∧t[4]?=some (ptr p1)∧t[6]?=some (ptr p2)∧t[9]?=some (ptr po)∧t[93]?=some (.bool b))∧Nx w w'
theorem f8_13 (d:Dry) (r:R2) (p1 p2 po:Nat) (at1:Int) (s:St) (t:Array Value) (hs:t.size=133) (h3:t[3]?=some (.int .u8 at1)) (h4:t[4]?=some (ptr p1)) (h6:t[6]?=some (ptr p2)) (h9:t[9]?=some (ptr po)) (w:World) (hB:DBox w p1 d r) (hd:DrySl w d r) (q0:w.cell? ⟨p2,0,none⟩=some (num s.w)) (q1:w.cell? ⟨p2,1,none⟩=some (num s.c)) (q2:w.cell? ⟨p2,2,none⟩=some (num s.h)) :
  x8_13.wpIn FW 0 Try.prog (fun e a w'=>e=.normal∧a.defers=[]∧Qf8_13 w p1 p2 po at1 (out8 d s) a.tmps w') ⟨t,[]⟩ w:=by
 obtain⟨f,rfl⟩:=ex133_8 hs
 have g3:f 3=.int .u8 at1:=by simpa using h3
 have g4:f 4=ptr p1:=by simpa using h4
 have g6:f 6=ptr p2:=by simpa using h6
 have g9:f 9=ptr po:=by simpa using h9
 rw [g3,g4,g6,g9] at *
 clear hs h3 h4 h6 h9 g3 g4 g6 g9
 have k34:=state34_any d r s w hd
 have c0:w.cell? ⟨p1,0,none⟩=some (r.h):=hB.at' 0 _ rfl
 have c1:w.cell? ⟨p1,1,none⟩=some (num d.soak):=hB.at' 1 _ rfl
 have c2:w.cell? ⟨p1,2,none⟩=some (num d.brittle):=hB.at' 2 _ rfl
 have c3:w.cell? ⟨p1,3,none⟩=some (num d.start.w):=hB.at' 3 _ rfl
 have c4:w.cell? ⟨p1,4,none⟩=some (num d.start.c):=hB.at' 4 _ rfl
 have c5:w.cell? ⟨p1,5,none⟩=some (num d.start.h):=hB.at' 5 _ rfl
 have c6:w.cell? ⟨p1,6,none⟩=some (r.s):=hB.at' 6 _ rfl
 obtain⟨rh,rs⟩:=r
 obtain⟨ha,hcap,e1⟩:=hd.heats.cases
 obtain⟨sa,scap,e2⟩:=hd.steps.cases
 dsimp only at e1 e2
 rw [List.length_map] at e1 e2
 subst e1 e2
 obtain⟨sw,sc,sh⟩:=s
 try dsimp only at *
 obtain⟨ov,hov⟩:∃ o,out8 d ⟨sw,sc,sh⟩=o:=⟨_,rfl⟩
 rw [hov]
 unfold out8 at hov
 have hsl:=hd.sl
 generalize stF d ⟨sw,sc,sh⟩=f2 at *
 clear hB hd
 by_cases h1:d.steps.length=0
 ·have ho:ov=true:=by rw [← hov,decide_eq_true h1];rfl
  rw [ho]
  rw [h1] at c6
  clear hov ho hsl
  simp only [x8_0,x8_1,x8_3,x8_4,x8_5,x8_7,x8_9,x8_13,x8_15,x8_16,x8_17,r8_3,r8_6,r8_13,b8,Try.f8,cL,cR,cB,cT]
  gi_wp2
  exact⟨⟨rfl,rfl,rfl,rfl,rfl,rfl⟩,Nx.refl w⟩
 ·generalize d.steps.length=m at *
  have b1:decide ((m:Int)=0)=false:=decide_eq_false (by omega)
  have b2:((m:Int) == 0)=false:=beq_false_of_ne (by omega)
  by_cases h2:f2=0
  ·subst h2
   have ho:ov=false:=by rw [← hov,decide_eq_false h1];rfl
   rw [ho]
   clear hov ho h1
   simp only [x8_0,x8_1,x8_3,x8_4,x8_5,x8_7,x8_9,x8_13,x8_15,x8_16,x8_17,r8_3,r8_6,r8_13,b8,Try.f8,cL,cR,cB,cT]
   gi_wp2_with (first | (gi_at_call 34;refine CallsIn.mono k34 ?_;rintro e w1 ⟨rfl,n1⟩) | gi_in)
   exact⟨⟨rfl,rfl,rfl,rfl,rfl,rfl⟩,n1⟩
  ·have ho:ov=true:=by rw [← hov,decide_eq_false h1,decide_eq_true h2];rfl
   have b3:(f2 != 0)=true:=by simpa using h2
   rw [ho]
   clear hov ho h1 h2
   simp only [x8_0,x8_1,x8_3,x8_4,x8_5,x8_7,x8_9,x8_13,x8_15,x8_16,x8_17,r8_3,r8_6,r8_13,b8,Try.f8,cL,cR,cB,cT]
   gi_wp2_with (first | (gi_at_call 34;refine CallsIn.mono k34 ?_;rintro e w1 ⟨rfl,n1⟩) | gi_in)
   exact⟨⟨rfl,rfl,rfl,rfl,rfl,rfl⟩,n1⟩
def Qf8_15 (w:World) (p1 p2 po:Nat) (at1:Int) (d:Dry) (t:Array Value) (w' : World):Prop:=(t.size=133∧t[4]?=some (ptr p1)∧t[6]?=some (ptr p2)∧t[9]?=some (ptr po)∧t[23]?=some (num (at1 % d.steps.length)))∧Nx w w'
theorem f8_15 (d:Dry) (r:R2) (p1 p2 po:Nat) (at1:Int) (t:Array Value) (hs:t.size=133) (h3:t[3]?=some (.int .u8 at1)) (h4:t[4]?=some (ptr p1)) (h6:t[6]?=some (ptr p2)) (h9:t[9]?=some (ptr po)) (w:World) (hB:DBox w p1 d r) (hd:DrySl w d r) (hp:0<d.steps.length) (ha1:0≤at1∧at1≤255) :
  x8_15.wpIn FW 0 Try.prog (fun e a w'=>e=.normal∧a.defers=[]∧Qf8_15 w p1 p2 po at1 d a.tmps w') ⟨t,[]⟩ w:=by
 obtain⟨f,rfl⟩:=ex133_8 hs
 have g3:f 3=.int .u8 at1:=by simpa using h3
 have g4:f 4=ptr p1:=by simpa using h4
 have g6:f 6=ptr p2:=by simpa using h6
 have g9:f 9=ptr po:=by simpa using h9
 rw [g3,g4,g6,g9] at *
 clear hs h3 h4 h6 h9 g3 g4 g6 g9
 have c6:w.cell? ⟨p1,6,none⟩=some (r.s):=hB.at' 6 _ rfl
 obtain⟨rh,rs⟩:=r
 obtain⟨ha,hcap,e1⟩:=hd.heats.cases
 obtain⟨sa,scap,e2⟩:=hd.steps.cases
 dsimp only at e1 e2
 rw [List.length_map] at e1 e2
 subst e1 e2
 try dsimp only at *
 have hsl:=hd.sl
 clear hB hd
 unfold Qf8_15
 generalize d.steps.length=m at *
 have hm0:¬ ((m:Int)=0):=by omega
 have hk:(IntKind.i64).wrap at1=at1:=by simp [IntKind.wrap,IntKind.signed,IntKind.bits];omega
 have he:at1.tmod (m:Int)=at1 % (m:Int):=Int.tmod_eq_emod_of_nonneg ha1.1
 simp only [x8_0,x8_1,x8_3,x8_4,x8_5,x8_7,x8_9,x8_13,x8_15,x8_16,x8_17,r8_3,r8_6,r8_13,b8,Try.f8,cL,cR,cB,cT]
 gi_wp2
 exact Nx.refl w
def Qf8_16 (w:World) (p2 po:Nat) (i:Int) (c:Int×Bool×Int) (t:Array Value) (w' : World):Prop:=(t.size=133∧t[6]?=some (ptr p2)∧t[9]?=some (ptr po)∧t[23]?=some (num i)∧t[11]?=some (.bool c.2.1)∧t[12]?=some (num c.2.2))∧Nx w w'
theorem f8_16 (d:Dry) (r:R2) (p1 p2 po i:Nat) (s:St) (c:Int×Bool×Int) (t:Array Value) (hs:t.size=133) (h6:t[6]?=some (ptr p2)) (h9:t[9]?=some (ptr po)) (h23:t[23]?=some (num i)) (h4:t[4]?=some (ptr p1)) (w:World) (hB:DBox w p1 d r) (hd:DrySl w d r) (q0:w.cell? ⟨p2,0,none⟩=some (num s.w)) (q1:w.cell? ⟨p2,1,none⟩=some (num s.c)) (q2:w.cell? ⟨p2,2,none⟩=some (num s.h)) (hi:i≤5) (hc:chooseF d i s=c) :
  x8_16.wpIn FW 0 Try.prog (fun e a w'=>e=.normal∧a.defers=[]∧Qf8_16 w p2 po i c a.tmps w') ⟨t,[]⟩ w:=by
 obtain⟨f,rfl⟩:=ex133_8 hs
 have g6:f 6=ptr p2:=by simpa using h6
 have g9:f 9=ptr po:=by simpa using h9
 have g23:f 23=num i:=by simpa using h23
 have g4:f 4=ptr p1:=by simpa using h4
 rw [g6,g9,g23,g4] at *
 clear hs h6 h9 h23 h4 g6 g9 g23 g4
 have k18:=choose18_any d r i s w hd (by omega)
 rw [hc] at k18
 clear hc
 have c0:w.cell? ⟨p1,0,none⟩=some (r.h):=hB.at' 0 _ rfl
 have c1:w.cell? ⟨p1,1,none⟩=some (num d.soak):=hB.at' 1 _ rfl
 have c2:w.cell? ⟨p1,2,none⟩=some (num d.brittle):=hB.at' 2 _ rfl
 have c3:w.cell? ⟨p1,3,none⟩=some (num d.start.w):=hB.at' 3 _ rfl
 have c4:w.cell? ⟨p1,4,none⟩=some (num d.start.c):=hB.at' 4 _ rfl
 have c5:w.cell? ⟨p1,5,none⟩=some (num d.start.h):=hB.at' 5 _ rfl
 have c6:w.cell? ⟨p1,6,none⟩=some (r.s):=hB.at' 6 _ rfl
 obtain⟨rh,rs⟩:=r
 obtain⟨ha,hcap,e1⟩:=hd.heats.cases
 obtain⟨sa,scap,e2⟩:=hd.steps.cases
 dsimp only at e1 e2
 rw [List.length_map] at e1 e2
 subst e1 e2
 obtain⟨sw,sc,sh⟩:=s
 obtain⟨c0',cb,cz⟩:=c
 try dsimp only at *
 clear hB hd
 simp only [x8_0,x8_1,x8_3,x8_4,x8_5,x8_7,x8_9,x8_13,x8_15,x8_16,x8_17,r8_3,r8_6,r8_13,b8,Try.f8,cL,cR,cB,cT]
 gi_wp2_with (first | (gi_at_call 18;refine CallsIn.mono k18 ?_;rintro e w1 ⟨rfl,n1⟩) | gi_in)
 exact⟨⟨rfl,rfl,rfl,rfl,rfl,rfl⟩,n1⟩
def Qf8_17 (w:World) (a1:Bool) (c:Int×Bool×Int) (t:Array Value) (w' : World):Prop:=(t.size=133∧t[11]?=some (.bool a1)∧t[12]?=some (num 0)∧t[14]?=some (.bool c.2.1)∧t[15]?=some (num c.2.2))∧Nx w w'
theorem f8_17 (d:Dry) (r:R2) (p2 po i:Nat) (s:St) (a1:Bool) (c:Int×Bool×Int) (t:Array Value) (hs:t.size=133) (h6:t[6]?=some (ptr p2)) (h9:t[9]?=some (ptr po)) (h23:t[23]?=some (num i)) (h11:t[11]?=some (.bool a1)) (h12:t[12]?=some (num 0)) (w:World) (hB:DBox w po d r) (hd:DrySl w d r) (q0:w.cell? ⟨p2,0,none⟩=some (num s.w)) (q1:w.cell? ⟨p2,1,none⟩=some (num s.c)) (q2:w.cell? ⟨p2,2,none⟩=some (num s.h)) (hi:i≤5) (hc:chooseF d i s=c) :
  x8_17.wpIn FW 0 Try.prog (fun e a w'=>e=.normal∧a.defers=[]∧Qf8_17 w a1 c a.tmps w') ⟨t,[]⟩ w:=by
 obtain⟨f,rfl⟩:=ex133_8 hs
 have g6:f 6=ptr p2:=by simpa using h6
 have g9:f 9=ptr po:=by simpa using h9
 have g23:f 23=num i:=by simpa using h23
 have g11:f 11=.bool a1:=by simpa using h11
 have g12:f 12=num 0:=by simpa using h12
 rw [g6,g9,g23,g11,g12] at *
 clear hs h6 h9 h23 h11 h12 g6 g9 g23 g11 g12
 have k18:=choose18_any d r i s w hd (by omega)
 rw [hc] at k18
 clear hc
 have c0:w.cell? ⟨po,0,none⟩=some (r.h):=hB.at' 0 _ rfl
 have c1:w.cell? ⟨po,1,none⟩=some (num d.soak):=hB.at' 1 _ rfl
 have c2:w.cell? ⟨po,2,none⟩=some (num d.brittle):=hB.at' 2 _ rfl
 have c3:w.cell? ⟨po,3,none⟩=some (num d.start.w):=hB.at' 3 _ rfl
 have c4:w.cell? ⟨po,4,none⟩=some (num d.start.c):=hB.at' 4 _ rfl
 have c5:w.cell? ⟨po,5,none⟩=some (num d.start.h):=hB.at' 5 _ rfl
 have c6:w.cell? ⟨po,6,none⟩=some (r.s):=hB.at' 6 _ rfl
 obtain⟨rh,rs⟩:=r
 obtain⟨ha,hcap,e1⟩:=hd.heats.cases
 obtain⟨sa,scap,e2⟩:=hd.steps.cases
 dsimp only at e1 e2
 rw [List.length_map] at e1 e2
 subst e1 e2
 obtain⟨sw,sc,sh⟩:=s
 obtain⟨c0',cb,cz⟩:=c
 try dsimp only at *
 clear hB hd
 simp only [x8_0,x8_1,x8_3,x8_4,x8_5,x8_7,x8_9,x8_13,x8_15,x8_16,x8_17,r8_3,r8_6,r8_13,b8,Try.f8,cL,cR,cB,cT]
 gi_wp2_with (first | (gi_at_call 18;refine CallsIn.mono k18 ?_;rintro e w1 ⟨rfl,n1⟩) | gi_in)
 exact⟨⟨rfl,rfl,rfl,rfl,rfl⟩,n1⟩
end Go.Proofs.Ytedomogjmhommaa
namespace Go.Con
open Go.RowKit Go.Conc
section
variable [Lone]
variable {P:Program} {maps:Bool} {E Fz Arg:Nat→Prop} {W0:World} {f:FuncId} {t:Array Value} {k:List Item} {cs:List Frame} {W:World}
variable {Q:(Nat→Prop)→(Nat→Prop)→Goroutine→World→Prop} {φ:Ph} {pend:List Nat}
theorem Gm.pass {ops:Array Oper} {i:Nat} {rest:List Nat} {o:Oper} (ho:ops[i]?=some o) (hw:Region.wanted o (yielded ops t)=false) (hop:okOp P maps o.op=true) (hv:okVal P (Fr f t []).eval o.op=true)
  (hg:GoM P maps E Fz Arg W0 Q φ pend (Fr f (putD t o.dst undef) (.inRegion ops rest :: k)) cs W):GoM P maps E Fz Arg W0 Q φ pend (Fr f t (.inRegion ops (i :: rest) :: k)) cs W:=by
 have he:(Fr f t (.inRegion ops (i :: rest) :: k)).eval=(Fr f t []).eval:=funext fun x=>by cases x<;>rfl
 refine GoM.step (srh_op rfl rfl ho hop (by rw [he];exact hv)) ⟨fun it t' e=>?_,.inl rfl,fun d hdm=>(List.not_mem_nil hdm).elim,.inl rfl⟩ fun τ hτ=>?_
 ·cases e
  simp only [okItem1,ho,Option.all_some]
  exact hop
 ·refine⟨(Fr f t (.inRegion ops (i :: rest) :: k)).finish undef,cs,{ W with tape:=τ },?_,id,?_⟩
  ·unfold frameSem
   dsimp only
   unfold runSem
   dsimp only
   rw [ho]
   simp only [Option.map_some,Option.getD_some,hw]
   rfl
  ·rw [Fr_finish ho]
   exact Gm.tape hg
end
end Go.Con
namespace Go.Proofs.Ytedomogjmhommaa
open Go.RowKit Go.Con Go.Conc
local instance dryI98:Lone:=dryL
theorem wanted_not {ops:Array Oper} {o:Oper} {i d:Nat} {b:Bool} {t:Array Value} (hg:o.guard=some (i,b)) (hd:(ops[i]?).bind (·.dst)=some d) (hv:t[d]?=some (.bool (!b))):Region.wanted o (yielded ops t)=false:=by
 unfold Region.wanted yielded
 cases b<;>simp_all
section
variable {dst:Option Nat} {ty:TypeId} {pos:String} {af:Array Edge} {gd:Option (Nat×Bool)} {x y:Nat}
end
end Go.Proofs.Ytedomogjmhommaa
namespace Go.Proofs.Ytedomogjmhommaa
open Go.RowKit Go.Con Go.Conc Go.Shelf
local instance dryI112:Lone:=dryL
section
variable {dst:Option Nat} {ty:TypeId} {pos:String} {af:Array Edge} {gd:Option (Nat×Bool)} {x y:Nat}
theorem notT_run (e:Operand→Value) {w:World} (h:e (.tmp x)=.bool true) (τ:Tape):(execOp e ⟨dst,.unOp .not 4 (.tmp x),ty,pos,af,gd⟩).run Try.prog { w with tape:=τ }=.ok (.value (.bool false)) { w with tape:=τ }:=by
 simp [execOp,go_sem,h]
theorem notF_run (e:Operand→Value) {w:World} (h:e (.tmp x)=.bool false) (τ:Tape):(execOp e ⟨dst,.unOp .not 4 (.tmp x),ty,pos,af,gd⟩).run Try.prog { w with tape:=τ }=.ok (.value (.bool true)) { w with tape:=τ }:=by
 simp [execOp,go_sem,h]
theorem pickTt_run (e:Operand→Value) {w:World} {c:Value} (h:e (.tmp x)=.bool true) (hc:e (.const c)=c) (τ:Tape):(execOp e ⟨dst,.pick (.tmp x) (.const c) (.tmp y),ty,pos,af,gd⟩).run Try.prog { w with tape:=τ }=.ok (.value c) { w with tape:=τ }:=by
 simp [execOp,go_sem,h,hc]
theorem pickTf_run (e:Operand→Value) {w:World} {v c:Value} (h:e (.tmp x)=.bool false) (h2:e (.tmp y)=v) (τ:Tape):(execOp e ⟨dst,.pick (.tmp x) (.const c) (.tmp y),ty,pos,af,gd⟩).run Try.prog { w with tape:=τ }=.ok (.value v) { w with tape:=τ }:=by
 simp [execOp,go_sem,h,h2]
end
end Go.Proofs.Ytedomogjmhommaa
