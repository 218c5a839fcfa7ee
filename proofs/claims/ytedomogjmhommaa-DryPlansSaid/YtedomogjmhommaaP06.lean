import Derived.Test.YtedomogjmhommaaP05
set_option linter.all false
set_option maxRecDepth 100000
set_option maxHeartbeats 8000000
namespace Go.Proofs.Ytedomogjmhommaa
open Go.RowKit Go.Con Go.Conc
noncomputable def b4:Code:=match Try.f4.body with | some c=>c | none=>.skip
noncomputable def x4_0:Code:=cL b4
noncomputable def x4_1:Code:=cL (cL (cR b4))
noncomputable def x4_2:Code:=cL (cT (cR (cL (cR b4))))
noncomputable def r4_3:Code:=cR (cR b4)
noncomputable def x4_3:Code:=cL r4_3
noncomputable def x4_4:Code:=cL (cR r4_3)
noncomputable def x4_5:Code:=cL (cL (cR (cR r4_3)))
noncomputable def x4_6:Code:=cL (cT (cR (cL (cR (cR r4_3)))))
noncomputable def r4_7:Code:=cR (cR (cR r4_3))
noncomputable def x4_7:Code:=cL r4_7
noncomputable def x4_8:Code:=cL (cR r4_7)
noncomputable def x4_9:Code:=cL (cL (cR (cR r4_7)))
noncomputable def zrp:Code:=cL (cT (cR (cL (cR (cR r4_7)))))
noncomputable def zeY:Code:=cR (cR (cR r4_7))
noncomputable def x4_11:Code:=cL zeY
noncomputable def x4_12:Code:=cL (cR zeY)
noncomputable def zpw:Code:=cL (cR (cR zeY))
theorem zq5:b4=.seq x4_0 (.seq (.seq x4_1 (.cond (.tmp 23) (.seq x4_2 .ret) .skip)) (.seq x4_3 (.seq x4_4 (.seq (.seq x4_5 (.cond (.tmp 50) (.seq x4_6 .ret) .skip)) (.seq x4_7 (.seq x4_8 (.seq (.seq x4_9 (.cond (.tmp 85) (.seq zrp .ret) .skip)) (.seq x4_11 (.seq x4_12 (.seq zpw .ret)))))))))):=by kernel_rfl
def out4 (d:Dry) (m:Nat):Bool:=zeO d || decide (40<m)
def Sq (w:World) (p:Nat) (x:Int×Int):Prop:=w.cell? ⟨p,0,none⟩=some (num x.1)∧w.cell? ⟨p,1,none⟩=some (num x.2)
theorem Sq.oc {w w' : World} {p:Nat} {x:Int×Int} (h:Sq w p x) (o:OldC w w'):Sq w' p x:=⟨o.at h.1,o.at h.2⟩
theorem zdd {t:Array Value} (h:t.size=116):∃ f:Nat→Value,t=#[f 0,f 1,f 2,f 3,f 4,f 5,f 6,f 7,f 8,f 9,f 10,f 11,f 12,f 13,f 14,f 15,f 16,f 17,f 18,f 19,f 20,f 21,f 22,f 23,f 24,f 25,f 26,f 27,f 28,f 29,f 30,f 31,f 32,f 33,f 34,f 35,f 36,f 37,f 38,f 39,f 40,f 41,f 42,f 43,f 44,f 45,f 46,f 47,f 48,f 49,f 50,f 51,f 52,f 53,f 54,f 55,f 56,f 57,f 58,f 59,f 60,f 61,f 62,f 63,f 64,f 65,f 66,f 67,f 68,f 69,f 70,f 71,f 72,f 73,f 74,f 75,f 76,f 77,f 78,f 79,f 80,f 81,f 82,f 83,f 84,f 85,f 86,f 87,f 88,f 89,f 90,f 91,f 92,f 93,f 94,f 95,f 96,f 97,f 98,f 99,f 100,f 101,f 102,f 103,f 104,f 105,f 106,f 107,f 108,f 109,f 110,f 111,f 112,f 113,f 114,f 115]:=by
 obtain⟨f,rfl⟩:=exN 116 h
 exact⟨f,by kernel_rfl⟩
theorem f4_0 (d:Dry) (ha sa:Option Addr) (hn hcap sn scap:Nat) (u:Value) (t:Array Value) (hs:t.size=116) (h0:t[0]?=some (d.val ⟨.slice ha hn hcap,.slice sa sn scap⟩)) (h1:t[1]?=some (u)) (w:World)  :
  x4_0.wpIn FW 0 Try.prog (fun e a w'=>e=.normal∧a.defers=[]∧(a.tmps.size=116∧a.tmps[1]?=some (u)∧a.tmps[2]?=some (ptr w.heap.size))∧w'=w.alloc (.cells (d.cellsA ⟨.slice ha hn hcap,.slice sa sn scap⟩) 27)) ⟨t,[]⟩ w:=by
 obtain⟨f,rfl⟩:=zdd hs
 have g0:f 0=d.val ⟨.slice ha hn hcap,.slice sa sn scap⟩:=by simpa using h0
 have g1:f 1=u:=by simpa using h1
 rw [g0,g1] at *
 clear hs h0 h1 g0 g1
 simp only [x4_0,x4_1,x4_3,x4_4,x4_5,x4_7,x4_8,x4_9,x4_11,x4_12,r4_3,r4_7,zeY,b4,Try.f4,cL,cR,cB,cT]
 gi_wp2
def zqY (w:World) (p1:Nat) (u:Value) (b:Bool) (t:Array Value) (w' : World):Prop:=(t.size=116∧t[1]?=some (u)∧t[2]?=some (ptr p1)∧t[23]?=some (.bool b))∧Nx w w'
theorem f4_1 (d:Dry) (r:R2) (p1:Nat) (ua:Option Addr) (m ucap:Nat) (t:Array Value) (hs:t.size=116) (h1:t[1]?=some (.slice ua m ucap)) (h2:t[2]?=some (ptr p1)) (w:World) (hB:DBox w p1 d r) (hh:Sl w r.h 2 (d.heats.map two)) (hst:Sl w r.s 6 (d.steps.map Stp.cells)) (hl:d.heats.length≤140737488355328) (sl:d.steps.length≤140737488355328) (hm:m≤140737488355328) :
  x4_1.wpIn FW 0 Try.prog (fun e a w'=>e=.normal∧a.defers=[]∧zqY w p1 (.slice ua m ucap) (out4 d m) a.tmps w') ⟨t,[]⟩ w:=by
 obtain⟨f,rfl⟩:=zdd hs
 have g1:f 1=.slice ua m ucap:=by simpa using h1
 have g2:f 2=ptr p1:=by simpa using h2
 rw [g1,g2] at *
 clear hs h1 h2 g1 g2
 have k16:=zks d r w hh hst hl sl
 have c0:w.cell? ⟨p1,0,none⟩=some (r.h):=hB.at' 0 _ rfl
 have c1:w.cell? ⟨p1,1,none⟩=some (num d.soak):=hB.at' 1 _ rfl
 have c2:w.cell? ⟨p1,2,none⟩=some (num d.brittle):=hB.at' 2 _ rfl
 have c3:w.cell? ⟨p1,3,none⟩=some (num d.start.w):=hB.at' 3 _ rfl
 have c4:w.cell? ⟨p1,4,none⟩=some (num d.start.c):=hB.at' 4 _ rfl
 have c5:w.cell? ⟨p1,5,none⟩=some (num d.start.h):=hB.at' 5 _ rfl
 have c6:w.cell? ⟨p1,6,none⟩=some (r.s):=hB.at' 6 _ rfl
 obtain⟨ov,hov⟩:∃ o,out4 d m=o:=⟨_,rfl⟩
 rw [hov]
 unfold out4 at hov
 cases hg:zeO d with
 | true =>
  rw [hg] at k16 hov
  have ho:ov=true:=by rw [← hov];simp
  rw [ho]
  clear hB hh hst hl sl hg ho hov
  simp only [x4_0,x4_1,x4_3,x4_4,x4_5,x4_7,x4_8,x4_9,x4_11,x4_12,r4_3,r4_7,zeY,b4,Try.f4,cL,cR,cB,cT]
  gi_wp2_with (first | (gi_at_call 16;refine CallsIn.mono k16 ?_;rintro e w1 ⟨rfl,n1⟩) | gi_in)
  exact⟨⟨rfl,rfl,rfl,rfl⟩,n1⟩
 | false =>
  rw [hg] at k16 hov
  clear hB hh hst hl sl hg
  by_cases h1:40<m
  ·have ho:ov=true:=by rw [← hov];simp [h1]
   rw [ho]
   have b1:decide ((m:Int) > 40)=true:=decide_eq_true (by omega)
   clear hov ho h1
   simp only [x4_0,x4_1,x4_3,x4_4,x4_5,x4_7,x4_8,x4_9,x4_11,x4_12,r4_3,r4_7,zeY,b4,Try.f4,cL,cR,cB,cT]
   gi_wp2_with (first | (gi_at_call 16;refine CallsIn.mono k16 ?_;rintro e w1 ⟨rfl,n1⟩) | gi_in)
   exact⟨⟨rfl,rfl,rfl,rfl⟩,n1⟩
  ·have b1:decide ((m:Int) > 40)=false:=decide_eq_false (by omega)
   have ho:ov=false:=by rw [← hov];simp [h1]
   rw [ho]
   clear hov ho h1
   simp only [x4_0,x4_1,x4_3,x4_4,x4_5,x4_7,x4_8,x4_9,x4_11,x4_12,r4_3,r4_7,zeY,b4,Try.f4,cL,cR,cB,cT]
   gi_wp2_with (first | (gi_at_call 16;refine CallsIn.mono k16 ?_;rintro e w1 ⟨rfl,n1⟩) | gi_in)
   exact⟨⟨rfl,rfl,rfl,rfl⟩,n1⟩
def zqZ (w:World) (p1:Nat) (u:Value) (vb:Value) (bf:List Int×Bool×Int) (t:Array Value) (w' : World):Prop:=∃ v,(t.size=116∧t[1]?=some (u)∧t[2]?=some (ptr p1)∧t[5]?=some (vb)∧t[6]?=some (.bool bf.2.1)∧t[7]?=some (num bf.2.2)∧t[8]?=some (v)∧t[9]?=some (.bool bf.2.1)∧t[10]?=some (num bf.2.2))∧Nx w w'∧Sl w' v 1 (bf.1.map one)
theorem f4_4 (d:Dry) (r:R2) (p1:Nat) (u:Value) (vb:Value) (bf:List Int×Bool×Int) (t:Array Value) (hs:t.size=116) (h1:t[1]?=some (u)) (h2:t[2]?=some (ptr p1)) (h5:t[5]?=some (vb)) (h6:t[6]?=some (.bool bf.2.1)) (h7:t[7]?=some (num bf.2.2)) (w:World) (hB:DBox w p1 d r) (hd:DrySl w d r) (hbf:zb5 d=bf) :
  x4_4.wpIn FW 0 Try.prog (fun e a w'=>e=.normal∧a.defers=[]∧zqZ w p1 u vb bf a.tmps w') ⟨t,[]⟩ w:=by
 obtain⟨f,rfl⟩:=zdd hs
 have g1:f 1=u:=by simpa using h1
 have g2:f 2=ptr p1:=by simpa using h2
 have g5:f 5=vb:=by simpa using h5
 have g6:f 6=.bool bf.2.1:=by simpa using h6
 have g7:f 7=num bf.2.2:=by simpa using h7
 rw [g1,g2,g5,g6,g7] at *
 clear hs h1 h2 h5 h6 h7 g1 g2 g5 g6 g7
 have k:=zka d r w hd
 rw [zmS,hbf] at k
 clear hbf
 have c0:w.cell? ⟨p1,0,none⟩=some (r.h):=hB.at' 0 _ rfl
 have c1:w.cell? ⟨p1,1,none⟩=some (num d.soak):=hB.at' 1 _ rfl
 have c2:w.cell? ⟨p1,2,none⟩=some (num d.brittle):=hB.at' 2 _ rfl
 have c3:w.cell? ⟨p1,3,none⟩=some (num d.start.w):=hB.at' 3 _ rfl
 have c4:w.cell? ⟨p1,4,none⟩=some (num d.start.c):=hB.at' 4 _ rfl
 have c5:w.cell? ⟨p1,5,none⟩=some (num d.start.h):=hB.at' 5 _ rfl
 have c6:w.cell? ⟨p1,6,none⟩=some (r.s):=hB.at' 6 _ rfl
 obtain⟨rh,rs⟩:=r
 obtain⟨ha,hcap,e1⟩:=hd.heats.cases
 obtain⟨sa,scap,e2⟩:=hd.steps.cases
 dsimp only at e1 e2
 rw [List.length_map] at e1 e2
 subst e1 e2
 obtain⟨D1,D2,D3⟩:=bf
 try dsimp only at *
 clear hB hd
 simp only [x4_0,x4_1,x4_3,x4_4,x4_5,x4_7,x4_8,x4_9,x4_11,x4_12,r4_3,r4_7,zeY,b4,Try.f4,cL,cR,cB,cT]
 gi_wp2_with (first | (gi_at_call 24;refine CallsIn.mono k ?_;rintro e w1 ⟨v,rfl,n1,hv⟩) | gi_in)
 exact⟨v,⟨rfl,rfl,rfl,rfl,rfl,rfl,rfl,rfl,rfl⟩,n1,hv⟩
def zq0 (w:World) (p1:Nat) (u:Value) (t:Array Value) (w' : World):Prop:=(t.size=116∧t[1]?=some (u)∧t[2]?=some (ptr p1)∧t[50]?=some (.bool false))∧Nx w w'
theorem f4_5 (p1:Nat) (u:Value) (vl:Value) (vk:Value) (b:Bool) (fl m:Int) (X:List Int) (t:Array Value) (hs:t.size=116) (h1:t[1]?=some (u)) (h2:t[2]?=some (ptr p1)) (h5:t[5]?=some (vl)) (h8:t[8]?=some (vk)) (h6:t[6]?=some (.bool b)) (h9:t[9]?=some (.bool b)) (h7:t[7]?=some (num fl)) (h10:t[10]?=some (num fl)) (w:World) (hv:Sl w vl 1 (X.map one)) (hk:Sl w vk 1 (X.map one)) (hX:X.length≤1000000000) :
  x4_5.wpIn FW 0 Try.prog (fun e a w'=>e=.normal∧a.defers=[]∧zq0 w p1 u a.tmps w') ⟨t,[]⟩ w:=by
 obtain⟨f,rfl⟩:=zdd hs
 have g1:f 1=u:=by simpa using h1
 have g2:f 2=ptr p1:=by simpa using h2
 have g5:f 5=vl:=by simpa using h5
 have g8:f 8=vk:=by simpa using h8
 have g6:f 6=.bool b:=by simpa using h6
 have g9:f 9=.bool b:=by simpa using h9
 have g7:f 7=num fl:=by simpa using h7
 have g10:f 10=num fl:=by simpa using h10
 rw [g1,g2,g5,g8,g6,g9,g7,g10] at *
 clear hs h1 h2 h5 h8 h6 h9 h7 h10 g1 g2 g5 g8 g6 g9 g7 g10
 have k:=zd2 vl vk X X w hv hk hX hX
 rw [show decide (X=X)=true by simp] at k
 obtain⟨a1,c1,e1⟩:=hv.cases
 obtain⟨a2,c2,e2⟩:=hk.cases
 rw [List.length_map] at e1 e2
 subst e1 e2
 clear hv hk
 generalize X.length=n at *
 have e3:(b != b)=false:=by cases b<;>rfl
 have e4:(fl != fl)=false:=by simp
 have e5:(m != m)=false:=by simp
 simp only [x4_0,x4_1,x4_3,x4_4,x4_5,x4_7,x4_8,x4_9,x4_11,x4_12,r4_3,r4_7,zeY,b4,Try.f4,cL,cR,cB,cT]
 gi_wp2_with (first | (gi_at_call 25;refine CallsIn.mono k ?_;rintro e w1 ⟨rfl,n1⟩) | gi_in)
 exact⟨⟨rfl,rfl,rfl,rfl⟩,n1⟩
def zq1 (w:World) (p1:Nat) (u:Value) (g:List Int×Int×Bool×Int) (t:Array Value) (w' : World):Prop:=∃ v,(t.size=116∧t[1]?=some (u)∧t[2]?=some (ptr p1)∧t[5]?=some (v)∧t[11]?=some (num g.2.1)∧t[6]?=some (.bool g.2.2.1)∧t[7]?=some (num g.2.2.2))∧Nx w w'∧Sl w' v 1 (g.1.map one)
theorem f4_7 (d:Dry) (r:R2) (p1:Nat) (u:Value) (plan:List Int) (g:List Int×Int×Bool×Int) (t:Array Value) (hs:t.size=116) (h1:t[1]?=some (u)) (h2:t[2]?=some (ptr p1)) (w:World) (hB:DBox w p1 d r) (hd:DrySl w d r) (hp:Sl w u 1 (plan.map one)) (hl:plan.length≤1000000000) (hg:zbL d plan=g) :
  x4_7.wpIn FW 0 Try.prog (fun e a w'=>e=.normal∧a.defers=[]∧zq1 w p1 u  g a.tmps w') ⟨t,[]⟩ w:=by
 obtain⟨f,rfl⟩:=zdd hs
 have g1:f 1=u:=by simpa using h1
 have g2:f 2=ptr p1:=by simpa using h2
 rw [g1,g2] at *
 clear hs h1 h2 g1 g2
 have k:=zg4 d r u plan w hd hp hl
 rw [hg] at k
 clear hg
 have c0:w.cell? ⟨p1,0,none⟩=some (r.h):=hB.at' 0 _ rfl
 have c1:w.cell? ⟨p1,1,none⟩=some (num d.soak):=hB.at' 1 _ rfl
 have c2:w.cell? ⟨p1,2,none⟩=some (num d.brittle):=hB.at' 2 _ rfl
 have c3:w.cell? ⟨p1,3,none⟩=some (num d.start.w):=hB.at' 3 _ rfl
 have c4:w.cell? ⟨p1,4,none⟩=some (num d.start.c):=hB.at' 4 _ rfl
 have c5:w.cell? ⟨p1,5,none⟩=some (num d.start.h):=hB.at' 5 _ rfl
 have c6:w.cell? ⟨p1,6,none⟩=some (r.s):=hB.at' 6 _ rfl
 obtain⟨rh,rs⟩:=r
 obtain⟨ha,hcap,e1⟩:=hd.heats.cases
 obtain⟨sa,scap,e2⟩:=hd.steps.cases
 dsimp only at e1 e2
 rw [List.length_map] at e1 e2
 subst e1 e2
 obtain⟨ua,ucap,e3⟩:=hp.cases
 rw [List.length_map] at e3
 subst e3
 obtain⟨D1,D2,D3,D4⟩:=g
 try dsimp only at *
 clear hB hd hp
 simp only [x4_0,x4_1,x4_3,x4_4,x4_5,x4_7,x4_8,x4_9,x4_11,x4_12,r4_3,r4_7,zeY,b4,Try.f4,cL,cR,cB,cT]
 gi_wp2_with (first | (gi_at_call 26;refine CallsIn.mono k ?_;rintro e w1 ⟨v,rfl,n1,hv⟩) | gi_in)
 exact⟨v,⟨rfl,rfl,rfl,rfl,rfl,rfl,rfl⟩,n1,hv⟩
def zq2 (w:World) (p1:Nat) (u:Value) (vl:Value) (g:List Int×Int×Bool×Int) (t:Array Value) (w' : World):Prop:=∃ v,(t.size=116∧t[1]?=some (u)∧t[2]?=some (ptr p1)∧t[5]?=some (vl)∧t[11]?=some (num g.2.1)∧t[6]?=some (.bool g.2.2.1)∧t[7]?=some (num g.2.2.2)∧t[8]?=some (v)∧t[12]?=some (num g.2.1)∧t[9]?=some (.bool g.2.2.1)∧t[10]?=some (num g.2.2.2))∧Nx w w'∧Sl w' v 1 (g.1.map one)
theorem f4_8 (d:Dry) (r:R2) (p1:Nat) (u:Value) (vl:Value) (plan:List Int) (g:List Int×Int×Bool×Int) (t:Array Value) (hs:t.size=116) (h1:t[1]?=some (u)) (h2:t[2]?=some (ptr p1)) (h5:t[5]?=some (vl)) (h11:t[11]?=some (num g.2.1)) (h6:t[6]?=some (.bool g.2.2.1)) (h7:t[7]?=some (num g.2.2.2)) (w:World) (hB:DBox w p1 d r) (hd:DrySl w d r) (hp:Sl w u 1 (plan.map one)) (hl:plan.length≤1000000000) (hg:zbL d plan=g) :
  x4_8.wpIn FW 0 Try.prog (fun e a w'=>e=.normal∧a.defers=[]∧zq2 w p1 u vl g a.tmps w') ⟨t,[]⟩ w:=by
 obtain⟨f,rfl⟩:=zdd hs
 have g1:f 1=u:=by simpa using h1
 have g2:f 2=ptr p1:=by simpa using h2
 have g5:f 5=vl:=by simpa using h5
 have g11:f 11=num g.2.1:=by simpa using h11
 have g6:f 6=.bool g.2.2.1:=by simpa using h6
 have g7:f 7=num g.2.2.2:=by simpa using h7
 rw [g1,g2,g5,g11,g6,g7] at *
 clear hs h1 h2 h5 h11 h6 h7 g1 g2 g5 g11 g6 g7
 have k:=zkK d r u plan w hd hp hl
 rw [hg] at k
 clear hg
 have c0:w.cell? ⟨p1,0,none⟩=some (r.h):=hB.at' 0 _ rfl
 have c1:w.cell? ⟨p1,1,none⟩=some (num d.soak):=hB.at' 1 _ rfl
 have c2:w.cell? ⟨p1,2,none⟩=some (num d.brittle):=hB.at' 2 _ rfl
 have c3:w.cell? ⟨p1,3,none⟩=some (num d.start.w):=hB.at' 3 _ rfl
 have c4:w.cell? ⟨p1,4,none⟩=some (num d.start.c):=hB.at' 4 _ rfl
 have c5:w.cell? ⟨p1,5,none⟩=some (num d.start.h):=hB.at' 5 _ rfl
 have c6:w.cell? ⟨p1,6,none⟩=some (r.s):=hB.at' 6 _ rfl
 obtain⟨rh,rs⟩:=r
 obtain⟨ha,hcap,e1⟩:=hd.heats.cases
 obtain⟨sa,scap,e2⟩:=hd.steps.cases
 dsimp only at e1 e2
 rw [List.length_map] at e1 e2
 subst e1 e2
 obtain⟨ua,ucap,e3⟩:=hp.cases
 rw [List.length_map] at e3
 subst e3
 obtain⟨D1,D2,D3,D4⟩:=g
 try dsimp only at *
 clear hB hd hp
 simp only [x4_0,x4_1,x4_3,x4_4,x4_5,x4_7,x4_8,x4_9,x4_11,x4_12,r4_3,r4_7,zeY,b4,Try.f4,cL,cR,cB,cT]
 gi_wp2_with (first | (gi_at_call 27;refine CallsIn.mono k ?_;rintro e w1 ⟨v,rfl,n1,hv⟩) | gi_in)
 exact⟨v,⟨rfl,rfl,rfl,rfl,rfl,rfl,rfl,rfl,rfl,rfl,rfl⟩,n1,hv⟩
def zq3 (w:World) (p1:Nat) (u:Value) (t:Array Value) (w' : World):Prop:=(t.size=116∧t[1]?=some (u)∧t[2]?=some (ptr p1)∧t[85]?=some (.bool false))∧Nx w w'
theorem f4_9 (p1:Nat) (u:Value) (vl:Value) (vk:Value) (b:Bool) (fl m:Int) (X:List Int) (t:Array Value) (hs:t.size=116) (h1:t[1]?=some (u)) (h2:t[2]?=some (ptr p1)) (h5:t[5]?=some (vl)) (h8:t[8]?=some (vk)) (h11:t[11]?=some (num m)) (h12:t[12]?=some (num m)) (h6:t[6]?=some (.bool b)) (h9:t[9]?=some (.bool b)) (h7:t[7]?=some (num fl)) (h10:t[10]?=some (num fl)) (w:World) (hv:Sl w vl 1 (X.map one)) (hk:Sl w vk 1 (X.map one)) (hX:X.length≤1000000000) :
  x4_9.wpIn FW 0 Try.prog (fun e a w'=>e=.normal∧a.defers=[]∧zq3 w p1 u a.tmps w') ⟨t,[]⟩ w:=by
 obtain⟨f,rfl⟩:=zdd hs
 have g1:f 1=u:=by simpa using h1
 have g2:f 2=ptr p1:=by simpa using h2
 have g5:f 5=vl:=by simpa using h5
 have g8:f 8=vk:=by simpa using h8
 have g11:f 11=num m:=by simpa using h11
 have g12:f 12=num m:=by simpa using h12
 have g6:f 6=.bool b:=by simpa using h6
 have g9:f 9=.bool b:=by simpa using h9
 have g7:f 7=num fl:=by simpa using h7
 have g10:f 10=num fl:=by simpa using h10
 rw [g1,g2,g5,g8,g11,g12,g6,g9,g7,g10] at *
 clear hs h1 h2 h5 h8 h11 h12 h6 h9 h7 h10 g1 g2 g5 g8 g11 g12 g6 g9 g7 g10
 have k:=zd2 vl vk X X w hv hk hX hX
 rw [show decide (X=X)=true by simp] at k
 obtain⟨a1,c1,e1⟩:=hv.cases
 obtain⟨a2,c2,e2⟩:=hk.cases
 rw [List.length_map] at e1 e2
 subst e1 e2
 clear hv hk
 generalize X.length=n at *
 have e3:(b != b)=false:=by cases b<;>rfl
 have e4:(fl != fl)=false:=by simp
 have e5:(m != m)=false:=by simp
 simp only [x4_0,x4_1,x4_3,x4_4,x4_5,x4_7,x4_8,x4_9,x4_11,x4_12,r4_3,r4_7,zeY,b4,Try.f4,cL,cR,cB,cT]
 gi_wp2_with (first | (gi_at_call 25;refine CallsIn.mono k ?_;rintro e w1 ⟨rfl,n1⟩) | gi_in)
 exact⟨⟨rfl,rfl,rfl,rfl⟩,n1⟩
def zqm (w:World) (p1:Nat) (u:Value)  (s:(Int×Int)×(Int×Int)×Int) (t:Array Value) (w' : World):Prop:=∃ q1 q2,(t.size=116∧t[1]?=some (u)∧t[2]?=some (ptr p1)∧t[13]?=some (ptr q1)∧t[14]?=some (ptr q2)∧t[7]?=some (num s.2.2))∧Nx w w'∧Sq w' q1 s.1∧Sq w' q2 s.2.1
theorem zrg (d:Dry) (r:R2) (p1:Nat) (u:Value)  (plan:List Int) (s:(Int×Int)×(Int×Int)×Int) (t:Array Value) (hs:t.size=116) (h1:t[1]?=some (u)) (h2:t[2]?=some (ptr p1)) (w:World) (hB:DBox w p1 d r) (hd:DrySl w d r) (hp:Sl w u 1 (plan.map one)) (hl:plan.length≤1000000000) (hst:zcp d plan=s) :
  x4_11.wpIn FW 0 Try.prog (fun e a w'=>e=.normal∧a.defers=[]∧zqm w p1 u  s a.tmps w') ⟨t,[]⟩ w:=by
 obtain⟨f,rfl⟩:=zdd hs
 have g1:f 1=u:=by simpa using h1
 have g2:f 2=ptr p1:=by simpa using h2
 rw [g1,g2] at *
 clear hs h1 h2 g1 g2
 have k:=zhd d r u plan w hd hp hl
 rw [hst] at k
 clear hst
 have c0:w.cell? ⟨p1,0,none⟩=some (r.h):=hB.at' 0 _ rfl
 have c1:w.cell? ⟨p1,1,none⟩=some (num d.soak):=hB.at' 1 _ rfl
 have c2:w.cell? ⟨p1,2,none⟩=some (num d.brittle):=hB.at' 2 _ rfl
 have c3:w.cell? ⟨p1,3,none⟩=some (num d.start.w):=hB.at' 3 _ rfl
 have c4:w.cell? ⟨p1,4,none⟩=some (num d.start.c):=hB.at' 4 _ rfl
 have c5:w.cell? ⟨p1,5,none⟩=some (num d.start.h):=hB.at' 5 _ rfl
 have c6:w.cell? ⟨p1,6,none⟩=some (r.s):=hB.at' 6 _ rfl
 obtain⟨rh,rs⟩:=r
 obtain⟨ha,hcap,e1⟩:=hd.heats.cases
 obtain⟨sa,scap,e2⟩:=hd.steps.cases
 dsimp only at e1 e2
 rw [List.length_map] at e1 e2
 subst e1 e2
 obtain⟨ua,ucap,e3⟩:=hp.cases
 rw [List.length_map] at e3
 subst e3
 obtain⟨⟨x0,x1⟩,⟨y0,y1⟩,f⟩:=s
 try simp only [zlC] at k
 try dsimp only at *
 clear hB hd hp
 simp only [x4_0,x4_1,x4_3,x4_4,x4_5,x4_7,x4_8,x4_9,x4_11,x4_12,r4_3,r4_7,zeY,b4,Try.f4,cL,cR,cB,cT]
 gi_wp2_with (first | (gi_at_call 28;refine CallsIn.mono k ?_;rintro e w1 ⟨rfl,n1⟩;obtain⟨nA,sA,gA,gB⟩:=al2 (w:=w1) (o1:=.cells #[num 0,num 0] 45 (0,0)) (o2:=.cells #[num 0,num 0] 45 (0,0)) rfl;have a0:=zaa (i:=0) gA rfl;have a1:=zaa (i:=1) gA rfl;have za0:=zac (i:=0) gA;have za1:=zac (i:=1) gA;have b0:=zaa (i:=0) gB rfl;have b1:=zaa (i:=1) gB rfl;have zb0:=zac (i:=0) gB;have zb1:=zac (i:=1) gB) | gi_in)
 obtain⟨nA',sA',gA',gB'⟩:=al2 (w:=w1) (o1:=.cells #[num x0,num x1] 45 (0,0)) (o2:=.cells #[num y0,num y1] 45 (0,0)) rfl
 exact⟨_,_,⟨rfl,rfl,rfl,rfl,rfl,rfl⟩,n1.trans nA',⟨zaa gA' rfl,zaa gA' rfl⟩,⟨zaa gB' rfl,zaa gB' rfl⟩⟩
def zqn (w:World) (p1:Nat) (u:Value) (p13:Nat) (p14:Nat) (s:(Int×Int)×(Int×Int)×Int) (t:Array Value) (w' : World):Prop:=∃ q1 q2,(t.size=116∧t[13]?=some (ptr p13)∧t[14]?=some (ptr p14)∧t[7]?=some (num s.2.2)∧t[15]?=some (ptr q1)∧t[16]?=some (ptr q2)∧t[10]?=some (num s.2.2))∧Nx w w'∧Sq w' q1 s.1∧Sq w' q2 s.2.1
theorem zrh (d:Dry) (r:R2) (p1:Nat) (u:Value) (p13:Nat) (p14:Nat) (plan:List Int) (s:(Int×Int)×(Int×Int)×Int) (t:Array Value) (hs:t.size=116) (h1:t[1]?=some (u)) (h2:t[2]?=some (ptr p1)) (h13:t[13]?=some (ptr p13)) (h14:t[14]?=some (ptr p14)) (h7:t[7]?=some (num s.2.2)) (w:World) (hB:DBox w p1 d r) (hd:DrySl w d r) (hp:Sl w u 1 (plan.map one)) (hl:plan.length≤1000000000) (hst:zcp d plan=s) :
  x4_12.wpIn FW 0 Try.prog (fun e a w'=>e=.normal∧a.defers=[]∧zqn w p1 u p13 p14 s a.tmps w') ⟨t,[]⟩ w:=by
 obtain⟨f,rfl⟩:=zdd hs
 have g1:f 1=u:=by simpa using h1
 have g2:f 2=ptr p1:=by simpa using h2
 have g13:f 13=ptr p13:=by simpa using h13
 have g14:f 14=ptr p14:=by simpa using h14
 have g7:f 7=num s.2.2:=by simpa using h7
 rw [g1,g2,g13,g14,g7] at *
 clear hs h1 h2 h13 h14 h7 g1 g2 g13 g14 g7
 have k:=zkS d r u plan w hd hp hl
 rw [zn6] at k
 rw [hst] at k
 clear hst
 have c0:w.cell? ⟨p1,0,none⟩=some (r.h):=hB.at' 0 _ rfl
 have c1:w.cell? ⟨p1,1,none⟩=some (num d.soak):=hB.at' 1 _ rfl
 have c2:w.cell? ⟨p1,2,none⟩=some (num d.brittle):=hB.at' 2 _ rfl
 have c3:w.cell? ⟨p1,3,none⟩=some (num d.start.w):=hB.at' 3 _ rfl
 have c4:w.cell? ⟨p1,4,none⟩=some (num d.start.c):=hB.at' 4 _ rfl
 have c5:w.cell? ⟨p1,5,none⟩=some (num d.start.h):=hB.at' 5 _ rfl
 have c6:w.cell? ⟨p1,6,none⟩=some (r.s):=hB.at' 6 _ rfl
 obtain⟨rh,rs⟩:=r
 obtain⟨ha,hcap,e1⟩:=hd.heats.cases
 obtain⟨sa,scap,e2⟩:=hd.steps.cases
 dsimp only at e1 e2
 rw [List.length_map] at e1 e2
 subst e1 e2
 obtain⟨ua,ucap,e3⟩:=hp.cases
 rw [List.length_map] at e3
 subst e3
 obtain⟨⟨x0,x1⟩,⟨y0,y1⟩,f⟩:=s
 try simp only [zlC] at k
 try dsimp only at *
 clear hB hd hp
 simp only [x4_0,x4_1,x4_3,x4_4,x4_5,x4_7,x4_8,x4_9,x4_11,x4_12,r4_3,r4_7,zeY,b4,Try.f4,cL,cR,cB,cT]
 gi_wp2_with (first | (gi_at_call 29;refine CallsIn.mono k ?_;rintro e w1 ⟨rfl,n1⟩;obtain⟨nA,sA,gA,gB⟩:=al2 (w:=w1) (o1:=.cells #[num 0,num 0] 45 (0,0)) (o2:=.cells #[num 0,num 0] 45 (0,0)) rfl;have a0:=zaa (i:=0) gA rfl;have a1:=zaa (i:=1) gA rfl;have za0:=zac (i:=0) gA;have za1:=zac (i:=1) gA;have b0:=zaa (i:=0) gB rfl;have b1:=zaa (i:=1) gB rfl;have zb0:=zac (i:=0) gB;have zb1:=zac (i:=1) gB) | gi_in)
 obtain⟨nA',sA',gA',gB'⟩:=al2 (w:=w1) (o1:=.cells #[num x0,num x1] 45 (0,0)) (o2:=.cells #[num y0,num y1] 45 (0,0)) rfl
 exact⟨_,_,⟨rfl,rfl,rfl,rfl,rfl,rfl,rfl⟩,n1.trans nA',⟨zaa gA' rfl,zaa gA' rfl⟩,⟨zaa gB' rfl,zaa gB' rfl⟩⟩
end Go.Proofs.Ytedomogjmhommaa
namespace Go.Proofs.Ytedomogjmhommaa
open Go.RowKit Go.Con Go.Conc Go.ChangeShapes Go.WideShapes Go.ChangeAt
local instance zrx:Lone:=dryL
def Kind (W:World) (v:Value):Prop:=∀ a n c,v=.slice (some a) n c→∃ cs e fz,W.heap[a.block]?=some (.cells cs e fz)
abbrev three (x:Int×Int×Int):List Value:=[num x.1,num x.2.1,num x.2.2]
theorem zk0 (b off k:Nat):(⟨b,off,none⟩:Addr).add k=⟨b,off+k,none⟩:=by
 unfold Addr.add
 split
 ·rename_i h;subst h;rfl
 ·rfl
theorem znw {α:Type} {p:Nat→α→Prop}:∀ n:Nat,(∀ i,i<n→∃ z,p i z)→∃ l:List α,l.length=n∧∀ i z,l[i]?=some z→p i z
 | 0,_=>⟨[],rfl,fun i z h=>by simp at h⟩
 | n+1,h=>by
  obtain⟨l,h1,h2⟩:=znw n fun i hi=>h i (by omega)
  obtain⟨z,hz⟩:=h n (by omega)
  refine⟨l++[z],by simp [h1],fun i y hy=>?_⟩
  rcases Nat.lt_or_ge i l.length with hi | hi
  ·rw [List.getElem?_append_left hi] at hy
   exact h2 i y hy
  ·rw [List.getElem?_append_right hi] at hy
   have h0:i-l.length=0:=by
    have:=(List.getElem?_eq_some_iff.1 hy).1
    simp at this;omega
   rw [h0] at hy
   simp at hy
   have:i=n:=by omega
   subst this;subst hy;exact hz
section
variable {H:Type} {enc:TypeId×Value→H} {W:World}
noncomputable abbrev zkU (enc:TypeId×Value→H) (W:World):=DataW.trod enc Try.prog W 0 (fun _=>true) true
def Fits (t:TypeId) (d:DataW H):Prop:=∀ n∈d.weights Try.prog t,n≤reachBytes
theorem zec {e:TypeId} {n:Nat}:∀ {ds:List (DataW H)} {d:DataW H},d∈ds→n∈d.weights Try.prog e→n∈DataW.weightsAll Try.prog e ds
 | x :: ds,d,hd,hn=>by
  unfold DataW.weightsAll
  rcases List.mem_cons.1 hd with rfl | hd
  ·exact List.mem_append_left _ hn
  ·exact List.mem_append_right _ (zec hd hn)
theorem zkI {α:Type} {en:α→List Value} {ok:α→Prop} {t e:TypeId} {fuel:Nat} {v:Value} {x:DataW H×List MemPlace} (ht:Try.prog.underlying t=some (.slice e)) (hbe:1≤Try.prog.bytesOf e)
  (hE:∀ n cs' y,zkU enc W n e cs'=some y→Fits e y.1→∃ z:α,cs'=en z∧ok z) (h:zkU enc W fuel t [v]=some x) (hfit:Fits t x.1) (hv:Cell.okWide Try.prog W .any 0 t v) :
  ∃ l:List α,Sl W v (Try.prog.cellsOf e) (l.map en)∧Kind W v∧l.length≤reachBytes∧∀ z∈l,ok z:=by
 rcases DataW.trod_slice ht h with ⟨h1,_⟩ | ⟨a,len,cap,elems,rest,n,_,h1,hxx,_,hl,hm,hlen,hel,_,_⟩
 ·simp only [List.cons.injEq,and_true] at h1
  subst h1
  exact⟨[],⟨0,.inl ⟨rfl,rfl⟩⟩,fun a n k e=>(by cases e),Nat.zero_le _,fun z hz=>by cases hz⟩
 ·simp only [List.cons.injEq,and_true] at h1
  subst h1
  subst hxx
  have hwt:(DataW.slice (elems.map (·.1)) (rest.map (·.1)):DataW H).weights Try.prog t=((elems.map (·.1)).length+(rest.map (·.1)).length) * Try.prog.bytesOf e :: (DataW.weightsAll Try.prog e (elems.map (·.1))++DataW.weightsAll Try.prog e (rest.map (·.1))):=by
   unfold DataW.weights
   rw [ht]
  unfold Fits at hfit
  dsimp only at hfit
  rw [hwt] at hfit
  have hlb:len≤reachBytes:=by
   have h1:=hfit _ (List.mem_cons_self ..)
   rw [List.length_map,List.length_map,hlen] at h1
   refine Nat.le_trans ?_ h1
   refine Nat.le_trans (Nat.le_add_right len rest.length) ?_
   exact Nat.le_mul_of_pos_right _ hbe
  have hef:∀ y∈elems,Fits e y.1:=fun y hy m hm=>hfit m (List.mem_cons_of_mem _ (List.mem_append_left _ (zec (List.mem_map_of_mem hy) hm)))
  simp only [Cell.okWide,ht,Cell.ok] at hv
  obtain⟨_,_,_,hs,row,cells,hsh,_⟩:=hv
  obtain⟨b,off,spot⟩:=a
  dsimp only at hs hsh
  subst hs
  have hcells:∃ cs e fz,W.heap[b]?=some (.cells cs e fz):=by
   unfold World.shape? at hsh
   split at hsh
   ·rename_i c e f hc;exact⟨_,_,_,hc⟩
   ·cases hsh
  obtain⟨l,hl1,hl2⟩:=znw (p:=fun i (z:α)=>ok z∧∀ k y,(en z)[k]?=some y→W.cell? ⟨b,off+i * Try.prog.cellsOf e+k,none⟩=some y) len fun i hi=>by
   have h2:=hel i hi
   rw [List.getElem?_eq_getElem (by omega)] at h2
   obtain⟨cs',h3,h4⟩:=Option.bind_eq_some_iff.1 h2
   obtain⟨z,rfl,hz⟩:=hE _ _ _ h4 (hef _ (List.getElem_mem _))
   obtain⟨_,hn,hc⟩:=World.cells?_some h3
   refine⟨z,hz,fun k y hk=>?_⟩
   have hkl:=(List.getElem?_eq_some_iff.1 hk).1
   have:=hc k (by omega)
   rw [zk0,zk0,hk] at this
   exact this
  have hlt:b<W.heap.size:=by
   obtain⟨_,_,_,hc⟩:=hcells
   exact (Array.getElem?_eq_some_iff.1 hc).1
  refine⟨l,⟨cap,.inr ⟨b,off,by rw [List.length_map,hl1],hlt,fun j k z y hj hk=>?_⟩⟩,fun a n k e=>?_,by omega,fun z hz=>?_⟩
  ·rw [List.getElem?_map] at hj
   obtain⟨z',hz',rfl⟩:=Option.map_eq_some_iff.1 hj
   exact (hl2 j z' hz').2 k y hk
  ·cases e;exact hcells
  ·obtain⟨i,hi⟩:=List.mem_iff_getElem?.1 hz
   exact (hl2 i z hi).1
theorem zct {t:TypeId} (ht:Try.prog.underlying t=some (.int .i64)) {n:Nat} {cs:List Value} {y:DataW H×List MemPlace} (h:zkU enc W n t cs=some y):∃ k:Int,cs=[num k]∧True:=by
 obtain⟨k,h1,_,h3⟩:=DataW.trod_int ht h
 exact⟨k,h1,trivial⟩
theorem znL {n:Nat} {cs:List Value} {y:DataW H×List MemPlace} (h:zkU enc W n 4 cs=some y):∃ b:Bool,cs=[.bool b]∧True:=by
 obtain⟨b,h1,_⟩:=DataW.trod_bool Try.underlying4 h
 exact⟨b,h1,trivial⟩
theorem ziz {t:TypeId} {f0 f1:Field} (ht:Try.prog.underlying t=some (.struct #[f0,f1])) (t0:f0.type=3) (t1:f1.type=3) (o0:f0.offset=0) (o1:f1.offset=1) (hc:Try.prog.cellsOf t=2) {n:Nat} {cs:List Value} {y:DataW H×List MemPlace} (h:zkU enc W n t cs=some y) :
  ∃ z:Int×Int,cs=two z∧True:=by
 obtain⟨xs,m,_,_,hl,hx,hf⟩:=DataW.trod_struct ht h
 have c3:Try.prog.cellsOf 3=1:=by kernel_rfl
 rw [hc] at hl
 match cs,hl with
 | [u,v],_ =>
  have h0:=hf 0 f0 rfl
  have h1:=hf 1 f1 rfl
  rw [t0,o0,c3,List.getElem?_eq_getElem (by rw [hx];simp)] at h0
  rw [t1,o1,c3,List.getElem?_eq_getElem (by rw [hx];simp)] at h1
  obtain⟨k,e0,_⟩:=zct Try.underlying3 h0
  obtain⟨k',e1,_⟩:=zct Try.underlying3 h1
  simp at e0 e1
  exact⟨(k,k'),by rw [e0,e1],trivial⟩
theorem zmh {t:TypeId} {f0 f1 f2:Field} (ht:Try.prog.underlying t=some (.struct #[f0,f1,f2])) (t0:f0.type=3) (t1:f1.type=3) (t2:f2.type=3) (o0:f0.offset=0) (o1:f1.offset=1) (o2:f2.offset=2) (hc:Try.prog.cellsOf t=3) {n:Nat} {cs:List Value} {y:DataW H×List MemPlace}
  (h:zkU enc W n t cs=some y):∃ z:Int×Int×Int,cs=three z∧True:=by
 obtain⟨xs,m,_,_,hl,hx,hf⟩:=DataW.trod_struct ht h
 have c3:Try.prog.cellsOf 3=1:=by kernel_rfl
 rw [hc] at hl
 match cs,hl with
 | [u,v,s],_ =>
  have h0:=hf 0 f0 rfl
  have h1:=hf 1 f1 rfl
  have h2:=hf 2 f2 rfl
  rw [t0,o0,c3,List.getElem?_eq_getElem (by rw [hx];simp)] at h0
  rw [t1,o1,c3,List.getElem?_eq_getElem (by rw [hx];simp)] at h1
  rw [t2,o2,c3,List.getElem?_eq_getElem (by rw [hx];simp)] at h2
  obtain⟨k,e0,_⟩:=zct Try.underlying3 h0
  obtain⟨k',e1,_⟩:=zct Try.underlying3 h1
  obtain⟨k2,e2,_⟩:=zct Try.underlying3 h2
  simp at e0 e1 e2
  exact⟨(k,k',k2),by rw [e0,e1,e2],trivial⟩
theorem znM {n:Nat} {cs:List Value} {y:DataW H×List MemPlace} (h:zkU enc W n 59 cs=some y):∃ z:Stp,cs=z.cells∧True:=by
 obtain⟨xs,m,_,_,hl,hx,hf⟩:=DataW.trod_struct Try.underlying59 h
 have c3:Try.prog.cellsOf 3=1:=by kernel_rfl
 have c4:Try.prog.cellsOf 4=1:=by kernel_rfl
 have c45:Try.prog.cellsOf 45=2:=by kernel_rfl
 rw [show Try.prog.cellsOf 59=6 by kernel_rfl] at hl
 match cs,hl with
 | [u0,u1,u2,u3,u4,u5],_ =>
  have h0:=hf 0 ⟨ "Damp",45,0,false,"","",0⟩ rfl
  have h1:=hf 1 ⟨ "Tended",4,2,false,"","",16⟩ rfl
  have h2:=hf 2 ⟨ "Water",45,3,false,"","",24⟩ rfl
  have h3:=hf 3 ⟨ "Colour",3,5,false,"","",40⟩ rfl
  rw [List.getElem?_eq_getElem (by rw [hx];simp)] at h0 h1 h2 h3
  dsimp only at h0 h1 h2 h3
  rw [c45] at h0 h2
  rw [c4] at h1
  rw [c3] at h3
  obtain⟨⟨k0,k1⟩,e0,_⟩:=ziz Try.underlying45 rfl rfl rfl rfl c45 h0
  obtain⟨k2,e1,_⟩:=znL h1
  obtain⟨⟨k3,k4⟩,e2,_⟩:=ziz Try.underlying45 rfl rfl rfl rfl c45 h2
  obtain⟨k5,e3,_⟩:=zct Try.underlying3 h3
  simp at e0 e1 e2 e3
  exact⟨⟨k0,k1,k2,k3,k4,k5⟩,by rw [e0.1,e0.2,e1,e2.1,e2.2,e3],trivial⟩
structure DryIn (W:World) (d:Dry) (r:R2):Prop where
 heats:Sl W r.h 2 (d.heats.map two)
 steps:Sl W r.s 6 (d.steps.map Stp.cells)
 kh:Kind W r.h
 ks:Kind W r.s
 hl:d.heats.length≤140737488355328
 sl:d.steps.length≤140737488355328
theorem zoz {v:Value} {dd:DataW H} {p:List MemPlace} {base:Nat} (hv:Value.okWide Try.prog W .any base 27 v) (h:DataW.Trod enc Try.prog W 0 (fun _=>true) true 27 v dd p) (hfit:Fits 27 dd) :
  ∃ (d:Dry) (r:R2),v=d.val r∧DryIn W d r:=by
 simp only [Value.okWide,Try.underlying27] at hv
 obtain⟨cs,rfl,hsz,ts,hts,_,hcell⟩:=hv
 rw [show Try.prog.cellTypes Try.prog.depth 27=some [22,3,3,3,3,3,25] by kernel_rfl] at hts
 cases hts
 rw [show Try.prog.cellsOf 27=7 by kernel_rfl] at hsz
 obtain⟨fuel,hf⟩:=h
 simp only [Value.cells] at hf
 obtain⟨xs,m,_,hyy,_,hx,hg⟩:=DataW.trod_struct Try.underlying27 hf
 simp only [Prod.mk.injEq] at hyy
 obtain⟨rfl,rfl⟩:=hyy
 have hwt:(DataW.agg (xs.map (·.1)):DataW H).weights Try.prog 27=DataW.weightsEach Try.prog [22,3,3,24,25] (xs.map (·.1)):=by
  unfold DataW.weights
  rw [Try.underlying27]
  rfl
 unfold Fits at hfit
 rw [hwt] at hfit
 have hx0:∀ (i:Nat) (y:DataW H×List MemPlace) (t:TypeId),xs[i]?=some y→([22,3,3,24,25]:List TypeId)[i]?=some t→Fits t y.1:=fun i y t hy ht m hm=>hfit m (DataW.weights_mem_each ht (by rw [List.getElem?_map,hy];rfl) m hm)
 obtain⟨l⟩:=cs
 simp only [List.size_toArray] at hsz
 match l,hsz with
 | [u0,u1,u2,u3,u4,u5,u6],_ =>
  have c3:Try.prog.cellsOf 3=1:=by kernel_rfl
  have c22:Try.prog.cellsOf 22=1:=by kernel_rfl
  have c24:Try.prog.cellsOf 24=3:=by kernel_rfl
  have c25:Try.prog.cellsOf 25=1:=by kernel_rfl
  have g0:=hg 0 ⟨ "Heats",22,0,false,"","",0⟩ rfl
  have g1:=hg 1 ⟨ "Soak",3,1,false,"","",24⟩ rfl
  have g2:=hg 2 ⟨ "Brittle",3,2,false,"","",32⟩ rfl
  have g3:=hg 3 ⟨ "Start",24,3,false,"","",40⟩ rfl
  have g4:=hg 4 ⟨ "Steps",25,6,false,"","",64⟩ rfl
  rw [List.getElem?_eq_getElem (by rw [hx];simp)] at g0 g1 g2 g3 g4
  dsimp only at g0 g1 g2 g3 g4
  rw [c22] at g0;rw [c3] at g1 g2;rw [c24] at g3;rw [c25] at g4
  simp only [List.drop_succ_cons,List.drop_zero,List.take_succ_cons,List.take_zero] at g0 g1 g2 g3 g4
  have kc:∀ (i:Nat) (y:Value) (t:TypeId),(#[u0,u1,u2,u3,u4,u5,u6]:Array Value)[i]?=some y→([22,3,3,3,3,3,25]:List TypeId)[i]?=some t→i<7→Cell.okWide Try.prog W .any 0 t y:=by
   intro i y t hy ht hi
   obtain⟨t',h1,h2⟩:=hcell i y hy
   have:i % ([22,3,3,3,3,3,25]:List TypeId).length=i:=Nat.mod_eq_of_lt hi
   rw [this,ht] at h1
   cases h1
   exact h2
  obtain⟨lh,a1,a3,a4,a5⟩:=zkI (en:=two) (ok:=fun _=>True) Try.underlying22 (by decide +kernel) (fun n cs' y h hff=>ziz Try.underlying135 rfl rfl rfl rfl (by kernel_rfl) h) g0 (hx0 0 _ _ (List.getElem?_eq_getElem _) rfl) (kc 0 _ _ rfl rfl (by decide))
  obtain⟨ls,b1,b3,b4,b5⟩:=zkI (en:=Stp.cells) (ok:=fun _=>True) Try.underlying25 (by decide +kernel) (fun n cs' y h hff=>znM h) g4 (hx0 4 _ _ (List.getElem?_eq_getElem _) rfl) (kc 6 _ _ rfl rfl (by decide))
  obtain⟨n1,q1,_⟩:=zct Try.underlying3 g1
  obtain⟨n2,q2,_⟩:=zct Try.underlying3 g2
  obtain⟨⟨n3,n4,n5⟩,q3,_⟩:=zmh Try.underlying24 rfl rfl rfl rfl rfl rfl c24 g3
  simp only [List.cons.injEq,and_true] at q1 q2 q3
  obtain⟨rfl,rfl,rfl⟩:=q3
  subst q1 q2
  rw [show Try.prog.cellsOf 135=2 by kernel_rfl] at a1
  rw [show Try.prog.cellsOf 59=6 by kernel_rfl] at b1
  exact⟨⟨lh,n1,n2,⟨n3,n4,n5⟩,ls⟩,⟨u0,u6⟩,rfl,a1,b1,a3,b3,Nat.le_trans a4 (by decide),Nat.le_trans b4 (by decide)⟩
theorem znj {v:Value} {dd:DataW H} {p:List MemPlace} {base:Nat} (hv:Value.okWide Try.prog W .any base 38 v) (h:DataW.Trod enc Try.prog W 0 (fun _=>true) true 38 v dd p) (hfit:Fits 38 dd) :
  ∃ l:List Int,Sl W v 1 (l.map one)∧Kind W v∧l.length≤140737488355328:=by
 obtain⟨fuel,hf⟩:=h
 have hv' : Cell.okWide Try.prog W .any 0 38 v:=by
  simp only [Value.okWide,Try.underlying38] at hv
  exact hv
 have hc:v.cells.toList=[v]:=by
  simp only [Cell.okWide,Try.underlying38,Cell.ok] at hv'
  cases v<;>first | rfl | (exact absurd hv' (by simp))
 rw [hc] at hf
 obtain⟨l,a1,a3,a4,_⟩:=zkI (en:=one) (ok:=fun _=>True) Try.underlying38 (by decide +kernel) (fun n cs' y h hff=>zct Try.underlying3 h) hf hfit hv'
 rw [show Try.prog.cellsOf 3=1 by kernel_rfl] at a1
 exact⟨l,a1,a3,Nat.le_trans a4 (by decide)⟩
end
end Go.Proofs.Ytedomogjmhommaa
