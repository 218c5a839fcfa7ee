import Derived.Test.YtedomogjmhommaaN02
set_option linter.all false
set_option maxRecDepth 100000
set_option maxHeartbeats 8000000
namespace Go.Proofs.Ytedomogjmhommaa
open Go.RowKit Go.Con Go.Conc
noncomputable def b12:Code:=match Try.f12.body with | some c=>c | none=>.skip
noncomputable def x12_0:Code:=cL b12
noncomputable def x12_1:Code:=cL (cL (cR b12))
noncomputable def x12_2:Code:=cL (cT (cR (cL (cR b12))))
noncomputable def r12_3:Code:=cR (cR b12)
noncomputable def x12_3:Code:=cL r12_3
noncomputable def x12_4:Code:=cL (cR r12_3)
noncomputable def x12_5:Code:=cL (cR (cR r12_3))
noncomputable def r12_7:Code:=cR (cR (cR r12_3))
noncomputable def x12_7:Code:=cL r12_7
noncomputable def x12_8:Code:=cL (cR r12_7)
noncomputable def x12_14:Code:=cL (cR (cR r12_7))
noncomputable def r12_15:Code:=cR (cR (cR r12_7))
noncomputable def x12_15:Code:=cL r12_15
noncomputable def x12_17:Code:=cL (cR r12_15)
noncomputable def x12_22:Code:=cL (cL (cR (cR r12_15)))
noncomputable def x12_23:Code:=cL (cT (cR (cL (cR (cR r12_15)))))
noncomputable def r12_24:Code:=cR (cR (cR r12_15))
noncomputable def x12_24:Code:=cL r12_24
noncomputable def x12_25:Code:=cL (cR r12_24)
noncomputable def x12_27:Code:=cL (cR (cR r12_24))
noncomputable def x12_32:Code:=cL (cR (cR (cR r12_24)))
theorem b12_eq:b12=.seq x12_0 (.seq (.seq x12_1 (.cond (.tmp 28) (.seq x12_2 .ret) .skip)) (.seq x12_3 (.seq x12_4 (.seq x12_5 (.seq x12_7 (.seq x12_8 (.seq x12_14 (.seq x12_15 (.seq x12_17 (.seq (.seq x12_22 (.cond (.tmp 156) (.seq x12_23 .ret) .skip)) (.seq x12_24 (.seq x12_25 (.seq x12_27 (.seq x12_32 .ret)))))))))))))):=by kernel_rfl
def out12 (d:Dry) (m:Nat):Bool:=out11 d || decide (40<m)
abbrev u8v (x:Int):Value:=.int .u8 x
theorem T49:ElemT 49 78 (.agg #[num 0,num 0,num 0]) 3 24:=.mk' Try.underlying49 (by kernel_rfl) (by kernel_rfl) (by decide)
theorem sns_row {xs:List Sn}:∀ y∈xs.map Sn.cells,y.length=3:=fun y hy=>by obtain⟨x,_,rfl⟩:=List.mem_map.1 hy;rfl
theorem own_cap {w:World} {base e sz n:Nat} {v:Value} {xs:List Value} (h:w.ownsRow base e sz v n xs):∃ a c,v=.slice a n c∧n≤c:=by
 obtain⟨_,⟨rfl,h0⟩ | ⟨g,cap,cur,rfl,_,_,hc,_⟩⟩:=h
 ·exact⟨none,0,by rw [h0],by omega⟩
 ·exact⟨_,_,rfl,hc⟩
section
variable {F:Fence} {n:Nat} {ops:Array Oper} {C:World→Prop} {dst:Option Nat} {pos:String} {af:Array Edge} {a:Act} {j:Nat} {x y:Int}
theorem yC_maxc (h2:a.eval (.tmp j)=num y) {z:Int} (hz:(if x<y then y else x)=z):YieldsC F n Try.prog ops C ⟨dst,.call { callee:=.builtin .max,args:=#[.const (num x),.tmp j],argTypes:=#[3,3] },3,pos,af,none⟩ (num z) a :=
 yCP rfl (fun _=>rfl) fun w _=>by
  subst hz
  have hc:a.eval (.const (num x))=num x:=rfl
  generalize a.eval=ρ at h2 hc ⊢
  simp [execOp,resolve,invoke,builtin,go_sem,hc,h2]
  split<;>omega
theorem yC_minc (h2:a.eval (.tmp j)=num y) {z:Int} (hz:(if y<x then y else x)=z):YieldsC F n Try.prog ops C ⟨dst,.call { callee:=.builtin .min,args:=#[.const (num x),.tmp j],argTypes:=#[3,3] },3,pos,af,none⟩ (num z) a :=
 yCP rfl (fun _=>rfl) fun w _=>by
  subst hz
  have hc:a.eval (.const (num x))=num x:=rfl
  generalize a.eval=ρ at h2 hc ⊢
  simp [execOp,resolve,invoke,builtin,go_sem,hc,h2]
  split<;>omega
end
theorem ex209_12 {t:Array Value} (h:t.size=209):∃ f:Nat→Value,t=#[f 0,f 1,f 2,f 3,f 4,f 5,f 6,f 7,f 8,f 9,f 10,f 11,f 12,f 13,f 14,f 15,f 16,f 17,f 18,f 19,f 20,f 21,f 22,f 23,f 24,f 25,f 26,f 27,f 28,f 29,f 30,f 31,f 32,f 33,f 34,f 35,f 36,f 37,f 38,f 39,f 40,f 41,f 42,f 43,f 44,f 45,f 46,f 47,f 48,f 49,f 50,f 51,f 52,f 53,f 54,f 55,f 56,f 57,f 58,f 59,f 60,f 61,f 62,f 63,f 64,f 65,f 66,f 67,f 68,f 69,f 70,f 71,f 72,f 73,f 74,f 75,f 76,f 77,f 78,f 79,f 80,f 81,f 82,f 83,f 84,f 85,f 86,f 87,f 88,f 89,f 90,f 91,f 92,f 93,f 94,f 95,f 96,f 97,f 98,f 99,f 100,f 101,f 102,f 103,f 104,f 105,f 106,f 107,f 108,f 109,f 110,f 111,f 112,f 113,f 114,f 115,f 116,f 117,f 118,f 119,f 120,f 121,f 122,f 123,f 124,f 125,f 126,f 127,f 128,f 129,f 130,f 131,f 132,f 133,f 134,f 135,f 136,f 137,f 138,f 139,f 140,f 141,f 142,f 143,f 144,f 145,f 146,f 147,f 148,f 149,f 150,f 151,f 152,f 153,f 154,f 155,f 156,f 157,f 158,f 159,f 160,f 161,f 162,f 163,f 164,f 165,f 166,f 167,f 168,f 169,f 170,f 171,f 172,f 173,f 174,f 175,f 176,f 177,f 178,f 179,f 180,f 181,f 182,f 183,f 184,f 185,f 186,f 187,f 188,f 189,f 190,f 191,f 192,f 193,f 194,f 195,f 196,f 197,f 198,f 199,f 200,f 201,f 202,f 203,f 204,f 205,f 206,f 207,f 208]:=by
 obtain⟨f,rfl⟩:=exN 209 h
 exact⟨f,by kernel_rfl⟩
theorem f12_0 (d:Dry) (ha sa:Option Addr) (hn hcap sn scap:Nat) (u:Value) (ue:Value) (t:Array Value) (hs:t.size=209) (h0:t[0]?=some (d.val ⟨.slice ha hn hcap,.slice sa sn scap⟩)) (h1:t[1]?=some (u)) (h2:t[2]?=some (ue)) (w:World)  :
  x12_0.wpIn FW 0 Try.prog (fun e a w'=>e=.normal∧a.defers=[]∧(a.tmps.size=209∧a.tmps[1]?=some (u)∧a.tmps[2]?=some (ue)∧a.tmps[3]?=some (ptr w.heap.size))∧w'=w.alloc (.cells (d.cellsA ⟨.slice ha hn hcap,.slice sa sn scap⟩) 27)) ⟨t,[]⟩ w:=by
 obtain⟨f,rfl⟩:=ex209_12 hs
 have g0:f 0=d.val ⟨.slice ha hn hcap,.slice sa sn scap⟩:=by simpa using h0
 have g1:f 1=u:=by simpa using h1
 have g2:f 2=ue:=by simpa using h2
 rw [g0,g1,g2] at *
 clear hs h0 h1 h2 g0 g1 g2
 simp only [x12_0,x12_1,x12_2,x12_3,x12_4,x12_5,x12_7,x12_8,x12_14,x12_15,x12_17,x12_22,x12_24,x12_25,x12_27,r12_3,r12_7,r12_15,r12_24,b12,Try.f12,cL,cR,cB,cT]
 gi_wp2
def Qf12_1 (w:World) (p1:Nat) (u:Value) (ue:Value) (b:Bool) (t:Array Value) (w' : World):Prop:=(t.size=209∧t[1]?=some (u)∧t[2]?=some (ue)∧t[3]?=some (ptr p1)∧t[28]?=some (.bool b))∧Nx w w'
theorem f12_1 (d:Dry) (r:R2) (p1:Nat) (u:Value) (ea:Option Addr) (m ecap:Nat) (t:Array Value) (hs:t.size=209) (h1:t[1]?=some (u)) (h2:t[2]?=some (.slice ea m ecap)) (h3:t[3]?=some (ptr p1)) (w:World) (hB:DBox w p1 d r) (hh:Sl w r.h 2 (d.heats.map two)) (hst:Sl w r.s 6 (d.steps.map Stp.cells)) (hl:d.heats.length≤140737488355328) (sl:d.steps.length≤140737488355328) (hm:m≤140737488355328) :
  x12_1.wpIn FW 0 Try.prog (fun e a w'=>e=.normal∧a.defers=[]∧Qf12_1 w p1 u (.slice ea m ecap) (out12 d m) a.tmps w') ⟨t,[]⟩ w:=by
 obtain⟨f,rfl⟩:=ex209_12 hs
 have g1:f 1=u:=by simpa using h1
 have g2:f 2=.slice ea m ecap:=by simpa using h2
 have g3:f 3=ptr p1:=by simpa using h3
 rw [g1,g2,g3] at *
 clear hs h1 h2 h3 g1 g2 g3
 have k16:=great16_big d r w hh hst hl sl
 have c0:w.cell? ⟨p1,0,none⟩=some (r.h):=hB.at' 0 _ rfl
 have c1:w.cell? ⟨p1,1,none⟩=some (num d.soak):=hB.at' 1 _ rfl
 have c2:w.cell? ⟨p1,2,none⟩=some (num d.brittle):=hB.at' 2 _ rfl
 have c3:w.cell? ⟨p1,3,none⟩=some (num d.start.w):=hB.at' 3 _ rfl
 have c4:w.cell? ⟨p1,4,none⟩=some (num d.start.c):=hB.at' 4 _ rfl
 have c5:w.cell? ⟨p1,5,none⟩=some (num d.start.h):=hB.at' 5 _ rfl
 have c6:w.cell? ⟨p1,6,none⟩=some (r.s):=hB.at' 6 _ rfl
 by_cases hg:greatD d=true
 ·have ho:out12 d m=true:=by simp [out12,out11,hg]
  rw [hg] at k16
  rw [ho]
  clear hB hh hst hl sl hg ho
  simp only [x12_0,x12_1,x12_2,x12_3,x12_4,x12_5,x12_7,x12_8,x12_14,x12_15,x12_17,x12_22,x12_24,x12_25,x12_27,r12_3,r12_7,r12_15,r12_24,b12,Try.f12,cL,cR,cB,cT]
  gi_wp2_with (first | (gi_at_call 16;refine CallsIn.mono k16 ?_;rintro e w1 ⟨rfl,n1⟩) | gi_in)
  exact⟨⟨rfl,rfl,rfl,rfl,rfl⟩,n1⟩
 ·have hd:DrySl w d r:=⟨hh,hst,by simp [greatD] at hg;omega,by simp [greatD] at hg;omega⟩
  have hgf:greatD d=false:=by simpa using hg
  rw [hgf] at k16
  obtain⟨rh,rs⟩:=r
  obtain⟨ha,hcap,e1⟩:=hd.heats.cases
  obtain⟨sa,scap,e2⟩:=hd.steps.cases
  dsimp only at e1 e2
  rw [List.length_map] at e1 e2
  subst e1 e2
  have kc:=fun (w1:World) (n:Nx w w1)=>(⟨(OldC.nx n).at c0,(OldC.nx n).at c1,(OldC.nx n).at c2,(OldC.nx n).at c3,(OldC.nx n).at c4,(OldC.nx n).at c5,(OldC.nx n).at c6⟩:_∧_∧_∧_∧_∧_∧_)
  dsimp only at kc
  have k33:=fun (w1:World) (n:Nx w w1)=>check33_any d _ w1 (hd.nx n)
  obtain⟨ov,hov⟩:∃ o,out12 d m=o:=⟨_,rfl⟩
  rw [hov]
  unfold out12 out11 at hov
  rw [hgf] at hov
  generalize dryF d=f1 at *
  clear hB hh hst hl sl hg hd hgf
  by_cases h1:f1=0
  ·subst h1
   by_cases h2:40<m
   ·have ho:ov=true:=by rw [← hov];simp [h2]
    rw [ho]
    have b1:decide ((m:Int) > 40)=true:=decide_eq_true (by omega)
    clear hov ho h2
    simp only [x12_0,x12_1,x12_2,x12_3,x12_4,x12_5,x12_7,x12_8,x12_14,x12_15,x12_17,x12_22,x12_24,x12_25,x12_27,r12_3,r12_7,r12_15,r12_24,b12,Try.f12,cL,cR,cB,cT]
    gi_wp2_with (first | (gi_at_call 16;refine CallsIn.mono k16 ?_;rintro e w1 ⟨rfl,n1⟩;clear c0 c1 c2 c3 c4 c5 c6;obtain⟨c0,c1,c2,c3,c4,c5,c6⟩:=kc _ n1) | (gi_at_call 33;refine CallsIn.mono (k33 _ n1) ?_;rintro e w2 ⟨rfl,n2'⟩;have n2:=n1.trans n2') | gi_in)
    exact⟨⟨rfl,rfl,rfl,rfl,rfl⟩,n2⟩
   ·have ho:ov=false:=by rw [← hov];simp;omega
    rw [ho]
    have b1:decide ((m:Int) > 40)=false:=decide_eq_false (by omega)
    clear hov ho h2
    simp only [x12_0,x12_1,x12_2,x12_3,x12_4,x12_5,x12_7,x12_8,x12_14,x12_15,x12_17,x12_22,x12_24,x12_25,x12_27,r12_3,r12_7,r12_15,r12_24,b12,Try.f12,cL,cR,cB,cT]
    gi_wp2_with (first | (gi_at_call 16;refine CallsIn.mono k16 ?_;rintro e w1 ⟨rfl,n1⟩;clear c0 c1 c2 c3 c4 c5 c6;obtain⟨c0,c1,c2,c3,c4,c5,c6⟩:=kc _ n1) | (gi_at_call 33;refine CallsIn.mono (k33 _ n1) ?_;rintro e w2 ⟨rfl,n2'⟩;have n2:=n1.trans n2') | gi_in)
    exact⟨⟨rfl,rfl,rfl,rfl,rfl⟩,n2⟩
  ·have ho:ov=true:=by rw [← hov];simp [h1]
   rw [ho]
   have b1:(f1 != 0)=true:=by simpa using h1
   clear hov ho h1
   simp only [x12_0,x12_1,x12_2,x12_3,x12_4,x12_5,x12_7,x12_8,x12_14,x12_15,x12_17,x12_22,x12_24,x12_25,x12_27,r12_3,r12_7,r12_15,r12_24,b12,Try.f12,cL,cR,cB,cT]
   gi_wp2_with (first | (gi_at_call 16;refine CallsIn.mono k16 ?_;rintro e w1 ⟨rfl,n1⟩;clear c0 c1 c2 c3 c4 c5 c6;obtain⟨c0,c1,c2,c3,c4,c5,c6⟩:=kc _ n1) | (gi_at_call 33;refine CallsIn.mono (k33 _ n1) ?_;rintro e w2 ⟨rfl,n2'⟩;have n2:=n1.trans n2') | gi_in)
   exact⟨⟨rfl,rfl,rfl,rfl,rfl⟩,n2⟩
def Qf12_3 (w:World) (p1:Nat) (ue:Value) (plan air:List Int) (t:Array Value) (w' : World):Prop:=∃ vp va,(t.size=209∧t[2]?=some (ue)∧t[3]?=some (ptr p1)∧t[7]?=some (vp)∧t[8]?=some (va))∧Nx w w'∧Sl w' vp 1 (plan.map one)∧Sl w' va 1 (air.map one)
theorem f12_3 (d:Dry) (r:R2) (p1:Nat) (u:Value) (ue:Value) (t:Array Value) (hs:t.size=209) (h1:t[1]?=some (u)) (h2:t[2]?=some (ue)) (h3:t[3]?=some (ptr p1)) (w:World) (hB:DBox w p1 d r) (hd:DrySl w d r) (hO:d.Ok) (picks:List Int) (hu:Sl w u 1 (picks.map fun x=>[u16 x])) (hpx:∀ x∈picks,0≤x∧x≤65535) (hpl:picks.length≤140737488355328) :
  x12_3.wpIn FW 0 Try.prog (fun e a w'=>e=.normal∧a.defers=[]∧Qf12_3 w p1 ue (planP d picks) (airP d picks) a.tmps w') ⟨t,[]⟩ w:=by
 obtain⟨f,rfl⟩:=ex209_12 hs
 have g1:f 1=u:=by simpa using h1
 have g2:f 2=ue:=by simpa using h2
 have g3:f 3=ptr p1:=by simpa using h3
 rw [g1,g2,g3] at *
 clear hs h1 h2 h3 g1 g2 g3
 have k38:=fun (w1:World) (n:Nx w w1)=>plan38_any d r u picks w1 (hd.nx n) hO (hu.nx n) hpx hpl
 have k41:=fun (w1:World) (n:Nx w w1)=>air41_any d r u picks w1 (hd.nx n) hO (hu.nx n) hpx hpl
 have c0:w.cell? ⟨p1,0,none⟩=some (r.h):=hB.at' 0 _ rfl
 have c1:w.cell? ⟨p1,1,none⟩=some (num d.soak):=hB.at' 1 _ rfl
 have c2:w.cell? ⟨p1,2,none⟩=some (num d.brittle):=hB.at' 2 _ rfl
 have c3:w.cell? ⟨p1,3,none⟩=some (num d.start.w):=hB.at' 3 _ rfl
 have c4:w.cell? ⟨p1,4,none⟩=some (num d.start.c):=hB.at' 4 _ rfl
 have c5:w.cell? ⟨p1,5,none⟩=some (num d.start.h):=hB.at' 5 _ rfl
 have c6:w.cell? ⟨p1,6,none⟩=some (r.s):=hB.at' 6 _ rfl
 have hBl:=hB.lt
 obtain⟨rh,rs⟩:=r
 obtain⟨ha,hcap,e1⟩:=hd.heats.cases
 obtain⟨sa,scap,e2⟩:=hd.steps.cases
 dsimp only at e1 e2
 rw [List.length_map] at e1 e2
 subst e1 e2
 obtain⟨ua,ucap,rfl⟩:=hu.cases
 rw [List.length_map] at *
 clear hB hd hO hu hpx hpl
 simp only [x12_0,x12_1,x12_2,x12_3,x12_4,x12_5,x12_7,x12_8,x12_14,x12_15,x12_17,x12_22,x12_24,x12_25,x12_27,r12_3,r12_7,r12_15,r12_24,b12,Try.f12,cL,cR,cB,cT]
 refine wpIn_region_Zn (Nx w) 5 (by kernel_rfl) ?_
 obtain⟨Z,G,hN,hG,hG'⟩:=class_par (C:=Nx w) (x:=w) (Nx.refl _)
 have r0:=fun z=>((hG' z).cell (p:=⟨p1,0,none⟩) hBl).trans c0
 have r1:=fun z=>((hG' z).cell (p:=⟨p1,1,none⟩) hBl).trans c1
 have r2:=fun z=>((hG' z).cell (p:=⟨p1,2,none⟩) hBl).trans c2
 have r3:=fun z=>((hG' z).cell (p:=⟨p1,3,none⟩) hBl).trans c3
 have r4:=fun z=>((hG' z).cell (p:=⟨p1,4,none⟩) hBl).trans c4
 have r5:=fun z=>((hG' z).cell (p:=⟨p1,5,none⟩) hBl).trans c5
 have r6:=fun z=>((hG' z).cell (p:=⟨p1,6,none⟩) hBl).trans c6
 change Go.wpAnyZ _ _ _ _ _ _ _ _ 8 #[false,false,false,false,false,false,false,false] _ _
 obtain⟨n1,s1⟩:Nx w w.drew∧w.drew.heap.size=w.heap.size:=⟨Nx.drew (Nx.refl w),rfl⟩
 generalize w.drew=V at n1 s1 ⊢
 refine Go.zqE 0 hG (by kernel_rfl) (fun _ _ _ h=>by cases h.1) rfl ?_;intro o ho K hK;simp at ho;subst ho;gi_big_quiet_op;go_big_quiet_on
 refine Go.zqE 1 hG (by kernel_rfl) (fun _ _ _ h=>by cases h.1) rfl ?_;intro o ho K hK;simp at ho;subst ho;gi_big_quiet_op;go_big_quiet_on
 refine Go.zqE 3 hG (by kernel_rfl) (fun _ _ _ h=>by cases h.1) rfl ?_;intro o ho K hK;simp at ho;subst ho;gi_big_quiet_op;go_big_quiet_on
 refine Go.zqE 4 hG (by kernel_rfl) (fun _ _ _ h=>by cases h.1) rfl ?_;intro o ho K hK;simp at ho;subst ho;gi_big_quiet_op;go_big_quiet_on
 clear r0 r1 r2 r3 r4 r5 r6 hG hG' hN c0 c1 c2 c3 c4 c5 c6
 refine Go.zoE 2 (by kernel_rfl) rfl ?_ ?_;rotate_left;intro o ho K hK;simp at ho;subst ho
 gi_wp2_with (first | (gi_at_call 38;refine CallsIn.mono (k38 _ n1) ?_;rintro e w2 ⟨vp,rfl,n2,sp⟩) | gi_in)
 have n12:=n1.trans n2
 refine Go.zoE 5 (by kernel_rfl) rfl ?_ ?_;rotate_left;intro o ho K hK;simp at ho;subst ho
 gi_wp2_with (first | (gi_at_call 41;refine CallsIn.mono (k41 _ n12) ?_;rintro e w3 ⟨va,rfl,n3,sa⟩) | gi_in)
 refine Go.zoE 6 (by kernel_rfl) rfl ?_ ?_;rotate_left;intro o ho K hK;simp at ho;subst ho
 gi_wp2_with fail
 refine Go.zoE 7 (by kernel_rfl) rfl ?_ ?_;rotate_left;intro o ho K hK;simp at ho;subst ho
 gi_wp2_with fail
 refine wpAnyZ_done (by kernel_rfl) (fun h=>absurd h (by decide)) ⟨rfl,?_⟩
 ·exact⟨trivial,rfl,vp,va,⟨rfl,rfl,rfl,rfl,rfl⟩,n12.trans n3,sp.nx n3,sa⟩
 all_goals (intro _;first | exact n1 | exact n12 | exact n12.trans n3 | contradiction)
def Qf12_4 (w:World) (p1:Nat) (ue:Value) (vp:Value) (va:Value) (L:List St) (t:Array Value) (w' : World):Prop:=∃ vl,(t.size=209∧t[2]?=some (ue)∧t[3]?=some (ptr p1)∧t[7]?=some (vp)∧t[8]?=some (va)∧t[9]?=some (vl)∧t[10]?=some (num 0))∧Nx w w'∧Sl w' vl 3 (L.map St.cells)
theorem f12_4 (d:Dry) (r:R2) (p1:Nat) (ue:Value) (vp:Value) (va:Value) (plan air:List Int) (L:List St) (t:Array Value) (hs:t.size=209) (h2:t[2]?=some (ue)) (h3:t[3]?=some (ptr p1)) (h7:t[7]?=some (vp)) (h8:t[8]?=some (va)) (w:World) (hB:DBox w p1 d r) (hd:DrySl w d r) (hp:Sl w vp 1 (plan.map one)) (hv:Sl w va 1 (air.map one)) (hl:plan.length≤1000000000) (hl2:air.length≤1000000000) (hfo:followF d plan air=(L,0)) :
  x12_4.wpIn FW 0 Try.prog (fun e a w'=>e=.normal∧a.defers=[]∧Qf12_4 w p1 ue vp va L a.tmps w') ⟨t,[]⟩ w:=by
 obtain⟨f,rfl⟩:=ex209_12 hs
 have g2:f 2=ue:=by simpa using h2
 have g3:f 3=ptr p1:=by simpa using h3
 have g7:f 7=vp:=by simpa using h7
 have g8:f 8=va:=by simpa using h8
 rw [g2,g3,g7,g8] at *
 clear hs h2 h3 h7 h8 g2 g3 g7 g8
 have k44:=follow44_any d r vp va plan air w hd hp hv hl hl2
 rw [hfo] at k44
 clear hfo
 have c0:w.cell? ⟨p1,0,none⟩=some (r.h):=hB.at' 0 _ rfl
 have c1:w.cell? ⟨p1,1,none⟩=some (num d.soak):=hB.at' 1 _ rfl
 have c2:w.cell? ⟨p1,2,none⟩=some (num d.brittle):=hB.at' 2 _ rfl
 have c3:w.cell? ⟨p1,3,none⟩=some (num d.start.w):=hB.at' 3 _ rfl
 have c4:w.cell? ⟨p1,4,none⟩=some (num d.start.c):=hB.at' 4 _ rfl
 have c5:w.cell? ⟨p1,5,none⟩=some (num d.start.h):=hB.at' 5 _ rfl
 have c6:w.cell? ⟨p1,6,none⟩=some (r.s):=hB.at' 6 _ rfl
 obtain⟨rh,rs⟩:=r
 obtain⟨ha,hcap,e1⟩:=hd.heats.cases
 obtain⟨sa,scap,e2⟩:=hd.steps.cases
 dsimp only at e1 e2
 rw [List.length_map] at e1 e2
 subst e1 e2
 obtain⟨pa,pcap,e3⟩:=hp.cases
 obtain⟨aa,acap,e4⟩:=hv.cases
 rw [List.length_map] at e3 e4
 subst e3 e4
 try dsimp only at *
 clear hB hd hp hv
 simp only [x12_0,x12_1,x12_2,x12_3,x12_4,x12_5,x12_7,x12_8,x12_14,x12_15,x12_17,x12_22,x12_24,x12_25,x12_27,r12_3,r12_7,r12_15,r12_24,b12,Try.f12,cL,cR,cB,cT]
 gi_wp2_with (first | (gi_at_call 44;refine CallsIn.mono k44 ?_;rintro e w1 ⟨vl,rfl,n1,hrow⟩) | gi_in)
 exact⟨vl,⟨rfl,rfl,rfl,rfl,rfl,rfl,rfl⟩,n1,stRow_sl hrow⟩
def Qf12_5 (w:World) (p1:Nat) (ue:Value) (vp:Value) (va:Value) (vl:Value) (t:Array Value) (w' : World):Prop:=(t.size=209∧t[2]?=some (ue)∧t[3]?=some (ptr p1)∧t[7]?=some (vp)∧t[8]?=some (va)∧t[9]?=some (vl))∧Nx w w'
theorem f12_5 (d:Dry) (r:R2) (p1:Nat) (ue:Value) (vp:Value) (va:Value) (vl:Value) (L:List St) (t:Array Value) (hs:t.size=209) (h2:t[2]?=some (ue)) (h3:t[3]?=some (ptr p1)) (h7:t[7]?=some (vp)) (h8:t[8]?=some (va)) (h9:t[9]?=some (vl)) (h10:t[10]?=some (num 0)) (w:World) (hB:DBox w p1 d r) (hd:DrySl w d r) (hL:Sl w vl 3 (L.map St.cells)) (hlen:L.length=d.steps.length) :
  x12_5.wpIn FW 0 Try.prog (fun e a w'=>e=.normal∧a.defers=[]∧Qf12_5 w p1 ue vp va vl a.tmps w') ⟨t,[]⟩ w:=by
 obtain⟨f,rfl⟩:=ex209_12 hs
 have g2:f 2=ue:=by simpa using h2
 have g3:f 3=ptr p1:=by simpa using h3
 have g7:f 7=vp:=by simpa using h7
 have g8:f 8=va:=by simpa using h8
 have g9:f 9=vl:=by simpa using h9
 have g10:f 10=num 0:=by simpa using h10
 rw [g2,g3,g7,g8,g9,g10] at *
 clear hs h2 h3 h7 h8 h9 h10 g2 g3 g7 g8 g9 g10
 have c6:w.cell? ⟨p1,6,none⟩=some (r.s):=hB.at' 6 _ rfl
 obtain⟨rh,rs⟩:=r
 obtain⟨ha,hcap,e1⟩:=hd.heats.cases
 obtain⟨sa,scap,e2⟩:=hd.steps.cases
 dsimp only at e1 e2
 rw [List.length_map] at e1 e2
 subst e1 e2
 obtain⟨la,lcap,e3⟩:=hL.cases
 rw [List.length_map] at e3
 subst e3
 have hsl:=hd.sl
 clear hB hd hL
 rw [hlen]
 clear hlen
 try dsimp only at *
 generalize d.steps.length=m at *
 simp only [x12_0,x12_1,x12_2,x12_3,x12_4,x12_5,x12_7,x12_8,x12_14,x12_15,x12_17,x12_22,x12_24,x12_25,x12_27,r12_3,r12_7,r12_15,r12_24,b12,Try.f12,cL,cR,cB,cT]
 gi_wp2
 exact⟨⟨rfl,rfl,rfl,rfl,rfl,rfl⟩,Nx.refl _⟩
theorem f12_7 (p1:Nat) (ue:Value) (vp:Value) (va:Value) (vl:Value) (t:Array Value) (hs:t.size=209) (h2:t[2]?=some (ue)) (h3:t[3]?=some (ptr p1)) (h7:t[7]?=some (vp)) (h8:t[8]?=some (va)) (h9:t[9]?=some (vl)) (w:World)  :
  x12_7.wpIn FW 0 Try.prog (fun e a w'=>e=.normal∧a.defers=[]∧(a.tmps.size=209∧a.tmps[2]?=some (ue)∧a.tmps[3]?=some (ptr p1)∧a.tmps[7]?=some (vp)∧a.tmps[8]?=some (va)∧a.tmps[9]?=some (vl)∧a.tmps[11]?=some (.slice none 0 0))∧w'=w) ⟨t,[]⟩ w:=by
 obtain⟨f,rfl⟩:=ex209_12 hs
 have g2:f 2=ue:=by simpa using h2
 have g3:f 3=ptr p1:=by simpa using h3
 have g7:f 7=vp:=by simpa using h7
 have g8:f 8=va:=by simpa using h8
 have g9:f 9=vl:=by simpa using h9
 rw [g2,g3,g7,g8,g9] at *
 clear hs h2 h3 h7 h8 h9 g2 g3 g7 g8 g9
 simp only [x12_0,x12_1,x12_2,x12_3,x12_4,x12_5,x12_7,x12_8,x12_14,x12_15,x12_17,x12_22,x12_24,x12_25,x12_27,r12_3,r12_7,r12_15,r12_24,b12,Try.f12,cL,cR,cB,cT]
 gi_wp2
end Go.Proofs.Ytedomogjmhommaa
namespace Go.Proofs.Ytedomogjmhommaa
open Go.RowKit Go.Con Go.Conc
def Qf12_8 (w:World) (p1:Nat) (vp:Value) (va:Value) (xs:List Sn) (n:Nat) (t:Array Value) (w' : World):Prop:=∃ sna snc,(t.size=209∧t[3]?=some (ptr p1)∧t[7]?=some (vp)∧t[8]?=some (va)∧t[11]?=some (.slice sna n snc))∧Nx w w'∧n≤snc∧Sl w' (.slice sna n snc) 3 (xs.map Sn.cells)
theorem f12_8 (p1:Nat) (ue:Value) (vp:Value) (va:Value) (vl:Value) (L:List St) (errs:List Int) (t:Array Value) (hs:t.size=209) (h2:t[2]?=some (ue)) (h3:t[3]?=some (ptr p1)) (h7:t[7]?=some (vp)) (h8:t[8]?=some (va)) (h9:t[9]?=some (vl)) (h11:t[11]?=some (.slice none 0 0)) (w:World) (hL:Sl w vl 3 (L.map St.cells)) (hE:Sl w ue 1 (errs.map fun x=>[u8v x])) (he:∀ e∈errs,0≤e∧e≤255) (hLb:∀ s∈L,0≤s.w∧s.w≤5000) (hll:L.length≤5) (hel:errs.length≤40) :
  x12_8.wpIn FW 0 Try.prog (fun e a w'=>e=.normal∧a.defers=[]∧Qf12_8 w p1 vp va (seenP L errs) (min errs.length L.length) a.tmps w') ⟨t,[]⟩ w:=by
 obtain⟨f,rfl⟩:=ex209_12 hs
 have g2:f 2=ue:=by simpa using h2
 have g3:f 3=ptr p1:=by simpa using h3
 have g7:f 7=vp:=by simpa using h7
 have g8:f 8=va:=by simpa using h8
 have g9:f 9=vl:=by simpa using h9
 have g11:f 11=.slice none 0 0:=by simpa using h11
 rw [g2,g3,g7,g8,g9,g11] at *
 clear hs h2 h3 h7 h8 h9 h11 g2 g3 g7 g8 g9 g11
 have HL:=Lib.hid hL
 have HE:=Lib.hid hE
 have HEB:=Lib.hid he
 have HLB:=Lib.hid hLb
 have hlen:=Lib.hid (seenP_len L errs)
 obtain⟨la,lcap,e3⟩:=hL.cases
 obtain⟨ea,ecap,e4⟩:=hE.cases
 rw [List.length_map] at e3 e4
 subst e3 e4
 clear hL hE he hLb
 simp only [x12_0,x12_1,x12_2,x12_3,x12_4,x12_5,x12_7,x12_8,x12_14,x12_15,x12_17,x12_22,x12_24,x12_25,x12_27,r12_3,r12_7,r12_15,r12_24,b12,Try.f12,cL,cR,cB,cT]
 gi_wp2
 gi_loopw [11,12] (fun v i wr=>∃ k:Nat,k≤errs.length∧k≤L.length∧i=num k∧wr.ownsRow w.heap.size 78 3 v k (((seenP L errs).take k).map Sn.cells).flatten∧Nx w wr) (fun _ i _=>L.length-(intOf i).toNat)
 case atStart=>exact⟨0,Nat.zero_le _,Nat.zero_le _,rfl,World.ownsRow_nil ..,Nx.refl w⟩
 case round =>
  obtain⟨k,hk,hk2,rfl,hown,nr⟩:=hrel
  by_cases hlt:k<errs.length
  ·by_cases hlt2:k<L.length
   ·obtain⟨b,off,rfl,hbl,hcl⟩:=(HL.out).get (by simp;omega)
    obtain⟨b',off',rfl,hbl',hcl'⟩:=(HE.out).get (by simp;omega)
    have hh:L[k]?=some L[k]:=List.getElem?_eq_getElem hlt2
    have ha:errs[k]?=some errs[k]:=List.getElem?_eq_getElem hlt
    have htk:Hid (((seenP L errs).take (k+1)).map Sn.cells=((seenP L errs).take k).map Sn.cells++[(seenAt L errs k).cells]):=by
     show _=_
     rw [List.take_succ,seenP_at (by omega),List.map_append];rfl
    rw [seenAt_eq hh ha] at htk
    have hsb:=HLB.out _ (List.mem_of_getElem? hh)
    have hee:=HEB.out _ (List.mem_of_getElem? ha)
    have hrl:Hid ((((seenP L errs).take k).map Sn.cells).length=k):=by
     show _=_
     rw [List.length_map,List.length_take,hlen.out];omega
    generalize L[k]=s at hh htk hsb
    generalize errs[k]=e at ha htk hee
    have or:=OldC.nx nr
    have e0:wr.cell? ⟨b,off+k * 3,none⟩=some (num s.w):=slAtO hcl or hh 0 (v:=num s.w) rfl
    have f0:wr.cell? ⟨b',off' + k,none⟩=some (.int .u8 e):=by
     have:=slAtO hcl' or ha 0 (v:=u8v e) rfl
     simpa using this
    have hbw:b<wr.heap.size:=Nat.lt_of_lt_of_le hbl nr.size
    have hbw' : b' < wr.heap.size:=Nat.lt_of_lt_of_le hbl' nr.size
    have d1:decide (s.w<0)=false:=decide_eq_false (by omega)
    have d2:decide (s.w > 5000)=false:=decide_eq_false (by omega)
    have hmx:(if (0:Int)<s.w-e then s.w-e else 0)=max 0 (s.w-e):=by split<;>omega
    have hmn:(if s.w+e / 2<(5000:Int) then s.w+e / 2 else 5000)=min 5000 (s.w+e / 2):=by split<;>omega
    have hq:e.tdiv 2=e / 2:=Int.tdiv_eq_ediv_of_nonneg hee.1
    clear hcl hcl' hh ha
    gi_upto_region 13 with fail
    refine wpIn_region_Zn (Nx wr) 30 (by kernel_rfl) ?_
    obtain⟨Z,G,hN,hG,hG'⟩:=class_par (C:=Nx wr) (x:=wr) (Nx.refl _)
    have r0:=fun z=>((hG' z).cell (p:=⟨b,off+k * 3,none⟩) hbw).trans e0
    have r1:=fun z=>((hG' z).cell (p:=⟨b',off' + k,none⟩) hbw').trans f0
    change Go.wpAnyZ _ _ _ _ _ _ _ _ 32 #[false,false,false,false,false,false,false,false,false,false,false,false,false,false,false,false,false,false,false,false,false,false,false,false,false,false,false,false,false,false,false,false] _ _
    obtain⟨n1,s1⟩:Nx wr wr.drew∧wr.drew.heap.size=wr.heap.size:=⟨Nx.drew (Nx.refl wr),rfl⟩
    generalize wr.drew=V at n1 s1 ⊢
    refine Go.zqE 0 hG (by kernel_rfl) (fun _ _ _ h=>by cases h.1) rfl ?_;intro o ho K hK;simp at ho;subst ho;gi_big_quiet_op;go_big_quiet_on
    refine Go.zqE 1 hG (by kernel_rfl) (fun _ _ _ h=>by cases h.1) rfl ?_;intro o ho K hK;simp at ho;subst ho;gi_big_quiet_op;go_big_quiet_on
    refine Go.zqE 2 hG (by kernel_rfl) (fun _ _ _ h=>by cases h.1) rfl ?_;intro o ho K hK;simp at ho;subst ho;gi_big_quiet_op;go_big_quiet_on
    refine Go.zqE 3 hG (by kernel_rfl) (fun _ _ _ h=>by cases h.1) rfl ?_;intro o ho K hK;simp at ho;subst ho;gi_big_quiet_op;go_big_quiet_on
    refine Go.zqE 4 hG (by kernel_rfl) (fun _ _ _ h=>by cases h.1) rfl ?_;intro o ho K hK;simp at ho;subst ho;gi_big_quiet_op;go_big_quiet_on
    refine Go.zqE 5 hG (by kernel_rfl) (fun _ _ _ h=>by cases h.1) rfl ?_;intro o ho K hK;simp at ho;subst ho;gi_big_quiet_op;go_big_quiet_on
    refine Go.zqE 6 hG (by kernel_rfl) (fun _ _ _ h=>by cases h.1) rfl ?_;intro o ho K hK;simp at ho;subst ho;gi_big_quiet_op;go_big_quiet_on
    refine Go.zqE 7 hG (by kernel_rfl) (fun _ _ _ h=>by cases h.1) rfl ?_;intro o ho K hK;simp at ho;subst ho;gi_big_quiet_op;go_big_quiet_on
    refine Go.zqE 8 hG (by kernel_rfl) (fun _ _ _ h=>by cases h.1) rfl ?_;intro o ho K hK;simp at ho;subst ho;gi_big_quiet_op;go_big_quiet_on
    refine Go.zqE 9 hG (by kernel_rfl) (fun _ _ _ h=>by cases h.1) rfl ?_;intro o ho K hK;simp at ho;subst ho;gi_big_quiet_op;go_big_quiet_on
    refine Go.zqE 10 hG (by kernel_rfl) (fun _ _ _ h=>by cases h.1) rfl ?_;intro o ho K hK;simp at ho;subst ho;gi_big_quiet_op;go_big_quiet_on
    refine Go.ztE 11 (by kernel_rfl) (fun _ _ _ h=>by cases h.1) ?_;intro o ho;simp at ho;subst ho;refine⟨_,yC_u8 rfl hee,?_⟩;simp only [Go.Act.put,List.setIfInBounds_toArray,List.set_cons_succ,List.set_cons_zero]
    refine Go.zqE 12 hG (by kernel_rfl) (fun _ _ _ h=>by cases h.1) rfl ?_;intro o ho K hK;simp at ho;subst ho;gi_big_quiet_op;go_big_quiet_on
    refine Go.ztE 13 (by kernel_rfl) (fun _ _ _ h=>by cases h.1) ?_;intro o ho;simp at ho;subst ho;refine⟨_,yC_maxc (x:=0) (y:=s.w-e) (by kernel_rfl) (z:=max 0 (s.w-e)) hmx,?_⟩;simp only [Go.Act.put,List.setIfInBounds_toArray,List.set_cons_succ,List.set_cons_zero]
    refine Go.zqE 14 hG (by kernel_rfl) (fun _ _ _ h=>by cases h.1) rfl ?_;intro o ho K hK;simp at ho;subst ho;gi_big_quiet_op;go_big_quiet_on
    refine Go.zqE 15 hG (by kernel_rfl) (fun _ _ _ h=>by cases h.1) rfl ?_;intro o ho K hK;simp at ho;subst ho;gi_big_quiet_op;go_big_quiet_on
    refine Go.zqE 16 hG (by kernel_rfl) (fun _ _ _ h=>by cases h.1) rfl ?_;intro o ho K hK;simp at ho;subst ho;gi_big_quiet_op;go_big_quiet_on
    refine Go.zqE 17 hG (by kernel_rfl) (fun _ _ _ h=>by cases h.1) rfl ?_;intro o ho K hK;simp at ho;subst ho;gi_big_quiet_op;go_big_quiet_on
    refine Go.zqE 18 hG (by kernel_rfl) (fun _ _ _ h=>by cases h.1) rfl ?_;intro o ho K hK;simp at ho;subst ho;gi_big_quiet_op;go_big_quiet_on
    refine Go.zqE 19 hG (by kernel_rfl) (fun _ _ _ h=>by cases h.1) rfl ?_;intro o ho K hK;simp at ho;subst ho;gi_big_quiet_op;go_big_quiet_on
    refine Go.zqE 20 hG (by kernel_rfl) (fun _ _ _ h=>by cases h.1) rfl ?_;intro o ho K hK;simp at ho;subst ho;gi_big_quiet_op;go_big_quiet_on
    refine Go.zqE 21 hG (by kernel_rfl) (fun _ _ _ h=>by cases h.1) rfl ?_;intro o ho K hK;simp at ho;subst ho;gi_big_quiet_op;go_big_quiet_on
    refine Go.zqE 22 hG (by kernel_rfl) (fun _ _ _ h=>by cases h.1) rfl ?_;intro o ho K hK;simp at ho;subst ho;gi_big_quiet_op;go_big_quiet_on
    refine Go.ztE 23 (by kernel_rfl) (fun _ _ _ h=>by cases h.1) ?_;intro o ho;simp at ho;subst ho;refine⟨_,yC_u8 rfl hee,?_⟩;simp only [Go.Act.put,List.setIfInBounds_toArray,List.set_cons_succ,List.set_cons_zero]
    refine Go.zqE 24 hG (by kernel_rfl) (fun _ _ _ h=>by cases h.1) rfl ?_;intro o ho K hK;simp at ho;subst ho;gi_big_quiet_op;go_big_quiet_on
    refine Go.zqE 25 hG (by kernel_rfl) (fun _ _ _ h=>by cases h.1) rfl ?_;intro o ho K hK;simp at ho;subst ho;gi_big_quiet_op;go_big_quiet_on
    refine Go.ztE 26 (by kernel_rfl) (fun _ _ _ h=>by cases h.1) ?_;intro o ho;simp at ho;subst ho;refine⟨_,yC_minc (x:=5000) (y:=s.w+e / 2) (by kernel_rfl) (z:=min 5000 (s.w+e / 2)) hmn,?_⟩;simp only [Go.Act.put,List.setIfInBounds_toArray,List.set_cons_succ,List.set_cons_zero]
    have nV:=nr.trans n1
    clear r0 r1 hG hG' hN e0 f0 d1 d2
    have k48:=span48_any (max 0 (s.w-e)) (min 5000 (s.w+e / 2)) V
    have n5:Nx V (V.alloc (.cells #[num (max 0 (s.w-e)),num (min 5000 (s.w+e / 2))] 45)):=alloc_nx (Nx.refl V) _
    refine Go.zoE 27 (by kernel_rfl) rfl ?_ ?_;rotate_left;intro o ho K hK;simp at ho;subst ho
    gi_wp2_with (first | (gi_at_call 48;refine CallsIn.mono k48 ?_;rintro e1 w5 ⟨rfl,rfl⟩) | gi_in)
    generalize V.alloc _=V2 at n5 ⊢
    refine Go.zoE 28 (by kernel_rfl) rfl ?_ ?_;rotate_left;intro o ho K hK;simp at ho;subst ho
    gi_wp2_with fail
    refine Go.zoE 29 (by kernel_rfl) rfl ?_ ?_;rotate_left;intro o ho K hK;simp at ho;subst ho
    gi_wp2_with fail
    generalize hY:V2.alloc _=Y
    obtain⟨nY,sY,gY⟩:=al1 hY
    clear hY
    refine Go.zoE 30 (by kernel_rfl) rfl ?_ ?_;rotate_left;intro o ho K hK;simp at ho;subst ho
    have nWY:=(n1.trans n5).trans nY
    have hown2:Y.ownsRow w.heap.size 78 3 u11 (((seenP L errs).take k).map Sn.cells).length (((seenP L errs).take k).map Sn.cells).flatten:=by rw [hrl.out];exact own_nx hown nWY
    have hsz:w.heap.size≤Y.heap.size:=(nr.trans nWY).size
    obtain⟨v7,w7,q7,o7,g7,a7⟩:=run_more2 T49 w.heap.size Y _ _ hown2 V2.heap.size (Sn.cells ⟨k,max 0 (s.w-e),min 5000 (s.w+e / 2)⟩) rfl gY (by simp [Value.oneCell']) (by rw [hrl.out];omega) (by rw [hrl.out];omega) hsz
    refine wpIn_of_value rfl rfl (app_run _ (by kernel_rfl) (by kernel_rfl) q7) (hK _ _ ?_)
    simp only [Go.Act.put,List.setIfInBounds_toArray,List.set_cons_succ,List.set_cons_zero]
    refine Go.zoE 31 (by kernel_rfl) rfl ?_ ?_;rotate_left;intro o ho K hK;simp at ho;subst ho
    gi_wp2_with fail
    refine wpAnyZ_done (by kernel_rfl) (fun h=>absurd h (by decide)) ⟨rfl,?_⟩
    ·have hrow:∀ g,u11.ownBlock=some g→w.heap.size≤g:=fun g hg=>(hown.lt g hg).1
     have n7:Nx w w7:=Below.grown (nr.trans nWY) g7 (nr.trans nWY).size (fun g hg=>hrow g hg)
     rw [← htk.out] at o7
     have o8:w7.ownsRow w.heap.size 78 3 v7 (k+1) (((seenP L errs).take (k+1)).map Sn.cells).flatten:=by
      have:(((seenP L errs).take (k+1)).map Sn.cells).length=k+1:=by rw [htk.out,List.length_append,hrl.out];rfl
      rw [this] at o7
      exact o7
     gi_wp2
     exact⟨⟨k+1,hlt,hlt2,by simp,o8,n7⟩,by simp [intOf];omega⟩
    all_goals (first | exact fun _=>n1 | exact fun _=>n1.trans n5 | exact fun _=>(n1.trans n5).trans nY | exact fun h=>absurd h (by decide))
   ·obtain rfl:k=L.length:=by omega
    have hfull:(seenP L errs).take L.length=seenP L errs:=List.take_of_length_le (by rw [hlen.out];omega)
    have hmin:Hid (min errs.length L.length=L.length):=(show _=_ by omega)
    rw [hfull] at hown
    obtain⟨sna,snc,rfl,hcap⟩:=own_cap hown
    have hown:=Lib.hid hown
    have b1:decide ((L.length:Int)<(errs.length:Int))=true:=decide_eq_true (by omega)
    clear hk hk2 hlt hlt2
    gi_wp2
    all_goals (try rw [hmin.out])
    all_goals exact⟨_,_,⟨rfl,rfl,rfl,rfl,rfl⟩,nr,hcap,own_sl sns_row (by rw [List.length_map,hlen.out];exact hmin.out) hown.out⟩
  ·obtain rfl:k=errs.length:=by omega
   have hfull:(seenP L errs).take errs.length=seenP L errs:=List.take_of_length_le (by rw [hlen.out];omega)
   have hmin:Hid (min errs.length L.length=errs.length):=(show _=_ by omega)
   rw [hfull] at hown
   obtain⟨sna,snc,rfl,hcap⟩:=own_cap hown
   have hown:=Lib.hid hown
   clear hk hlt
   gi_wp2
   all_goals (try rw [hmin.out])
   all_goals exact⟨_,_,⟨rfl,rfl,rfl,rfl,rfl⟩,nr,hcap,own_sl sns_row (by rw [List.length_map,hlen.out];exact hmin.out) hown.out⟩
end Go.Proofs.Ytedomogjmhommaa
