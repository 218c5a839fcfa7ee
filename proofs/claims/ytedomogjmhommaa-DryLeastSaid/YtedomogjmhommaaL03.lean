import Derived.Test.YtedomogjmhommaaL02
set_option linter.all false
set_option maxRecDepth 100000
set_option maxHeartbeats 8000000
namespace Go.Proofs.Ytedomogjmhommaa
open Go.RowKit Go.Con Go.Conc
section
variable {F:Fence} {n:Nat} {ops:Array Oper} {C:World→Prop}
theorem yC_u8 {dst:Option Nat} {ty:TypeId} {pos:String} {af:Array Edge} {a:Act} {x:Nat} {v:Int} (h:a.eval (.tmp x)=.int .u8 v) (hv:0≤v∧v≤255):YieldsC F n Try.prog ops C ⟨dst,.convert 5 3 (.tmp x),ty,pos,af,none⟩ (num v) a :=
 yCP rfl (fun _=>rfl) fun z hz=>by
  generalize a.eval=ρ at h ⊢
  simp [execOp,h,go_sem,Go.convert,Try.underlying5,Try.underlying3]
  first | (simp [IntKind.wrap,IntKind.signed,IntKind.bits];omega) | (unfold IntKind.wrap;simp;omega)
theorem yC_rem {dst:Option Nat} {ty:TypeId} {pos:String} {af:Array Edge} {a:Act} {x y:Nat} {m k:Int} (h:a.eval (.tmp x)=num m) (h2:a.eval (.tmp y)=num k) (hm:0≤m∧m≤255) (hk:0<k):YieldsC F n Try.prog ops C ⟨dst,.binOp .rem 3 (.tmp x) (.tmp y) 3,ty,pos,af,none⟩ (num (m % k)) a :=
 yCP rfl (fun _=>rfl) fun z hz=>by
  generalize a.eval=ρ at h h2 ⊢
  simp [execOp,h,h2,go_sem,Go.binOp,Try.underlying5,Try.underlying3]
  rw [if_neg (by omega),Int.tmod_eq_emod_of_nonneg hm.1]
end
noncomputable def b6:Code:=match Try.f6.body with | some c=>c | none=>.skip
noncomputable def x6_0:Code:=cL b6
noncomputable def x6_1:Code:=cL (cL (cR b6))
noncomputable def x6_2:Code:=cL (cT (cR (cL (cR b6))))
noncomputable def r6_3:Code:=cR (cR b6)
noncomputable def x6_3:Code:=cL r6_3
noncomputable def x6_4:Code:=cL (cR r6_3)
noncomputable def x6_5:Code:=cL (cL (cR (cR r6_3)))
noncomputable def x6_6:Code:=cL (cT (cR (cL (cR (cR r6_3)))))
noncomputable def r6_7:Code:=cR (cR (cR r6_3))
noncomputable def x6_7:Code:=cL (cL r6_7)
noncomputable def x6_8:Code:=cL (cT (cR (cL r6_7)))
noncomputable def x6_9:Code:=cL (cR r6_7)
noncomputable def x6_10:Code:=cL (cR (cR r6_7))
noncomputable def x6_20:Code:=cL (cR (cR (cR r6_7)))
theorem b6_eq:b6=.seq x6_0 (.seq (.seq x6_1 (.cond (.tmp 38) (.seq x6_2 .ret) .skip)) (.seq x6_3 (.seq x6_4 (.seq (.seq x6_5 (.cond (.tmp 69) (.seq x6_6 .ret) .skip)) (.seq (.seq x6_7 (.cond (.tmp 84) (.seq x6_8 .ret) .skip)) (.seq x6_9 (.seq x6_10 (.seq x6_20 .ret)))))))):=by kernel_rfl
theorem ex148 {t:Array Value} (h:t.size=148):∃ f:Nat→Value,t=#[f 0,f 1,f 2,f 3,f 4,f 5,f 6,f 7,f 8,f 9,f 10,f 11,f 12,f 13,f 14,f 15,f 16,f 17,f 18,f 19,f 20,f 21,f 22,f 23,f 24,f 25,f 26,f 27,f 28,f 29,f 30,f 31,f 32,f 33,f 34,f 35,f 36,f 37,f 38,f 39,f 40,f 41,f 42,f 43,f 44,f 45,f 46,f 47,f 48,f 49,f 50,f 51,f 52,f 53,f 54,f 55,f 56,f 57,f 58,f 59,f 60,f 61,f 62,f 63,f 64,f 65,f 66,f 67,f 68,f 69,f 70,f 71,f 72,f 73,f 74,f 75,f 76,f 77,f 78,f 79,f 80,f 81,f 82,f 83,f 84,f 85,f 86,f 87,f 88,f 89,f 90,f 91,f 92,f 93,f 94,f 95,f 96,f 97,f 98,f 99,f 100,f 101,f 102,f 103,f 104,f 105,f 106,f 107,f 108,f 109,f 110,f 111,f 112,f 113,f 114,f 115,f 116,f 117,f 118,f 119,f 120,f 121,f 122,f 123,f 124,f 125,f 126,f 127,f 128,f 129,f 130,f 131,f 132,f 133,f 134,f 135,f 136,f 137,f 138,f 139,f 140,f 141,f 142,f 143,f 144,f 145,f 146,f 147]:=by
 obtain⟨f,rfl⟩:=exN 148 h
 exact⟨f,by kernel_rfl⟩
def out6 (d:Dry) (s:St):Bool:=greatD d || decide (dryF d≠0) || decide (stF d s≠0) || decide (d.steps.length=0)
theorem f6_0 (d:Dry) (ha sa:Option Addr) (hn hcap sn scap:Nat) (s:St) (at1 ht:Int) (t:Array Value) (hs:t.size=148) (h0:t[0]?=some (d.val ⟨.slice ha hn hcap,.slice sa sn scap⟩)) (h1:t[1]?=some (s.val)) (h2:t[2]?=some (.int .u8 at1)) (h3:t[3]?=some (.int .u8 ht)) (w:World)  :
  x6_0.wpIn FW 0 Try.prog (fun e a w'=>e=.normal∧a.defers=[]∧(a.tmps.size=148∧a.tmps[2]?=some (.int .u8 at1)∧a.tmps[3]?=some (.int .u8 ht)∧a.tmps[4]?=some (ptr w.heap.size)∧a.tmps[5]?=some (ptr (w.heap.size+1))∧a.tmps[8]?=some (.bool false))∧w'=(w.alloc (.cells (d.cellsA ⟨.slice ha hn hcap,.slice sa sn scap⟩) 27)).alloc (.cells #[num s.w,num s.c,num s.h] 24)) ⟨t,[]⟩ w:=by
 obtain⟨f,rfl⟩:=ex148 hs
 have g0:f 0=d.val ⟨.slice ha hn hcap,.slice sa sn scap⟩:=by simpa using h0
 have g1:f 1=s.val:=by simpa using h1
 have g2:f 2=.int .u8 at1:=by simpa using h2
 have g3:f 3=.int .u8 ht:=by simpa using h3
 rw [g0,g1,g2,g3] at *
 clear hs h0 h1 h2 h3 g0 g1 g2 g3
 simp only [x6_0,x6_1,x6_2,x6_3,x6_4,x6_5,x6_7,x6_9,x6_10,x6_20,r6_3,r6_7,b6,Try.f6,cL,cR,cB,cT]
 gi_wp2
def Q6a (w:World) (p1 p2:Nat) (at1 ht:Int) (b:Bool) (t:Array Value) (w' : World):Prop:=(t.size=148∧t[2]?=some (.int .u8 at1)∧t[3]?=some (.int .u8 ht)∧t[4]?=some (ptr p1)∧t[5]?=some (ptr p2)∧t[38]?=some (.bool b))∧Nx w w'
theorem f6_1 (d:Dry) (r:R2) (p1 p2:Nat) (s:St) (at1 ht:Int) (t:Array Value) (hs:t.size=148) (h2:t[2]?=some (.int .u8 at1)) (h3:t[3]?=some (.int .u8 ht)) (h4:t[4]?=some (ptr p1)) (h5:t[5]?=some (ptr p2)) (w:World) (hB:DBox w p1 d r) (q0:w.cell? ⟨p2,0,none⟩=some (num s.w)) (q1:w.cell? ⟨p2,1,none⟩=some (num s.c)) (q2:w.cell? ⟨p2,2,none⟩=some (num s.h)) (hh:Sl w r.h 2 (d.heats.map two)) (hst:Sl w r.s 6 (d.steps.map Stp.cells)) (hl:d.heats.length≤140737488355328) (sl:d.steps.length≤140737488355328) :
  x6_1.wpIn FW 0 Try.prog (fun e a w'=>e=.normal∧a.defers=[]∧Q6a w p1 p2 at1 ht (out6 d s) a.tmps w') ⟨t,[]⟩ w:=by
 obtain⟨f,rfl⟩:=ex148 hs
 have g2:f 2=.int .u8 at1:=by simpa using h2
 have g3:f 3=.int .u8 ht:=by simpa using h3
 have g4:f 4=ptr p1:=by simpa using h4
 have g5:f 5=ptr p2:=by simpa using h5
 rw [g2,g3,g4,g5] at *
 clear hs h2 h3 h4 h5 g2 g3 g4 g5
 have k16:=great16_big d r w hh hst hl sl
 have c0:w.cell? ⟨p1,0,none⟩=some (r.h):=hB.at' 0 _ rfl
 have c1:w.cell? ⟨p1,1,none⟩=some (num d.soak):=hB.at' 1 _ rfl
 have c2:w.cell? ⟨p1,2,none⟩=some (num d.brittle):=hB.at' 2 _ rfl
 have c3:w.cell? ⟨p1,3,none⟩=some (num d.start.w):=hB.at' 3 _ rfl
 have c4:w.cell? ⟨p1,4,none⟩=some (num d.start.c):=hB.at' 4 _ rfl
 have c5:w.cell? ⟨p1,5,none⟩=some (num d.start.h):=hB.at' 5 _ rfl
 have c6:w.cell? ⟨p1,6,none⟩=some (r.s):=hB.at' 6 _ rfl
 by_cases hg:greatD d=true
 ·have ho:out6 d s=true:=by simp [out6,hg]
  rw [hg] at k16
  rw [ho]
  clear hB hh hst hl sl hg ho
  simp only [x6_0,x6_1,x6_2,x6_3,x6_4,x6_5,x6_7,x6_9,x6_10,x6_20,r6_3,r6_7,b6,Try.f6,cL,cR,cB,cT]
  gi_wp2_with (first | (gi_at_call 16;refine CallsIn.mono k16 ?_;rintro e w1 ⟨rfl,n1⟩) | gi_in)
  exact⟨⟨rfl,rfl,rfl,rfl,rfl,rfl⟩,n1⟩
 ·have hd:DrySl w d r:=⟨hh,hst,by simp [greatD] at hg;omega,by simp [greatD] at hg;omega⟩
  have hgf:greatD d=false:=by simpa using hg
  rw [hgf] at k16
  obtain⟨rh,rs⟩:=r
  obtain⟨ha,hcap,e1⟩:=hh.cases
  obtain⟨sa,scap,e2⟩:=hst.cases
  dsimp only at e1 e2
  rw [List.length_map] at e1 e2
  subst e1 e2
  have kc:=fun (w1:World) (n:Nx w w1)=>(⟨(OldC.nx n).at c0,(OldC.nx n).at c1,(OldC.nx n).at c2,(OldC.nx n).at c3,(OldC.nx n).at c4,(OldC.nx n).at c5,(OldC.nx n).at c6,(OldC.nx n).at q0,(OldC.nx n).at q1,(OldC.nx n).at q2⟩:_∧_∧_∧_∧_∧_∧_∧_∧_∧_)
  dsimp only at kc
  have k33:=fun (w1:World) (n:Nx w w1)=>check33_any d _ w1 (hd.nx n)
  have k34:=fun (w1:World) (n:Nx w w1)=>state34_any d _ s w1 (hd.nx n)
  obtain⟨ov,hov⟩:∃ o,out6 d s=o:=⟨_,rfl⟩
  rw [hov]
  unfold out6 at hov
  rw [hgf] at hov
  generalize dryF d=f1 at *
  generalize stF d s=f2 at *
  clear hB hh hst hl sl hg hd hgf
  by_cases h1:f1=0
  ·subst h1
   by_cases h2:f2=0
   ·subst h2
    have ho:ov=decide ((d.steps.length:Int)=0):=by rw [← hov];simp
    rw [ho]
    clear hov ho
    generalize d.steps.length=m at *
    simp only [x6_0,x6_1,x6_2,x6_3,x6_4,x6_5,x6_7,x6_9,x6_10,x6_20,r6_3,r6_7,b6,Try.f6,cL,cR,cB,cT]
    gi_wp2_with (first | (gi_at_call 16;refine CallsIn.mono k16 ?_;rintro e w1 ⟨rfl,n1⟩;clear c0 c1 c2 c3 c4 c5 c6 q0 q1 q2;obtain⟨c0,c1,c2,c3,c4,c5,c6,q0,q1,q2⟩:=kc _ n1) | (gi_at_call 33;refine CallsIn.mono (k33 _ n1) ?_;rintro e w2 ⟨rfl,n2'⟩;have n2:=n1.trans n2';clear n2' c0 c1 c2 c3 c4 c5 c6 q0 q1 q2;obtain⟨c0,c1,c2,c3,c4,c5,c6,q0,q1,q2⟩:=kc _ n2) | (gi_at_call 34;refine CallsIn.mono (k34 _ n2) ?_;rintro e w3 ⟨rfl,n3'⟩;have n3:=n2.trans n3';clear n3' c0 c1 c2 c3 c4 c5 c6 q0 q1 q2;obtain⟨c0,c1,c2,c3,c4,c5,c6,q0,q1,q2⟩:=kc _ n3) | gi_in)
    exact⟨⟨rfl,rfl,rfl,rfl,rfl,by simp only [List.getElem?_toArray,List.getElem?_cons_succ,List.getElem?_cons_zero,Option.some.injEq,Value.bool.injEq];rw [Bool.eq_iff_iff];simp⟩,n3⟩
   ·have ho:ov=true:=by rw [← hov];simp [h2]
    rw [ho]
    clear hov ho
    simp only [x6_0,x6_1,x6_2,x6_3,x6_4,x6_5,x6_7,x6_9,x6_10,x6_20,r6_3,r6_7,b6,Try.f6,cL,cR,cB,cT]
    gi_wp2_with (first | (gi_at_call 16;refine CallsIn.mono k16 ?_;rintro e w1 ⟨rfl,n1⟩;clear c0 c1 c2 c3 c4 c5 c6 q0 q1 q2;obtain⟨c0,c1,c2,c3,c4,c5,c6,q0,q1,q2⟩:=kc _ n1) | (gi_at_call 33;refine CallsIn.mono (k33 _ n1) ?_;rintro e w2 ⟨rfl,n2'⟩;have n2:=n1.trans n2';clear n2' c0 c1 c2 c3 c4 c5 c6 q0 q1 q2;obtain⟨c0,c1,c2,c3,c4,c5,c6,q0,q1,q2⟩:=kc _ n2) | (gi_at_call 34;refine CallsIn.mono (k34 _ n2) ?_;rintro e w3 ⟨rfl,n3'⟩;have n3:=n2.trans n3';clear n3' c0 c1 c2 c3 c4 c5 c6 q0 q1 q2;obtain⟨c0,c1,c2,c3,c4,c5,c6,q0,q1,q2⟩:=kc _ n3) | gi_in)
    exact⟨⟨rfl,rfl,rfl,rfl,rfl,rfl⟩,n3⟩
  ·have ho:ov=true:=by rw [← hov];simp [h1]
   rw [ho]
   clear hov ho
   simp only [x6_0,x6_1,x6_2,x6_3,x6_4,x6_5,x6_7,x6_9,x6_10,x6_20,r6_3,r6_7,b6,Try.f6,cL,cR,cB,cT]
   gi_wp2_with (first | (gi_at_call 16;refine CallsIn.mono k16 ?_;rintro e w1 ⟨rfl,n1⟩;clear c0 c1 c2 c3 c4 c5 c6 q0 q1 q2;obtain⟨c0,c1,c2,c3,c4,c5,c6,q0,q1,q2⟩:=kc _ n1) | (gi_at_call 33;refine CallsIn.mono (k33 _ n1) ?_;rintro e w2 ⟨rfl,n2'⟩;have n2:=n1.trans n2';clear n2' c0 c1 c2 c3 c4 c5 c6 q0 q1 q2;obtain⟨c0,c1,c2,c3,c4,c5,c6,q0,q1,q2⟩:=kc _ n2) | gi_in)
   exact⟨⟨rfl,rfl,rfl,rfl,rfl,rfl⟩,n2⟩
theorem f6_3 (d:Dry) (r:R2) (p1 p2:Nat) (at1 ht:Int) (t:Array Value) (hs:t.size=148) (h2:t[2]?=some (.int .u8 at1)) (h3:t[3]?=some (.int .u8 ht)) (h4:t[4]?=some (ptr p1)) (h5:t[5]?=some (ptr p2)) (w:World) (hB:DBox w p1 d r) (hd:DrySl w d r) (hO:d.Ok) (hp:0<d.steps.length) (ha1:0≤at1∧at1≤255) (hht:0≤ht∧ht≤255) :
  x6_3.wpIn FW 0 Try.prog (fun e a w'=>e=.normal∧a.defers=[]∧(a.tmps.size=148∧a.tmps[4]?=some (ptr p1)∧a.tmps[5]?=some (ptr p2)∧a.tmps[9]?=some (num (at1 % d.steps.length))∧a.tmps[10]?=some (num (ht % d.heats.length)))∧Nx w w') ⟨t,[]⟩ w:=by
 obtain⟨f,rfl⟩:=ex148 hs
 have g2:f 2=.int .u8 at1:=by simpa using h2
 have g3:f 3=.int .u8 ht:=by simpa using h3
 have g4:f 4=ptr p1:=by simpa using h4
 have g5:f 5=ptr p2:=by simpa using h5
 rw [g2,g3,g4,g5] at *
 clear hs h2 h3 h4 h5 g2 g3 g4 g5
 have c0:w.cell? ⟨p1,0,none⟩=some (r.h):=hB.at' 0 _ rfl
 have c1:w.cell? ⟨p1,1,none⟩=some (num d.soak):=hB.at' 1 _ rfl
 have c2:w.cell? ⟨p1,2,none⟩=some (num d.brittle):=hB.at' 2 _ rfl
 have c3:w.cell? ⟨p1,3,none⟩=some (num d.start.w):=hB.at' 3 _ rfl
 have c4:w.cell? ⟨p1,4,none⟩=some (num d.start.c):=hB.at' 4 _ rfl
 have c5:w.cell? ⟨p1,5,none⟩=some (num d.start.h):=hB.at' 5 _ rfl
 have c6:w.cell? ⟨p1,6,none⟩=some (r.s):=hB.at' 6 _ rfl
 obtain⟨rh,rs⟩:=r
 obtain⟨ha,hcap,e1⟩:=hd.heats.cases
 obtain⟨sa,scap,e2⟩:=hd.steps.cases
 dsimp only at e1 e2 c0 c6
 rw [List.length_map] at e1 e2
 subst e1 e2
 have h4:=hO.h4
 clear hB hd hO
 generalize d.steps.length=m at *
 generalize d.heats.length=n at *
 simp only [x6_0,x6_1,x6_2,x6_3,x6_4,x6_5,x6_7,x6_9,x6_10,x6_20,r6_3,r6_7,b6,Try.f6,cL,cR,cB,cT]
 refine wpIn_region_Zn (Same [p1] w) 13 (by kernel_rfl) ?_
 obtain⟨Z,G,hN,hG,hG'⟩:=class_par (C:=Same [p1] w) (x:=w) (fun _ _=>rfl)
 have r0:=fun z=>(hG' z).cell (by simp) c0
 have r6:=fun z=>(hG' z).cell (by simp) c6
 change Go.wpAnyZ _ _ _ _ _ _ _ _ 14 #[false,false,false,false,false,false,false,false,false,false,false,false,false,false] _ _
 refine Go.zqE 0 hG (by kernel_rfl) (fun _ _ _ h=>by cases h.1) rfl ?_;intro o ho K hK;simp at ho;subst ho;gi_big_quiet_op;go_big_quiet_on
 refine Go.ztE 1 (by kernel_rfl) (fun _ _ _ h=>by cases h.1) ?_;intro o ho;simp at ho;subst ho;refine⟨_,(yC_u8 rfl ha1),?_⟩;simp only [Go.Act.put,List.setIfInBounds_toArray,List.set_cons_succ,List.set_cons_zero]
 refine Go.zqE 2 hG (by kernel_rfl) (fun _ _ _ h=>by cases h.1) rfl ?_;intro o ho K hK;simp at ho;subst ho;gi_big_quiet_op;go_big_quiet_on
 refine Go.zqE 3 hG (by kernel_rfl) (fun _ _ _ h=>by cases h.1) rfl ?_;intro o ho K hK;simp at ho;subst ho;gi_big_quiet_op;go_big_quiet_on
 refine Go.ztE 4 (by kernel_rfl) (fun _ _ _ h=>by cases h.1) ?_;intro o ho;simp at ho;subst ho;refine⟨_,Go.yC_len rfl (fun _=>by simp [go_sem]),?_⟩;simp only [Go.Act.put,List.setIfInBounds_toArray,List.set_cons_succ,List.set_cons_zero]
 refine Go.ztE 5 (by kernel_rfl) (fun _ _ _ h=>by cases h.1) ?_;intro o ho;simp at ho;subst ho;refine⟨_,(yC_rem rfl rfl ha1 (by omega)),?_⟩;simp only [Go.Act.put,List.setIfInBounds_toArray,List.set_cons_succ,List.set_cons_zero]
 refine Go.zqE 6 hG (by kernel_rfl) (fun _ _ _ h=>by cases h.1) rfl ?_;intro o ho K hK;simp at ho;subst ho;gi_big_quiet_op;go_big_quiet_on
 refine Go.ztE 7 (by kernel_rfl) (fun _ _ _ h=>by cases h.1) ?_;intro o ho;simp at ho;subst ho;refine⟨_,(yC_u8 rfl hht),?_⟩;simp only [Go.Act.put,List.setIfInBounds_toArray,List.set_cons_succ,List.set_cons_zero]
 refine Go.zqE 8 hG (by kernel_rfl) (fun _ _ _ h=>by cases h.1) rfl ?_;intro o ho K hK;simp at ho;subst ho;gi_big_quiet_op;go_big_quiet_on
 refine Go.zqE 9 hG (by kernel_rfl) (fun _ _ _ h=>by cases h.1) rfl ?_;intro o ho K hK;simp at ho;subst ho;gi_big_quiet_op;go_big_quiet_on
 refine Go.ztE 10 (by kernel_rfl) (fun _ _ _ h=>by cases h.1) ?_;intro o ho;simp at ho;subst ho;refine⟨_,Go.yC_len rfl (fun _=>by simp [go_sem]),?_⟩;simp only [Go.Act.put,List.setIfInBounds_toArray,List.set_cons_succ,List.set_cons_zero]
 refine Go.ztE 11 (by kernel_rfl) (fun _ _ _ h=>by cases h.1) ?_;intro o ho;simp at ho;subst ho;refine⟨_,(yC_rem rfl rfl hht (by omega)),?_⟩;simp only [Go.Act.put,List.setIfInBounds_toArray,List.set_cons_succ,List.set_cons_zero]
 refine Go.zqE 12 hG (by kernel_rfl) (fun _ _ _ h=>by cases h.1) rfl ?_;intro o ho K hK;simp at ho;subst ho;gi_big_quiet_op;go_big_quiet_on
 have hC0:Same [p1] w w.drew:=fun b hb=>rfl
 refine Go.zoE 13 (by kernel_rfl) rfl ?_ ?_;rotate_left;intro o ho K hK;simp at ho;subst ho
 gi_wp2_with fail
 refine wpAnyZ_done (by kernel_rfl) (fun h=>absurd h (by decide)) ⟨rfl,trivial,rfl,⟨rfl,rfl,rfl,rfl,rfl⟩,Nx.drew (Nx.refl w)⟩
 all_goals (try exact fun _=>by assumption)
 all_goals (try exact fun h=>absurd h (by decide))
def Q6_4 (w:World) (p1 p2:Nat) (i h:Int) (c:Int×Bool×Int) (t:Array Value) (w' : World):Prop:=(t.size=148∧t[4]?=some (ptr p1)∧t[5]?=some (ptr p2)∧t[9]?=some (num i)∧t[10]?=some (num h)∧t[11]?=some (num c.1)∧t[12]?=some (.bool c.2.1)∧t[13]?=some (num c.2.2))∧Nx w w'
theorem f6_4 (d:Dry) (r:R2) (p1 p2:Nat) (i h:Int) (s:St) (c:Int×Bool×Int) (t:Array Value) (hs:t.size=148) (h4:t[4]?=some (ptr p1)) (h5:t[5]?=some (ptr p2)) (h9:t[9]?=some (num i)) (h10:t[10]?=some (num h)) (w:World) (hB:DBox w p1 d r) (hd:DrySl w d r) (q0:w.cell? ⟨p2,0,none⟩=some (num s.w)) (q1:w.cell? ⟨p2,1,none⟩=some (num s.c)) (q2:w.cell? ⟨p2,2,none⟩=some (num s.h)) (hst : -9223372036854775808≤i∧i≤9223372036854775807) (hc:chooseF d i s=c) :
  x6_4.wpIn FW 0 Try.prog (fun e a w'=>e=.normal∧a.defers=[]∧Q6_4 w p1 p2 i h c a.tmps w') ⟨t,[]⟩ w:=by
 obtain⟨f,rfl⟩:=ex148 hs
 have g4:f 4=ptr p1:=by simpa using h4
 have g5:f 5=ptr p2:=by simpa using h5
 have g9:f 9=num i:=by simpa using h9
 have g10:f 10=num h:=by simpa using h10
 rw [g4,g5,g9,g10] at *
 clear hs h4 h5 h9 h10 g4 g5 g9 g10
 have k:=choose18_wide d r i s w hd hst
 rw [hc] at k
 have c0:w.cell? ⟨p1,0,none⟩=some (r.h):=hB.at' 0 _ rfl
 have c1:w.cell? ⟨p1,1,none⟩=some (num d.soak):=hB.at' 1 _ rfl
 have c2:w.cell? ⟨p1,2,none⟩=some (num d.brittle):=hB.at' 2 _ rfl
 have c3:w.cell? ⟨p1,3,none⟩=some (num d.start.w):=hB.at' 3 _ rfl
 have c4:w.cell? ⟨p1,4,none⟩=some (num d.start.c):=hB.at' 4 _ rfl
 have c5:w.cell? ⟨p1,5,none⟩=some (num d.start.h):=hB.at' 5 _ rfl
 have c6:w.cell? ⟨p1,6,none⟩=some (r.s):=hB.at' 6 _ rfl
 clear hB hd hc hst
 obtain⟨c0',c1',c2'⟩:=c
 dsimp only at *
 simp only [x6_0,x6_1,x6_2,x6_3,x6_4,x6_5,x6_7,x6_9,x6_10,x6_20,r6_3,r6_7,b6,Try.f6,cL,cR,cB,cT]
 gi_wp2_with (first | (gi_at_call 18;refine CallsIn.mono k ?_;rintro e w1 ⟨rfl,n1⟩) | gi_in)
 exact⟨⟨rfl,rfl,rfl,rfl,rfl,rfl,rfl,rfl⟩,n1⟩
theorem f6_5 (p1 p2:Nat) (i h k:Int) (b:Bool) (t:Array Value) (hs:t.size=148) (h4:t[4]?=some (ptr p1)) (h5:t[5]?=some (ptr p2)) (h9:t[9]?=some (num i)) (h10:t[10]?=some (num h)) (h11:t[11]?=some (num k)) (h12:t[12]?=some (.bool b)) (h13:t[13]?=some (num 0)) (w:World) (hk:b=false→k=0) :
  x6_5.wpIn FW 0 Try.prog (fun e a w'=>e=.normal∧a.defers=[]∧(a.tmps.size=148∧a.tmps[4]?=some (ptr p1)∧a.tmps[5]?=some (ptr p2)∧a.tmps[9]?=some (num i)∧a.tmps[10]?=some (num h)∧a.tmps[11]?=some (num k)∧a.tmps[12]?=some (.bool b)∧a.tmps[69]?=some (.bool false))∧w'=w) ⟨t,[]⟩ w:=by
 obtain⟨f,rfl⟩:=ex148 hs
 have g4:f 4=ptr p1:=by simpa using h4
 have g5:f 5=ptr p2:=by simpa using h5
 have g9:f 9=num i:=by simpa using h9
 have g10:f 10=num h:=by simpa using h10
 have g11:f 11=num k:=by simpa using h11
 have g12:f 12=.bool b:=by simpa using h12
 have g13:f 13=num 0:=by simpa using h13
 rw [g4,g5,g9,g10,g11,g12,g13] at *
 clear hs h4 h5 h9 h10 h11 h12 h13 g4 g5 g9 g10 g11 g12 g13
 cases b with
 | false =>
  have hk:=hk rfl
  subst hk
  simp only [x6_0,x6_1,x6_2,x6_3,x6_4,x6_5,x6_7,x6_9,x6_10,x6_20,r6_3,r6_7,b6,Try.f6,cL,cR,cB,cT]
  gi_wp2
 | true =>
  clear hk
  simp only [x6_0,x6_1,x6_2,x6_3,x6_4,x6_5,x6_7,x6_9,x6_10,x6_20,r6_3,r6_7,b6,Try.f6,cL,cR,cB,cT]
  gi_wp2
def Q6_7 (w:World) (p1 p2:Nat) (i h k:Int) (b o:Bool) (t:Array Value) (w' : World):Prop:=(t.size=148∧t[4]?=some (ptr p1)∧t[5]?=some (ptr p2)∧t[9]?=some (num i)∧t[10]?=some (num h)∧t[11]?=some (num k)∧t[12]?=some (.bool b)∧t[84]?=some (.bool o))∧Nx w w'
theorem f6_7 (d:Dry) (r:R2) (p1 p2 i:Nat) (h k:Int) (x:Stp) (s:St) (b:Bool) (t:Array Value) (hs:t.size=148) (h4:t[4]?=some (ptr p1)) (h5:t[5]?=some (ptr p2)) (h9:t[9]?=some (num i)) (h10:t[10]?=some (num h)) (h11:t[11]?=some (num k)) (h12:t[12]?=some (.bool b)) (w:World) (hB:DBox w p1 d r) (hd:DrySl w d r) (q0:w.cell? ⟨p2,0,none⟩=some (num s.w)) (q1:w.cell? ⟨p2,1,none⟩=some (num s.c)) (q2:w.cell? ⟨p2,2,none⟩=some (num s.h)) (hx:d.steps[i]?=some x) (hw : -1000000000≤s.h∧s.h≤1000000000) :
  x6_7.wpIn FW 0 Try.prog (fun e a w'=>e=.normal∧a.defers=[]∧Q6_7 w p1 p2 i h k b (!mayB d.heats.length x s.h h || (b && decide (h > k))) a.tmps w') ⟨t,[]⟩ w:=by
 obtain⟨f,rfl⟩:=ex148 hs
 have g4:f 4=ptr p1:=by simpa using h4
 have g5:f 5=ptr p2:=by simpa using h5
 have g9:f 9=num i:=by simpa using h9
 have g10:f 10=num h:=by simpa using h10
 have g11:f 11=num k:=by simpa using h11
 have g12:f 12=.bool b:=by simpa using h12
 rw [g4,g5,g9,g10,g11,g12] at *
 clear hs h4 h5 h9 h10 h11 h12 g4 g5 g9 g10 g11 g12
 have k35:=may35_any d r i x s.h h w hd hx hw
 have c0:w.cell? ⟨p1,0,none⟩=some (r.h):=hB.at' 0 _ rfl
 have c1:w.cell? ⟨p1,1,none⟩=some (num d.soak):=hB.at' 1 _ rfl
 have c2:w.cell? ⟨p1,2,none⟩=some (num d.brittle):=hB.at' 2 _ rfl
 have c3:w.cell? ⟨p1,3,none⟩=some (num d.start.w):=hB.at' 3 _ rfl
 have c4:w.cell? ⟨p1,4,none⟩=some (num d.start.c):=hB.at' 4 _ rfl
 have c5:w.cell? ⟨p1,5,none⟩=some (num d.start.h):=hB.at' 5 _ rfl
 have c6:w.cell? ⟨p1,6,none⟩=some (r.s):=hB.at' 6 _ rfl
 generalize mayB d.heats.length x s.h h=m at *
 clear hB hd hx hw
 cases m<;>cases b<;>(simp only [x6_0,x6_1,x6_2,x6_3,x6_4,x6_5,x6_7,x6_9,x6_10,x6_20,r6_3,r6_7,b6,Try.f6,cL,cR,cB,cT];gi_wp2_with (first | (gi_at_call 35;refine CallsIn.mono k35 ?_;rintro e w1 ⟨rfl,n1⟩) | gi_in))
 all_goals exact⟨⟨rfl,rfl,rfl,rfl,rfl,rfl,rfl,by simp⟩,n1⟩
end Go.Proofs.Ytedomogjmhommaa
namespace Go.Proofs.Ytedomogjmhommaa
open Go.RowKit Go.Con Go.Conc Go.Shelf
def ok6 (d:Dry) (i:Nat) (x:Stp) (s:St) (h:Nat) (a:Int):Bool:=keepsB x (nextS d (heatAt d h) s h a) && (!decide (i+1<d.steps.length) || (chooseF d (i+1) (nextS d (heatAt d h) s h a)).2.1)
theorem choose_none {d:Dry} (hO:dryF d=0) {s:St} (hS:stF d s=0) {j:Nat} (hj:j<d.steps.length):(chooseF d j s).2.2=0:=by
 unfold chooseF
 rw [if_neg (fun h=>h hO),if_neg (by omega),if_neg (fun h=>h hS)]
 split<;>rfl
theorem all6 {x:Stp} {p:Int→Bool} (q:Nat) (hq:x.lo+q≤x.hi+1) (h:(dampsL x.lo q).all p=false∨x.hi<x.lo+q):x.damps.all p=(dampsL x.lo q).all p:=by
 rcases h with h | h
 ·rw [h]
  rw [List.all_eq_false] at h ⊢
  obtain⟨a,ha,hp⟩:=h
  refine⟨a,?_,hp⟩
  simp only [Stp.damps,dampsL,List.mem_map,List.mem_range] at ha ⊢
  obtain⟨j,hj,e⟩:=ha
  exact⟨j,by omega,e⟩
 ·have:(x.hi+1-x.lo).toNat=q:=by omega
  rw [Stp.damps,this]
theorem f6_9 (p1 p2:Nat) (i h k:Int) (b:Bool) (t:Array Value) (hs:t.size=148) (h4:t[4]?=some (ptr p1)) (h5:t[5]?=some (ptr p2)) (h9:t[9]?=some (num i)) (h10:t[10]?=some (num h)) (h11:t[11]?=some (num k)) (h12:t[12]?=some (.bool b)) (w:World)  :
  x6_9.wpIn FW 0 Try.prog (fun e a w'=>e=.normal∧a.defers=[]∧(a.tmps.size=148∧a.tmps[4]?=some (ptr p1)∧a.tmps[5]?=some (ptr p2)∧a.tmps[9]?=some (num i)∧a.tmps[10]?=some (num h)∧a.tmps[11]?=some (num k)∧a.tmps[12]?=some (.bool b)∧a.tmps[14]?=some (.bool true))∧w'=w) ⟨t,[]⟩ w:=by
 obtain⟨f,rfl⟩:=ex148 hs
 have g4:f 4=ptr p1:=by simpa using h4
 have g5:f 5=ptr p2:=by simpa using h5
 have g9:f 9=num i:=by simpa using h9
 have g10:f 10=num h:=by simpa using h10
 have g11:f 11=num k:=by simpa using h11
 have g12:f 12=.bool b:=by simpa using h12
 rw [g4,g5,g9,g10,g11,g12] at *
 clear hs h4 h5 h9 h10 h11 h12 g4 g5 g9 g10 g11 g12
 simp only [x6_0,x6_1,x6_2,x6_3,x6_4,x6_5,x6_7,x6_9,x6_10,x6_20,r6_3,r6_7,b6,Try.f6,cL,cR,cB,cT]
 gi_wp2
def Q6_10 (w:World) (h k:Int) (b o:Bool) (t:Array Value) (w' : World):Prop:=(t.size=148∧t[10]?=some (num h)∧t[11]?=some (num k)∧t[12]?=some (.bool b)∧t[14]?=some (.bool o))∧Nx w w'
theorem f6_10 (d:Dry) (r:R2) (p1 p2 i h:Nat) (k:Int) (x:Stp) (s:St) (b:Bool) (t:Array Value) (hs:t.size=148) (h4:t[4]?=some (ptr p1)) (h5:t[5]?=some (ptr p2)) (h9:t[9]?=some (num i)) (h10:t[10]?=some (num h)) (h11:t[11]?=some (num k)) (h12:t[12]?=some (.bool b)) (h14:t[14]?=some (.bool true)) (w:World) (hB:DBox w p1 d r) (hd:DrySl w d r) (hO:d.Ok) (hF0:dryF d=0) (q0:w.cell? ⟨p2,0,none⟩=some (num s.w)) (q1:w.cell? ⟨p2,1,none⟩=some (num s.c)) (q2:w.cell? ⟨p2,2,none⟩=some (num s.h)) (hx:d.steps[i]?=some x) (hh:h<d.heats.length) (hSO:s.Ok d.heats.length) :
  x6_10.wpIn FW 0 Try.prog (fun e a w'=>e=.normal∧a.defers=[]∧Q6_10 w h k b (x.damps.all (ok6 d i x s h)) a.tmps w') ⟨t,[]⟩ w:=by
 obtain⟨f,rfl⟩:=ex148 hs
 have g4:f 4=ptr p1:=by simpa using h4
 have g5:f 5=ptr p2:=by simpa using h5
 have g9:f 9=num i:=by simpa using h9
 have g10:f 10=num h:=by simpa using h10
 have g11:f 11=num k:=by simpa using h11
 have g12:f 12=.bool b:=by simpa using h12
 have g14:f 14=.bool true:=by simpa using h14
 rw [g4,g5,g9,g10,g11,g12,g14] at *
 clear hs h4 h5 h9 h10 h11 h12 h14 g4 g5 g9 g10 g11 g12 g14
 have k36:=fun (hv:Int×Int) (hhv:d.heats[h]?=some hv) (a:Int) (ha:0≤a∧a≤3) (w1:World) (n:Nx w w1)=>next36_any d r s h hv a w1 (hd.nx n) hO hhv hSO ha
 have k37:=fun (s' : St) (w1:World) (n:Nx w w1)=>keeps37_any d r i x s' w1 (hd.nx n) hx
 have k18:=fun (s' : St) (w1:World) (n:Nx w w1)=>choose18_wide d r ((i:Int)+1) s' w1 (hd.nx n) (by have:=hd.sl;have:=(List.getElem?_eq_some_iff.1 hx).1;omega)
 obtain⟨rh,rs⟩:=r
 obtain⟨sa,scap,hrs⟩:=hd.steps.cases
 dsimp only at hrs
 subst hrs
 have hkl:i<d.steps.length:=(List.getElem?_eq_some_iff.1 hx).1
 have hsl:=hd.sl
 have hst:=hO.st x (List.mem_of_getElem? hx)
 obtain⟨bb,off,rfl,hbl,hcl⟩:=hd.steps.get (by simp;omega)
 rw [List.length_map] at *
 have e0:w.cell? ⟨bb,off+i * 6,none⟩=some (num x.lo):=Sl.at hcl (Nx.refl w) hbl hx 0 (v:=num x.lo) rfl
 have e1:w.cell? ⟨bb,off+i * 6+1,none⟩=some (num x.hi):=Sl.at hcl (Nx.refl w) hbl hx 1 (v:=num x.hi) rfl
 clear hcl hd
 obtain⟨hv,hhv⟩:∃ hv,d.heats[h]?=some hv:=⟨_,List.getElem?_eq_getElem hh⟩
 have hat1:heatAt d h=hv:=by unfold heatAt;rw [hhv];rfl
 have HG:Hid (∀ q:Nat,x.lo+q≤x.hi+1→((dampsL x.lo q).all (ok6 d i x s h)=false∨x.hi<x.lo+q)→x.damps.all (ok6 d i x s h)=(dampsL x.lo q).all (ok6 d i x s h)):=fun q hq hor=>all6 q hq hor
 generalize hg:x.damps.all (ok6 d i x s h)=g at HG ⊢
 clear hg
 have c0:=hB.at' 0 _ rfl
 have c1:=hB.at' 1 _ rfl
 have c2:=hB.at' 2 _ rfl
 have c3:=hB.at' 3 _ rfl
 have c4:=hB.at' 4 _ rfl
 have c5:=hB.at' 5 _ rfl
 have c6:=hB.at' 6 _ rfl
 have n0:Nx w w:=Below.refl _ _
 simp only [x6_0,x6_1,x6_2,x6_3,x6_4,x6_5,x6_7,x6_9,x6_10,x6_20,r6_3,r6_7,b6,Try.f6,cL,cR,cB,cT]
 have HE0:=Lib.hid e0
 have HE1:=Lib.hid e1
 gi_upto_region 10 with fail
 gi_wp2
 clear e0 e1 c0 c1 c2 c3 c4 c5 c6
 gi_loopw [14,15] (fun o a wr=>∃ q:Nat,x.lo+q≤x.hi+1∧a=num (x.lo+q)∧o=.bool ((dampsL x.lo q).all (ok6 d i x s h))∧Nx w wr) (fun _ a _=>(x.hi+1-intOf a).toNat)
 case atStart=>exact⟨0,by omega,by simp,by simp [dampsL],n0⟩
 case round =>
  obtain⟨q,hq,rfl,rfl,nr⟩:=hrel
  have HQ:=Lib.hid (HG.out q hq)
  have kr:=Kc.nx nr
  have hbr:=hB.nx nr
  have e1:=kr.cell HE1.out
  have c0:=hbr.at' 0 _ rfl
  have c1:=hbr.at' 1 _ rfl
  have c2:=hbr.at' 2 _ rfl
  have c3:=hbr.at' 3 _ rfl
  have c4:=hbr.at' 4 _ rfl
  have c5:=hbr.at' 5 _ rfl
  have c6:=hbr.at' 6 _ rfl
  have t0:=kr.cell q0
  have t1:=kr.cell q1
  have t2:=kr.cell q2
  obtain⟨ob,hob⟩:∃ o,(dampsL x.lo q).all (ok6 d i x s h)=o:=⟨_,rfl⟩
  have HOB:=Lib.hid hob
  rw [hob]
  clear hob
  by_cases hle:x.lo+(q:Int)≤x.hi
  ·cases ob with
   | false =>
    have HF:Hid (g=false):=by show _=_;rw [HQ.out (.inl HOB.out),HOB.out]
    have dle:=decide_eq_true hle
    gi_wp2
    exact⟨⟨rfl,rfl,rfl,rfl,by rw [HF.out]<;>rfl⟩,nr⟩
   | true =>
    have hqa:0≤x.lo+(q:Int)∧x.lo+(q:Int)≤3:=by omega
    have k36:=k36 hv hhv (x.lo+q) hqa wr nr
    have hs':=next_ok hO (List.mem_of_getElem? hhv) hSO (heat:=h) (damp:=x.lo+q) (n:=d.heats.length) (by omega) hqa.1
    have HN:Hid ((dampsL x.lo (q+1)).all (ok6 d i x s h)=(keepsB x (nextS d hv s h (x.lo+q)) && (!decide (i+1<d.steps.length) || (chooseF d (i+1) (nextS d hv s h (x.lo+q))).2.1))):=by
     show _=_
     rw [dampsL_succ,List.all_append,HOB.out]
     simp [ok6,hat1]
    generalize nextS d hv s h (x.lo+q)=s' at *
    have k37:=k37 s'
    have k18:=k18 s'
    have HC0:Hid (i+1<d.steps.length→(chooseF d ((i:Int)+1) s').2.2=0):=fun h=>choose_none (j:=i+1) hF0 (stF_ok.2 hs') h
    have dle:=decide_eq_true hle
    gi_upto_region 14 with (first | (gi_at_call 36;refine CallsIn.mono k36 ?_;rintro e w3 ⟨rfl,n3⟩) | gi_in)
    generalize hYn:w3.alloc _=Y
    obtain⟨nY,sY,gY⟩:=al1 hYn
    have nwY:=nr.trans (n3.trans nY)
    have y0:Y.cell? ⟨w3.heap.size,0,none⟩=some (num s'.w):=row_cell gY rfl
    have y1:Y.cell? ⟨w3.heap.size,1,none⟩=some (num s'.c):=row_cell gY rfl
    have y2:Y.cell? ⟨w3.heap.size,2,none⟩=some (num s'.h):=row_cell gY rfl
    clear hYn gY c0 c1 c2 c3 c4 c5 c6 t0 t1 t2 k36
    have hbY:=hbr.nx (n3.trans nY)
    have c0:=hbY.at' 0 _ rfl
    have c1:=hbY.at' 1 _ rfl
    have c2:=hbY.at' 2 _ rfl
    have c3:=hbY.at' 3 _ rfl
    have c4:=hbY.at' 4 _ rfl
    have c5:=hbY.at' 5 _ rfl
    have c6:=hbY.at' 6 _ rfl
    cases hkp:keepsB x s' with
    | false =>
     rw [hkp] at k37
     have HN2:Hid ((dampsL x.lo (q+1)).all (ok6 d i x s h)=false):=by show _=_;rw [HN.out,hkp];rfl
     gi_wp2_with (first | (gi_at_call 37;refine CallsIn.mono (k37 _ nwY) ?_;rintro e w4 ⟨rfl,n4⟩) | gi_in)
     refine⟨⟨q+1,by omega,by simp;omega,by rw [HN2.out],nwY.trans n4⟩,?_⟩
     simp [intOf];omega
    | true =>
     rw [hkp] at k37
     gi_upto_region 15 with (first | (gi_at_call 37;refine CallsIn.mono (k37 _ nwY) ?_;rintro e w4 ⟨rfl,n4⟩) | gi_in)
     have nw4:=nwY.trans n4
     have hb4:=hbY.nx n4
     have k4:=Kc.nx n4
     have y0:=k4.cell y0
     have y1:=k4.cell y1
     have y2:=k4.cell y2
     clear c0 c1 c2 c3 c4 c5 c6
     have c0:=hb4.at' 0 _ rfl
     have c1:=hb4.at' 1 _ rfl
     have c2:=hb4.at' 2 _ rfl
     have c3:=hb4.at' 3 _ rfl
     have c4:=hb4.at' 4 _ rfl
     have c5:=hb4.at' 5 _ rfl
     have c6:=hb4.at' 6 _ rfl
     by_cases hnx:i+1<d.steps.length
     ·have k18:=k18 w4 nw4
      have hf0:=HC0.out hnx
      have HN2:Hid ((dampsL x.lo (q+1)).all (ok6 d i x s h)=(chooseF d ((i:Int)+1) s').2.1):=by
       show _=_
       rw [HN.out,hkp,decide_eq_true hnx]
       rfl
      obtain⟨ch,hch⟩:∃ ch,chooseF d ((i:Int)+1) s'=ch:=⟨_,rfl⟩
      have HN3:Hid ((dampsL x.lo (q+1)).all (ok6 d i x s h)=ch.2.1):=by show _=_;rw [HN2.out,hch]
      rw [hch] at k18 hf0
      clear hch HN2
      obtain⟨cv,cb,cf⟩:=ch
      dsimp only at k18 hf0 HN3
      subst hf0
      have hin:=decide_eq_true (show (i:Int)+1<d.steps.length by omega)
      gi_wp2_with (first | (gi_at_call 18;refine CallsIn.mono k18 ?_;rintro e w5 ⟨rfl,n5⟩) | gi_in)
      refine⟨⟨q+1,by omega,by simp;omega,by rw [HN3.out],nw4.trans n5⟩,?_⟩
      simp [intOf];omega
     ·have HN2:Hid ((dampsL x.lo (q+1)).all (ok6 d i x s h)=true):=by
       show _=_
       rw [HN.out,hkp,decide_eq_false hnx]
       rfl
      have hin:=decide_eq_false (show ¬ (i:Int)+1<d.steps.length by omega)
      gi_wp2
      refine⟨⟨q+1,by omega,by simp;omega,by rw [HN2.out],nw4⟩,?_⟩
      simp [intOf];omega
  ·have HF:Hid (g=ob):=by show _=_;rw [HQ.out (.inr (by omega)),HOB.out]
   have dle:=decide_eq_false hle
   gi_wp2
   exact⟨⟨rfl,rfl,rfl,rfl,by rw [HF.out]<;>rfl⟩,nr⟩
end Go.Proofs.Ytedomogjmhommaa
namespace Go.Proofs.Ytedomogjmhommaa
open Go.RowKit Go.Con Go.Conc Go.Shelf
theorem first_cases (p:Nat→Bool) (n:Nat):(firstS p n=-1∧∀ j,j<n→p j=false)∨∃ k,k<n∧firstS p n=k∧p k=true∧∀ j,j<k→p j=false:=by
 unfold firstS
 cases hf:(List.range n).find? p with
 | none =>
  refine .inl ⟨rfl,fun j hj=>?_⟩
  have:=List.find?_eq_none.1 hf j (List.mem_range.2 hj)
  simpa using this
 | some k =>
  have h:=List.find?_range_eq_some.1 hf
  refine .inr ⟨k,List.mem_range.1 h.2.1,rfl,h.1,fun j hj=>?_⟩
  have:=h.2.2 j hj
  simpa using this
theorem ok6_eq {d:Dry} (hO:d.Ok) (hF0:dryF d=0) {i:Nat} {x:Stp} {s:St} {h:Nat} {a:Int} (hx:d.steps[i]?=some x) (hh:h<d.heats.length) (hs:s.Ok d.heats.length) (ha:a∈x.damps) :
  ok6 d i x s h a=dampOk d (chooseS d (d.steps.drop (i+1))) x s h a:=by
 unfold ok6 dampOk
 congr 1
 have hst:=hO.st x (List.mem_of_getElem? hx)
 have hda:=damps_mem ha
 have hs':=next_ok hO (List.mem_of_getElem? (heat_mem hh)) hs (heat:=h) (damp:=a) (n:=d.heats.length) (by omega) (by omega)
 by_cases hn:i+1<d.steps.length
 ·rw [decide_eq_true hn,Bool.not_true,Bool.false_or]
  unfold chooseF
  rw [if_neg (fun h=>h hF0),if_neg (by omega),if_neg (fun h=>h (stF_ok.2 hs'))]
  rw [show ((i:Int)+1).toNat=i+1 by omega]
  split
  ·rename_i h0;rw [decide_eq_true h0]
  ·rename_i h0;rw [decide_eq_false h0]
 ·rw [decide_eq_false hn,List.drop_eq_nil_of_le (by omega)]
  rfl
theorem all6_eq {d:Dry} (hO:d.Ok) (hF0:dryF d=0) {i:Nat} {x:Stp} {s:St} {h:Nat} (hx:d.steps[i]?=some x) (hh:h<d.heats.length) (hs:s.Ok d.heats.length) (hm:mayB d.heats.length x s.h h=true) :
  x.damps.all (ok6 d i x s h)=goodS d (chooseS d (d.steps.drop (i+1))) x s h:=by
 unfold goodS
 rw [hm,Bool.true_and]
 rw [Bool.eq_iff_iff,List.all_eq_true,List.all_eq_true]
 constructor
 ·intro hk a ha;rw [← ok6_eq hO hF0 hx hh hs ha];exact hk a ha
 ·intro hk a ha;rw [ok6_eq hO hF0 hx hh hs ha];exact hk a ha
theorem least6 {d:Dry} (hO:d.Ok) (hF0:dryF d=0) {i:Nat} {x:Stp} {s:St} {h:Nat} (hx:d.steps[i]?=some x) (hh:h<d.heats.length) (hs:s.Ok d.heats.length) (hm:mayB d.heats.length x s.h h=true)
  (hn:((chooseF d i s).2.1 && decide ((h:Int) > (chooseF d i s).1))=false):x.damps.all (ok6 d i x s h)=((chooseF d i s).2.1 && decide ((h:Int)=(chooseF d i s).1)):=by
 rw [all6_eq hO hF0 hx hh hs hm]
 have hil:=(List.getElem?_eq_some_iff.1 hx).1
 have hc:chooseF d i s=if 0≤firstS (goodS d (chooseS d (d.steps.drop (i+1))) x s) d.heats.length then (firstS (goodS d (chooseS d (d.steps.drop (i+1))) x s) d.heats.length,true,0) else (0,false,0):=by
  unfold chooseF
  rw [if_neg (fun h=>h hF0),if_neg (by omega),if_neg (fun h=>h (stF_ok.2 hs)),show ((i:Int)).toNat=i by omega,drop_cons hx]
  rfl
 rw [hc] at hn ⊢
 rcases first_cases (goodS d (chooseS d (d.steps.drop (i+1))) x s) d.heats.length with ⟨h1,h2⟩ | ⟨k,hk,h1,h2,h3⟩
 ·rw [h1,if_neg (by decide)]
  exact h2 h hh
 ·rw [h1,if_pos (by omega)] at hn ⊢
  simp at hn ⊢
  rcases Nat.lt_or_ge h k with hlt | hge
  ·rw [h3 h hlt]
   symm;simp;omega
  ·have:h=k:=by omega
   subst this
   rw [h2];simp
theorem choose_zero {d:Dry} {i:Int} {s:St} (h:(chooseF d i s).2.1=false):(chooseF d i s).1=0:=by
 unfold chooseF at h ⊢
 repeat' split
 all_goals first | rfl | simp_all
end Go.Proofs.Ytedomogjmhommaa
namespace Go.Con
open Go.RowKit Go.Conc
section
variable [Lone]
variable {P:Program} {maps:Bool} {E Fz Arg:Nat→Prop} {W0:World} {f:FuncId} {t:Array Value} {k:List Item} {cs:List Frame} {W:World}
variable {Q:(Nat→Prop)→(Nat→Prop)→Goroutine→World→Prop} {φ:Ph} {pend:List Nat}
theorem Gm.pass {ops:Array Oper} {i:Nat} {rest:List Nat} {o:Oper} (ho:ops[i]?=some o) (hw:Region.wanted o (yielded ops t)=false) (hop:okOp P maps o.op=true) (hv:okVal P (Fr f t []).eval o.op=true)
  (hg:GoM P maps E Fz Arg W0 Q φ pend (Fr f (putD t o.dst undef) (.inRegion ops rest :: k)) cs W):GoM P maps E Fz Arg W0 Q φ pend (Fr f t (.inRegion ops (i :: rest) :: k)) cs W:=by
 have he:(Fr f t (.inRegion ops (i :: rest) :: k)).eval=(Fr f t []).eval:=funext fun x=>by cases x<;>rfl
 refine GoM.step (srh_op rfl rfl ho hop (by rw [he];exact hv)) ⟨fun it t' e=>?_,.inl rfl,fun d hdm=>(List.not_mem_nil hdm).elim,.inl rfl⟩ fun τ hτ=>?_
 ·cases e
  simp only [okItem1,ho,Option.all_some]
  exact hop
 ·refine⟨(Fr f t (.inRegion ops (i :: rest) :: k)).finish undef,cs,{ W with tape:=τ },?_,id,?_⟩
  ·unfold frameSem
   dsimp only
   unfold runSem
   dsimp only
   rw [ho]
   simp only [Option.map_some,Option.getD_some,hw]
   rfl
  ·rw [Fr_finish ho]
   exact Gm.tape hg
end
end Go.Con
