import Derived.Test.YtedomogjmhommaaE04
set_option linter.all false
set_option maxRecDepth 100000
set_option maxHeartbeats 8000000
namespace Go.Proofs.Ytedomogjmhommaa
open Go.RowKit Go.Shelf
theorem same22_any (u v:Value) (L:List (List St)) (w:World) (hu:SetsSl w u L) (hv:SetsSl w v L) (hl:L.length≤1000000000) (hl2:∀ l∈L,l.length≤1000000000) (hI:∀ l∈L,∀ s∈l,StI s):CallsIn FW 0 Try.prog 22 #[u,v] w fun e w'=>e=.returned (.bool true)∧Nx w w':=by
 obtain⟨us,hu1,hu2,hu3⟩:=hu
 obtain⟨vs,hv1,hv2,hv3⟩:=hv
 obtain⟨ua,uc,hue⟩:=hu1.cases
 rw [List.length_map,hu2] at hue
 subst hue
 obtain⟨va,vc,hve⟩:=hv1.cases
 rw [List.length_map,hv2] at hve
 subst hve
 have HU:=Lib.hid hu1
 have HV:=Lib.hid hv1
 have HU3:=Lib.hid hu3
 have HV3:=Lib.hid hv3
 have HU2:=Lib.hid hu2
 have HV2:=Lib.hid hv2
 have HL2:=Lib.hid hl2
 have HI:=Lib.hid hI
 clear hu1 hv1 hu3 hv3 hu2 hv2 hl2 hI
 gi_enter Try.func22,Try.ntmps22
 gi_wp2
 gi_loopw [5] (fun i wr=>∃ k:Nat,k≤L.length∧i=num k∧Nx w wr) (fun i _=>L.length-(intOf i).toNat)
 case atStart=>exact⟨0,Nat.zero_le _,rfl,Nx.refl _⟩
 case round =>
  obtain⟨k,hk,rfl,nr⟩:=hrel
  by_cases hlt:k<L.length
  ·obtain⟨b,off,rfl,hbl,hcl⟩:=(HU.out).get (by simp;have:=HU2.out;omega)
   obtain⟨b',off',rfl,hbl',hcl'⟩:=(HV.out).get (by simp;have:=HV2.out;omega)
   have hku:k<us.length:=by have:=HU2.out;omega
   have hkv:k<vs.length:=by have:=HV2.out;omega
   have gu:us[k]?=some us[k]:=List.getElem?_eq_getElem hku
   have gv:vs[k]?=some vs[k]:=List.getElem?_eq_getElem hkv
   have gl:L[k]?=some L[k]:=List.getElem?_eq_getElem hlt
   have m3:=HU3.out k _ _ gu gl
   have m4:=HV3.out k _ _ gv gl
   have ml:=List.mem_of_getElem? gl
   have k46:=fun (w1:World) (n:Nx w w1)=>same46_any us[k] vs[k] L[k] L[k] w1 (m3.nx n) (m4.nx n) (HL2.out _ ml) (HL2.out _ ml) (HI.out _ ml) (HI.out _ ml)
   rw [show decide (L[k]=L[k])=true by simp] at k46
   generalize us[k]=x at *
   generalize vs[k]=y at *
   generalize L[k]=l at *
   obtain⟨xa,xc,rfl⟩:=m3.cases
   obtain⟨ya,yc,rfl⟩:=m4.cases
   have e0:wr.cell? ⟨b,off+k,none⟩=some (.slice xa (l.map St.cells).length xc):=by
    have:=Sl.at hcl nr hbl gu 0 rfl
    simpa using this
   have f0:wr.cell? ⟨b',off' + k,none⟩=some (.slice ya (l.map St.cells).length yc):=by
    have:=Sl.at hcl' nr hbl' gv 0 rfl
    simpa using this
   rw [List.length_map] at *
   clear hcl hcl' gu gv gl m3 m4
   gi_upto_region 6 with fail
   refine wpIn_region_tail 8 rfl (by kernel_rfl) (by kernel_rfl) ?_
   simp only [List.take_succ_cons,List.take_zero,List.drop_succ_cons,List.drop_zero]
   repeat (gi_big_quiet_step (fail))
   refine wpQuietIn_nil ?_
   rintro w' ⟨nq,rfl⟩
   have nq4:Nx wr (wr.drewN nq):=(Nx.refl wr).drewN nq
   generalize wr.drewN nq=w4 at nq4 ⊢
   gi_wp2_with (first | (gi_at_call 46;refine CallsIn.mono (k46 _ (nr.trans nq4)) ?_;rintro e w5 ⟨rfl,n5⟩) | gi_in)
   exact⟨⟨k+1,hlt,by simp,nr.trans (nq4.trans n5)⟩,by simp [intOf];omega⟩
  ·obtain rfl:k=L.length:=by omega
   gi_wp2
   go_ret
   exact⟨rfl,nr⟩
end Go.Proofs.Ytedomogjmhommaa
namespace Go.Proofs.Ytedomogjmhommaa
open Go.RowKit Go.Con Go.Conc
noncomputable def b3:Code:=match Try.f3.body with | some c=>c | none=>.skip
noncomputable def x3_0:Code:=cL b3
noncomputable def x3_1:Code:=cL (cL (cR b3))
noncomputable def x3_2:Code:=cL (cT (cR (cL (cR b3))))
noncomputable def r3_3:Code:=cR (cR b3)
noncomputable def x3_3:Code:=cL r3_3
noncomputable def x3_4:Code:=cL (cR r3_3)
noncomputable def x3_5:Code:=cL (cL (cR (cR r3_3)))
noncomputable def x3_6:Code:=cL (cT (cR (cL (cR (cR r3_3)))))
noncomputable def r3_7:Code:=cR (cR (cR r3_3))
noncomputable def x3_7:Code:=cL r3_7
noncomputable def x3_8:Code:=cL (cR r3_7)
noncomputable def x3_9:Code:=cL (cR (cR r3_7))
theorem b3_eq:b3=.seq x3_0 (.seq (.seq x3_1 (.cond (.tmp 16) (.seq x3_2 .ret) .skip)) (.seq x3_3 (.seq x3_4 (.seq (.seq x3_5 (.cond (.tmp 46) (.seq x3_6 .ret) .skip)) (.seq x3_7 (.seq x3_8 (.seq x3_9 .ret))))))):=by kernel_rfl
theorem ex75 {t:Array Value} (h:t.size=75):∃ f:Nat→Value,t=#[f 0,f 1,f 2,f 3,f 4,f 5,f 6,f 7,f 8,f 9,f 10,f 11,f 12,f 13,f 14,f 15,f 16,f 17,f 18,f 19,f 20,f 21,f 22,f 23,f 24,f 25,f 26,f 27,f 28,f 29,f 30,f 31,f 32,f 33,f 34,f 35,f 36,f 37,f 38,f 39,f 40,f 41,f 42,f 43,f 44,f 45,f 46,f 47,f 48,f 49,f 50,f 51,f 52,f 53,f 54,f 55,f 56,f 57,f 58,f 59,f 60,f 61,f 62,f 63,f 64,f 65,f 66,f 67,f 68,f 69,f 70,f 71,f 72,f 73,f 74]:=by
 obtain⟨f,rfl⟩:=exN 75 h
 exact⟨f,by kernel_rfl⟩
theorem f3_0 (d:Dry) (ha sa:Option Addr) (hn hcap sn scap:Nat) (step:Int) (s:St) (t:Array Value) (hs:t.size=75) (h0:t[0]?=some (d.val ⟨.slice ha hn hcap,.slice sa sn scap⟩)) (h1:t[1]?=some (num step)) (h2:t[2]?=some (s.val)) (w:World)  :
  x3_0.wpIn FW 0 Try.prog (fun e a w'=>e=.normal∧a.defers=[]∧(a.tmps.size=75∧a.tmps[1]?=some (num step)∧a.tmps[3]?=some (ptr w.heap.size)∧a.tmps[5]?=some (ptr (w.heap.size+1)))∧w'=(w.alloc (.cells (d.cellsA ⟨.slice ha hn hcap,.slice sa sn scap⟩) 27)).alloc (.cells #[num s.w,num s.c,num s.h] 24)) ⟨t,[]⟩ w:=by
 obtain⟨f,rfl⟩:=ex75 hs
 have g0:f 0=d.val ⟨.slice ha hn hcap,.slice sa sn scap⟩:=by simpa using h0
 have g1:f 1=num step:=by simpa using h1
 have g2:f 2=s.val:=by simpa using h2
 rw [g0,g1,g2] at *
 clear hs h0 h1 h2 g0 g1 g2
 simp only [x3_0,x3_1,x3_2,x3_3,x3_4,x3_5,x3_6,x3_7,x3_8,x3_9,r3_3,r3_7,b3,Try.f3,cL,cR,cB,cT]
 gi_wp2
def Q3a (w:World) (p1 p2:Nat) (step:Int) (b:Bool) (t:Array Value) (w' : World):Prop:=(t.size=75∧t[1]?=some (num step)∧t[3]?=some (ptr p1)∧t[5]?=some (ptr p2)∧t[16]?=some (.bool b))∧Nx w w'
theorem f3_1 (d:Dry) (r:R2) (p1 p2:Nat) (step:Int) (t:Array Value) (hs:t.size=75) (h1:t[1]?=some (num step)) (h3:t[3]?=some (ptr p1)) (h5:t[5]?=some (ptr p2)) (w:World) (hB:DBox w p1 d r) (hh:Sl w r.h 2 (d.heats.map two)) (hst:Sl w r.s 6 (d.steps.map Stp.cells)) (hl:d.heats.length≤140737488355328) (sl:d.steps.length≤140737488355328) :
  x3_1.wpIn FW 0 Try.prog (fun e a w'=>e=.normal∧a.defers=[]∧Q3a w p1 p2 step (greatD d) a.tmps w') ⟨t,[]⟩ w:=by
 obtain⟨f,rfl⟩:=ex75 hs
 have g1:f 1=num step:=by simpa using h1
 have g3:f 3=ptr p1:=by simpa using h3
 have g5:f 5=ptr p2:=by simpa using h5
 rw [g1,g3,g5] at *
 clear hs h1 h3 h5 g1 g3 g5
 have k16:=great16_big d r w hh hst hl sl
 have c0:w.cell? ⟨p1,0,none⟩=some (r.h):=hB.at' 0 _ rfl
 have c1:w.cell? ⟨p1,1,none⟩=some (num d.soak):=hB.at' 1 _ rfl
 have c2:w.cell? ⟨p1,2,none⟩=some (num d.brittle):=hB.at' 2 _ rfl
 have c3:w.cell? ⟨p1,3,none⟩=some (num d.start.w):=hB.at' 3 _ rfl
 have c4:w.cell? ⟨p1,4,none⟩=some (num d.start.c):=hB.at' 4 _ rfl
 have c5:w.cell? ⟨p1,5,none⟩=some (num d.start.h):=hB.at' 5 _ rfl
 have c6:w.cell? ⟨p1,6,none⟩=some (r.s):=hB.at' 6 _ rfl
 clear hB hh hst hl sl
 generalize greatD d=g at *
 simp only [x3_0,x3_1,x3_2,x3_3,x3_4,x3_5,x3_6,x3_7,x3_8,x3_9,r3_3,r3_7,b3,Try.f3,cL,cR,cB,cT]
 gi_wp2_with (first | (gi_at_call 16;refine CallsIn.mono k16 ?_;rintro e w1 ⟨rfl,n1⟩) | gi_in)
 exact⟨⟨rfl,rfl,rfl,rfl,rfl⟩,n1⟩
def Q3_3 (w:World) (p1 p2:Nat) (step:Int) (c:Int×Bool×Int) (t:Array Value) (w' : World):Prop:=(t.size=75∧t[1]?=some (num step)∧t[3]?=some (ptr p1)∧t[5]?=some (ptr p2)∧t[7]?=some (num c.1)∧t[8]?=some (.bool c.2.1)∧t[9]?=some (num c.2.2))∧Nx w w'
theorem f3_3 (d:Dry) (r:R2) (p1 p2:Nat) (step:Int) (s:St) (c:Int×Bool×Int) (t:Array Value) (hs:t.size=75) (h1:t[1]?=some (num step)) (h3:t[3]?=some (ptr p1)) (h5:t[5]?=some (ptr p2)) (w:World) (hB:DBox w p1 d r) (hd:DrySl w d r) (q0:w.cell? ⟨p2,0,none⟩=some (num s.w)) (q1:w.cell? ⟨p2,1,none⟩=some (num s.c)) (q2:w.cell? ⟨p2,2,none⟩=some (num s.h)) (hst : -9223372036854775808≤step∧step≤9223372036854775807) (hc:chooseF d step s=c) :
  x3_3.wpIn FW 0 Try.prog (fun e a w'=>e=.normal∧a.defers=[]∧Q3_3 w p1 p2 step c a.tmps w') ⟨t,[]⟩ w:=by
 obtain⟨f,rfl⟩:=ex75 hs
 have g1:f 1=num step:=by simpa using h1
 have g3:f 3=ptr p1:=by simpa using h3
 have g5:f 5=ptr p2:=by simpa using h5
 rw [g1,g3,g5] at *
 clear hs h1 h3 h5 g1 g3 g5
 have k:=choose18_wide d r step s w hd hst
 rw [hc] at k
 have c0:w.cell? ⟨p1,0,none⟩=some (r.h):=hB.at' 0 _ rfl
 have c1:w.cell? ⟨p1,1,none⟩=some (num d.soak):=hB.at' 1 _ rfl
 have c2:w.cell? ⟨p1,2,none⟩=some (num d.brittle):=hB.at' 2 _ rfl
 have c3:w.cell? ⟨p1,3,none⟩=some (num d.start.w):=hB.at' 3 _ rfl
 have c4:w.cell? ⟨p1,4,none⟩=some (num d.start.c):=hB.at' 4 _ rfl
 have c5:w.cell? ⟨p1,5,none⟩=some (num d.start.h):=hB.at' 5 _ rfl
 have c6:w.cell? ⟨p1,6,none⟩=some (r.s):=hB.at' 6 _ rfl
 clear hB hd hc hst
 obtain⟨c0',c1',c2'⟩:=c
 dsimp only at *
 simp only [x3_0,x3_1,x3_2,x3_3,x3_4,x3_5,x3_6,x3_7,x3_8,x3_9,r3_3,r3_7,b3,Try.f3,cL,cR,cB,cT]
 gi_wp2_with (first | (gi_at_call 18;refine CallsIn.mono k ?_;rintro e w1 ⟨rfl,n1⟩) | gi_in)
 exact⟨⟨rfl,rfl,rfl,rfl,rfl,rfl,rfl⟩,n1⟩
def Q3_4 (w:World) (p1 p2:Nat) (step:Int) (c:Int×Bool×Int) (t:Array Value) (w' : World):Prop:=(t.size=75∧t[1]?=some (num step)∧t[3]?=some (ptr p1)∧t[5]?=some (ptr p2)∧t[7]?=some (num c.1)∧t[8]?=some (.bool c.2.1)∧t[9]?=some (num c.2.2)∧t[10]?=some (num c.1)∧t[11]?=some (.bool c.2.1)∧t[12]?=some (num c.2.2))∧Nx w w'
theorem f3_4 (d:Dry) (r:R2) (p1 p2:Nat) (step:Int) (s:St) (c:Int×Bool×Int) (t:Array Value) (hs:t.size=75) (h1:t[1]?=some (num step)) (h3:t[3]?=some (ptr p1)) (h5:t[5]?=some (ptr p2)) (h7:t[7]?=some (num c.1)) (h8:t[8]?=some (.bool c.2.1)) (h9:t[9]?=some (num c.2.2)) (w:World) (hB:DBox w p1 d r) (hd:DrySl w d r) (q0:w.cell? ⟨p2,0,none⟩=some (num s.w)) (q1:w.cell? ⟨p2,1,none⟩=some (num s.c)) (q2:w.cell? ⟨p2,2,none⟩=some (num s.h)) (hst : -9223372036854775808≤step∧step≤9223372036854775807) (hc:chooseF d step s=c) :
  x3_4.wpIn FW 0 Try.prog (fun e a w'=>e=.normal∧a.defers=[]∧Q3_4 w p1 p2 step c a.tmps w') ⟨t,[]⟩ w:=by
 obtain⟨f,rfl⟩:=ex75 hs
 have g1:f 1=num step:=by simpa using h1
 have g3:f 3=ptr p1:=by simpa using h3
 have g5:f 5=ptr p2:=by simpa using h5
 have g7:f 7=num c.1:=by simpa using h7
 have g8:f 8=.bool c.2.1:=by simpa using h8
 have g9:f 9=num c.2.2:=by simpa using h9
 rw [g1,g3,g5,g7,g8,g9] at *
 clear hs h1 h3 h5 h7 h8 h9 g1 g3 g5 g7 g8 g9
 have k:=choose19_wide d r step s w hd hst
 rw [hc] at k
 have c0:w.cell? ⟨p1,0,none⟩=some (r.h):=hB.at' 0 _ rfl
 have c1:w.cell? ⟨p1,1,none⟩=some (num d.soak):=hB.at' 1 _ rfl
 have c2:w.cell? ⟨p1,2,none⟩=some (num d.brittle):=hB.at' 2 _ rfl
 have c3:w.cell? ⟨p1,3,none⟩=some (num d.start.w):=hB.at' 3 _ rfl
 have c4:w.cell? ⟨p1,4,none⟩=some (num d.start.c):=hB.at' 4 _ rfl
 have c5:w.cell? ⟨p1,5,none⟩=some (num d.start.h):=hB.at' 5 _ rfl
 have c6:w.cell? ⟨p1,6,none⟩=some (r.s):=hB.at' 6 _ rfl
 clear hB hd hc hst
 obtain⟨c0',c1',c2'⟩:=c
 dsimp only at *
 simp only [x3_0,x3_1,x3_2,x3_3,x3_4,x3_5,x3_6,x3_7,x3_8,x3_9,r3_3,r3_7,b3,Try.f3,cL,cR,cB,cT]
 gi_wp2_with (first | (gi_at_call 19;refine CallsIn.mono k ?_;rintro e w1 ⟨rfl,n1⟩) | gi_in)
 exact⟨⟨rfl,rfl,rfl,rfl,rfl,rfl,rfl,rfl,rfl,rfl⟩,n1⟩
theorem f3_5 (p1 p2:Nat) (step:Int) (c:Int×Bool×Int) (t:Array Value) (hs:t.size=75) (h1:t[1]?=some (num step)) (h3:t[3]?=some (ptr p1)) (h5:t[5]?=some (ptr p2)) (h7:t[7]?=some (num c.1)) (h8:t[8]?=some (.bool c.2.1)) (h9:t[9]?=some (num c.2.2)) (h10:t[10]?=some (num c.1)) (h11:t[11]?=some (.bool c.2.1)) (h12:t[12]?=some (num c.2.2)) (w:World)  :
  x3_5.wpIn FW 0 Try.prog (fun e a w'=>e=.normal∧a.defers=[]∧(a.tmps.size=75∧a.tmps[1]?=some (num step)∧a.tmps[3]?=some (ptr p1)∧a.tmps[5]?=some (ptr p2)∧a.tmps[46]?=some (.bool false))∧w'=w) ⟨t,[]⟩ w:=by
 obtain⟨f,rfl⟩:=ex75 hs
 have g1:f 1=num step:=by simpa using h1
 have g3:f 3=ptr p1:=by simpa using h3
 have g5:f 5=ptr p2:=by simpa using h5
 have g7:f 7=num c.1:=by simpa using h7
 have g8:f 8=.bool c.2.1:=by simpa using h8
 have g9:f 9=num c.2.2:=by simpa using h9
 have g10:f 10=num c.1:=by simpa using h10
 have g11:f 11=.bool c.2.1:=by simpa using h11
 have g12:f 12=num c.2.2:=by simpa using h12
 rw [g1,g3,g5,g7,g8,g9,g10,g11,g12] at *
 clear hs h1 h3 h5 h7 h8 h9 h10 h11 h12 g1 g3 g5 g7 g8 g9 g10 g11 g12
 obtain⟨c0',c1',c2'⟩:=c
 dsimp only at *
 cases c1'<;>(simp only [x3_0,x3_1,x3_2,x3_3,x3_4,x3_5,x3_6,x3_7,x3_8,x3_9,r3_3,r3_7,b3,Try.f3,cL,cR,cB,cT];gi_wp2)
def Q3_7 (w:World) (p1 p2:Nat) (step:Int) (v13:Value) (g:List (List St)×Bool×Int) (t:Array Value) (w' : World):Prop:=∃ v,(t.size=75∧t[1]?=some (num step)∧t[3]?=some (ptr p1)∧t[5]?=some (ptr p2)∧t[13]?=some (v)∧t[8]?=some (.bool g.2.1)∧t[9]?=some (num g.2.2))∧Nx w w'∧SetsSl w' v g.1
theorem f3_7 (d:Dry) (r:R2) (p1 p2:Nat) (step:Int) (v13:Value) (g:List (List St)×Bool×Int) (t:Array Value) (hs:t.size=75) (h1:t[1]?=some (num step)) (h3:t[3]?=some (ptr p1)) (h5:t[5]?=some (ptr p2)) (w:World) (hB:DBox w p1 d r) (hd:DrySl w d r) (hg:safeF d=g) :
  x3_7.wpIn FW 0 Try.prog (fun e a w'=>e=.normal∧a.defers=[]∧Q3_7 w p1 p2 step v13 g a.tmps w') ⟨t,[]⟩ w:=by
 obtain⟨f,rfl⟩:=ex75 hs
 have g1:f 1=num step:=by simpa using h1
 have g3:f 3=ptr p1:=by simpa using h3
 have g5:f 5=ptr p2:=by simpa using h5
 rw [g1,g3,g5] at *
 clear hs h1 h3 h5 g1 g3 g5
 have k:=safe20_any d r w hd
 rw [hg] at k
 have c0:w.cell? ⟨p1,0,none⟩=some (r.h):=hB.at' 0 _ rfl
 have c1:w.cell? ⟨p1,1,none⟩=some (num d.soak):=hB.at' 1 _ rfl
 have c2:w.cell? ⟨p1,2,none⟩=some (num d.brittle):=hB.at' 2 _ rfl
 have c3:w.cell? ⟨p1,3,none⟩=some (num d.start.w):=hB.at' 3 _ rfl
 have c4:w.cell? ⟨p1,4,none⟩=some (num d.start.c):=hB.at' 4 _ rfl
 have c5:w.cell? ⟨p1,5,none⟩=some (num d.start.h):=hB.at' 5 _ rfl
 have c6:w.cell? ⟨p1,6,none⟩=some (r.s):=hB.at' 6 _ rfl
 clear hB hd hg
 obtain⟨g0',g1',g2'⟩:=g
 dsimp only at *
 simp only [x3_0,x3_1,x3_2,x3_3,x3_4,x3_5,x3_6,x3_7,x3_8,x3_9,r3_3,r3_7,b3,Try.f3,cL,cR,cB,cT]
 gi_wp2_with (first | (gi_at_call 20;refine CallsIn.mono k ?_;rintro e w1 ⟨v,rfl,n1,hv⟩) | gi_in)
 exact⟨v,⟨rfl,rfl,rfl,rfl,rfl,rfl,rfl⟩,n1,hv⟩
def Q3_8 (w:World) (p1 p2:Nat) (step:Int) (v13:Value) (g:List (List St)×Bool×Int) (t:Array Value) (w' : World):Prop:=∃ v,(t.size=75∧t[1]?=some (num step)∧t[3]?=some (ptr p1)∧t[5]?=some (ptr p2)∧t[13]?=some (v13)∧t[8]?=some (.bool g.2.1)∧t[9]?=some (num g.2.2)∧t[14]?=some (v)∧t[11]?=some (.bool g.2.1)∧t[12]?=some (num g.2.2))∧Nx w w'∧SetsSl w' v g.1
theorem f3_8 (d:Dry) (r:R2) (p1 p2:Nat) (step:Int) (v13:Value) (g:List (List St)×Bool×Int) (t:Array Value) (hs:t.size=75) (h1:t[1]?=some (num step)) (h3:t[3]?=some (ptr p1)) (h5:t[5]?=some (ptr p2)) (h13:t[13]?=some (v13)) (h8:t[8]?=some (.bool g.2.1)) (h9:t[9]?=some (num g.2.2)) (w:World) (hB:DBox w p1 d r) (hd:DrySl w d r) (hg:safeF d=g) :
  x3_8.wpIn FW 0 Try.prog (fun e a w'=>e=.normal∧a.defers=[]∧Q3_8 w p1 p2 step v13 g a.tmps w') ⟨t,[]⟩ w:=by
 obtain⟨f,rfl⟩:=ex75 hs
 have g1:f 1=num step:=by simpa using h1
 have g3:f 3=ptr p1:=by simpa using h3
 have g5:f 5=ptr p2:=by simpa using h5
 have g13:f 13=v13:=by simpa using h13
 have g8:f 8=.bool g.2.1:=by simpa using h8
 have g9:f 9=num g.2.2:=by simpa using h9
 rw [g1,g3,g5,g13,g8,g9] at *
 clear hs h1 h3 h5 h13 h8 h9 g1 g3 g5 g13 g8 g9
 have k:=safe21_any d r w hd
 rw [hg] at k
 have c0:w.cell? ⟨p1,0,none⟩=some (r.h):=hB.at' 0 _ rfl
 have c1:w.cell? ⟨p1,1,none⟩=some (num d.soak):=hB.at' 1 _ rfl
 have c2:w.cell? ⟨p1,2,none⟩=some (num d.brittle):=hB.at' 2 _ rfl
 have c3:w.cell? ⟨p1,3,none⟩=some (num d.start.w):=hB.at' 3 _ rfl
 have c4:w.cell? ⟨p1,4,none⟩=some (num d.start.c):=hB.at' 4 _ rfl
 have c5:w.cell? ⟨p1,5,none⟩=some (num d.start.h):=hB.at' 5 _ rfl
 have c6:w.cell? ⟨p1,6,none⟩=some (r.s):=hB.at' 6 _ rfl
 clear hB hd hg
 obtain⟨g0',g1',g2'⟩:=g
 dsimp only at *
 simp only [x3_0,x3_1,x3_2,x3_3,x3_4,x3_5,x3_6,x3_7,x3_8,x3_9,r3_3,r3_7,b3,Try.f3,cL,cR,cB,cT]
 gi_wp2_with (first | (gi_at_call 21;refine CallsIn.mono k ?_;rintro e w1 ⟨v,rfl,n1,hv⟩) | gi_in)
 exact⟨v,⟨rfl,rfl,rfl,rfl,rfl,rfl,rfl,rfl,rfl,rfl⟩,n1,hv⟩
end Go.Proofs.Ytedomogjmhommaa
namespace Go.Con
open Go Go.Conc
section
variable [Lone]
variable {P:Program} {maps:Bool} {E Arg:Nat→Prop} {W0:World} {f:FuncId} {k:List Item} {cs:List Frame}
variable {Q:(Nat→Prop)→(Nat→Prop)→Goroutine→World→Prop} {pend:List Nat}
theorem edge_lt {ops:Array Oper} {n:Nat} (hn:neatOps ops n=true) {i j:Nat} (he:edgeTo ops i j=true):j<i:=by
 have hi:i<ops.size:=by
  rcases Nat.lt_or_ge i ops.size with h | h
  ·exact h
  ·unfold edgeTo at he
   rw [Array.getElem?_eq_none h] at he
   cases he
 unfold neatOps at hn
 rw [List.all_eq_true] at hn
 have h1:=hn i (List.mem_range.2 hi)
 rw [Bool.and_eq_true] at h1
 have h2:=h1.2
 have ho:ops[i]?=some ops[i]:=Array.getElem?_eq_getElem hi
 rw [ho,Option.any_some,Array.all_eq_true_iff_forall_mem] at h2
 unfold edgeTo at he
 rw [ho] at he
 simp only [Option.map_some,Option.getD_some] at he
 obtain⟨q,hq,he⟩:=Array.any_eq_true.1 he
 rw [Bool.and_eq_true,beq_iff_eq] at he
 have h3:=h2 _ (Array.getElem_mem hq)
 rw [he.1] at h3
 have h4:(ops[i]).after[q].on<i:=by simpa using h3
 omega
theorem seq_go {ops:Array Oper} {C:World→Prop} {vs:Nat→Value} {t0:Array Value} (hn:neatOps ops t0.size=true)
  (hop:∀ i,i<ops.size→∀ t W Fz φ rest,C W→t.size=t0.size→(∀ j d,edgeTo ops i j=true→dstOf ops j=some d→t[d]?=some (vs j))→(∀ d,freeOf ops d=true→t[d]?=t0[d]?) →
   (∀ W' Fz' φ',C W'→GoM P maps E Fz' Arg W0 Q φ' pend (Fr f (putD t (dstOf ops i) (vs i)) (.inRegion ops rest :: k)) cs W')→GoM P maps E Fz Arg W0 Q φ pend (Fr f t (.inRegion ops (i :: rest) :: k)) cs W)
  (hend:∀ t W Fz φ,C W→t.size=t0.size→(∀ j d,dstOf ops j=some d→t[d]?=some (vs j))→(∀ d,freeOf ops d=true→t[d]?=t0[d]?)→GoM P maps E Fz Arg W0 Q φ pend (Fr f t k) cs W) :
  ∀ (m i:Nat) (t:Array Value) (W:World) Fz φ,i+m=ops.size→t.size=t0.size→(∀ j d,j<i→dstOf ops j=some d→t[d]?=some (vs j))→(∀ d,freeOf ops d=true→t[d]?=t0[d]?)→C W →
   GoM P maps E Fz Arg W0 Q φ pend (Fr f t (.inRegion ops (List.range' i m) :: k)) cs W:=by
 intro m
 induction m with
 | zero =>
  intro i t W Fz φ hi hs hg ho hC
  exact Gm.regionEnd (hend t W Fz φ hC hs (fun j d hj=>hg j d (by have:=dstOf_lt hj;omega) hj) ho)
 | succ m ih =>
  intro i t W Fz φ hi hs hg ho hC
  obtain⟨di,hdi,hdn,_⟩:=neat_dst hn (show i<ops.size by omega)
  refine hop i (by omega) t W Fz φ _ hC hs (fun j d he hj=>hg j d (edge_lt hn he) hj) ho fun W' Fz' φ' hC'=>?_
  refine ih (i+1) _ W' Fz' φ' (by omega) ?_ ?_ ?_ hC'
  ·rw [hdi]
   simp only [putD,Array.size_setIfInBounds]
   exact hs
  ·intro j d hj hd
   rw [hdi]
   simp only [putD]
   by_cases hij:i=j
   ·subst hij
    rw [hdi] at hd
    cases hd
    exact Array.getElem?_setIfInBounds_self_of_lt (by rw [hs];exact hdn)
   ·have hne:di≠d:=fun h=>hij (neat_inj hn hdi (h ▸ hd))
    rw [Array.getElem?_setIfInBounds_ne hne]
    exact hg j d (by omega) hd
  ·intro d hd
   rw [hdi]
   simp only [putD]
   have hne:di≠d:=fun h=>freeOf_spec hd i (h ▸ hdi)
   rw [Array.getElem?_setIfInBounds_ne hne]
   exact ho d hd
theorem Gm.regionSeq {Fz:Nat→Prop} {φ:Ph} {t0:Array Value} {W:World} {id:Nat} {ops:Array Oper} (C:World→Prop) (vs:Nat→Value) (hn:neatOps ops t0.size=true) (hC:C W)
  (hop:∀ i,i<ops.size→∀ t W Fz φ rest,C W→t.size=t0.size→(∀ j d,edgeTo ops i j=true→dstOf ops j=some d→t[d]?=some (vs j))→(∀ d,freeOf ops d=true→t[d]?=t0[d]?) →
   (∀ W' Fz' φ',C W'→GoM P maps E Fz' Arg W0 Q φ' pend (Fr f (putD t (dstOf ops i) (vs i)) (.inRegion ops rest :: k)) cs W')→GoM P maps E Fz Arg W0 Q φ pend (Fr f t (.inRegion ops (i :: rest) :: k)) cs W)
  (hend:∀ t W Fz φ,C W→t.size=t0.size→(∀ j d,dstOf ops j=some d→t[d]?=some (vs j))→(∀ d,freeOf ops d=true→t[d]?=t0[d]?)→GoM P maps E Fz Arg W0 Q φ pend (Fr f t k) cs W) :
  GoM P maps E Fz Arg W0 Q φ pend (Fr f t0 (.code (.region id ops false) :: k)) cs W:=by
 refine Gm.region ?_
 rw [List.range_eq_range']
 exact seq_go hn hop hend _ _ _ _ _ _ (by omega) rfl (fun j d h _=>absurd h (Nat.not_lt_zero _)) (fun _ _=>rfl) hC
end
end Go.Con
