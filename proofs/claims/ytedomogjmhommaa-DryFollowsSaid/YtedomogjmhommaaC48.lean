import Derived.Test.YtedomogjmhommaaC19
import Derived.Test.YtedomogjmhommaaC08
import Derived.Test.YtedomogjmhommaaC47
set_option linter.all false
set_option maxRecDepth 100000
set_option maxHeartbeats 8000000
namespace Go.Proofs.Ytedomogjmhommaa
open Go.RowKit Go.Con Go.Conc
noncomputable def b9:Code:=match Try.f9.body with | some c=>c | none=>.skip
noncomputable def x9_0:Code:=cL b9
noncomputable def x9_1:Code:=cL (cL (cR b9))
noncomputable def x9_2:Code:=cL (cT (cR (cL (cR b9))))
noncomputable def x9_3:Code:=cL (cR (cR b9))
noncomputable def x9_4:Code:=cL (cR (cR (cR b9)))
noncomputable def x9_5:Code:=cL (cR (cR (cR (cR b9))))
theorem b9_eq:b9=.seq x9_0 (.seq (.seq x9_1 (.cond (.tmp 22) (.seq x9_2 .ret) .skip)) (.seq x9_3 (.seq x9_4 (.seq x9_5 .ret)))):=by kernel_rfl
theorem ex56 {t:Array Value} (h:t.size=56):∃ f:Nat→Value,t=#[f 0,f 1,f 2,f 3,f 4,f 5,f 6,f 7,f 8,f 9,f 10,f 11,f 12,f 13,f 14,f 15,f 16,f 17,f 18,f 19,f 20,f 21,f 22,f 23,f 24,f 25,f 26,f 27,f 28,f 29,f 30,f 31,f 32,f 33,f 34,f 35,f 36,f 37,f 38,f 39,f 40,f 41,f 42,f 43,f 44,f 45,f 46,f 47,f 48,f 49,f 50,f 51,f 52,f 53,f 54,f 55]:=by
 obtain⟨f,rfl⟩:=exN 56 h
 exact⟨f,by kernel_rfl⟩
theorem f9_0 (d:Dry) (ha sa:Option Addr) (hn hcap sn scap:Nat)(pa aa:Option Addr) (pn pc an ac:Nat) (t:Array Value) (hs:t.size=56) (h0:t[0]?=some (d.val ⟨.slice ha hn hcap,.slice sa sn scap⟩)) (h1:t[1]?=some (.slice pa pn pc)) (h2:t[2]?=some (.slice aa an ac)) (w:World)  :
  x9_0.wpIn FW 0 Try.prog (fun e a w'=>e=.normal∧a.defers=[]∧(a.tmps.size=56∧a.tmps[1]?=some (.slice pa pn pc)∧a.tmps[2]?=some (.slice aa an ac)∧a.tmps[3]?=some (ptr w.heap.size)∧a.tmps[6]?=some (.bool false))∧w'=w.alloc (.cells (d.cellsA ⟨.slice ha hn hcap,.slice sa sn scap⟩) 27)) ⟨t,[]⟩ w:=by
 obtain⟨f,rfl⟩:=ex56 hs
 have g0:f 0=d.val ⟨.slice ha hn hcap,.slice sa sn scap⟩:=by simpa using h0
 have g1:f 1=.slice pa pn pc:=by simpa using h1
 have g2:f 2=.slice aa an ac:=by simpa using h2
 rw [g0,g1,g2] at *
 clear hs h0 h1 h2 g0 g1 g2
 simp only [x9_0,x9_1,x9_2,x9_3,x9_4,x9_5,b9,Try.f9,cL,cR,cB,cT]
 gi_wp2
def Q9a (w:World) (p1:Nat) (pa aa:Option Addr) (pn pc an ac:Nat) (b:Bool) (t:Array Value) (w' : World):Prop:=(t.size=56∧t[1]?=some (.slice pa pn pc)∧t[2]?=some (.slice aa an ac)∧t[3]?=some (ptr p1)∧t[6]?=some (.bool false)∧t[22]?=some (.bool b))∧Nx w w'
theorem f9_1 (d:Dry) (r:R2) (p1:Nat) (pa aa:Option Addr) (pn pc an ac:Nat) (t:Array Value) (hs:t.size=56) (h1:t[1]?=some (.slice pa pn pc)) (h2:t[2]?=some (.slice aa an ac)) (h3:t[3]?=some (ptr p1)) (h6:t[6]?=some (.bool false)) (w:World) (hB:DBox w p1 d r) (hh:Sl w r.h 2 (d.heats.map two)) (hst:Sl w r.s 6 (d.steps.map Stp.cells)) (hl:d.heats.length≤140737488355328) (sl:d.steps.length≤140737488355328) (hp:pn≤140737488355328) (ha:an≤140737488355328) :
  x9_1.wpIn FW 0 Try.prog (fun e a w'=>e=.normal∧a.defers=[]∧Q9a w p1 pa aa pn pc an ac (greatD d || decide (40<pn) || decide (40<an)) a.tmps w') ⟨t,[]⟩ w:=by
 obtain⟨f,rfl⟩:=ex56 hs
 have g1:f 1=.slice pa pn pc:=by simpa using h1
 have g2:f 2=.slice aa an ac:=by simpa using h2
 have g3:f 3=ptr p1:=by simpa using h3
 have g6:f 6=.bool false:=by simpa using h6
 rw [g1,g2,g3,g6] at *
 clear hs h1 h2 h3 h6 g1 g2 g3 g6
 have k16:=great16_big d r w hh hst hl sl
 have c0:w.cell? ⟨p1,0,none⟩=some (r.h):=hB.at' 0 _ rfl
 have c1:w.cell? ⟨p1,1,none⟩=some (num d.soak):=hB.at' 1 _ rfl
 have c2:w.cell? ⟨p1,2,none⟩=some (num d.brittle):=hB.at' 2 _ rfl
 have c3:w.cell? ⟨p1,3,none⟩=some (num d.start.w):=hB.at' 3 _ rfl
 have c4:w.cell? ⟨p1,4,none⟩=some (num d.start.c):=hB.at' 4 _ rfl
 have c5:w.cell? ⟨p1,5,none⟩=some (num d.start.h):=hB.at' 5 _ rfl
 have c6:w.cell? ⟨p1,6,none⟩=some (r.s):=hB.at' 6 _ rfl
 clear hB hh hst hl sl
 generalize greatD d=g at *
 cases g
 ·by_cases q1:40<pn
  ·have e1:(decide (40<pn))=true:=decide_eq_true q1
   rw [e1,show (false || true || decide (40<an))=true from rfl]
   simp only [x9_0,x9_1,x9_2,x9_3,x9_4,x9_5,b9,Try.f9,cL,cR,cB,cT]
   gi_wp2_with (first | (refine wpListIn_pass (fun _=>trivial) rfl ?_) | (gi_at_call 16;refine CallsIn.mono k16 ?_;rintro e w1 ⟨rfl,n1⟩) | gi_in)
   exact⟨⟨rfl,rfl,rfl,rfl,rfl,by simp<;>omega⟩,n1⟩
  ·have e1:(decide (40<pn))=false:=decide_eq_false q1
   rw [e1,show (false || false || decide (40<an))=decide (40<an) by simp]
   have e2:decide ((40:Int)<(pn:Int))=false:=decide_eq_false (by omega)
   simp only [x9_0,x9_1,x9_2,x9_3,x9_4,x9_5,b9,Try.f9,cL,cR,cB,cT]
   gi_wp2_with (first | (gi_at_call 16;refine CallsIn.mono k16 ?_;rintro e w1 ⟨rfl,n1⟩) | gi_in)
   exact⟨⟨rfl,rfl,rfl,rfl,rfl,by simp<;>omega⟩,n1⟩
 ·rw [show (true || decide (40<pn) || decide (40<an))=true by simp]
  simp only [x9_0,x9_1,x9_2,x9_3,x9_4,x9_5,b9,Try.f9,cL,cR,cB,cT]
  gi_wp2_with (first | (refine wpListIn_pass (fun _=>trivial) rfl ?_) | (gi_at_call 16;refine CallsIn.mono k16 ?_;rintro e w1 ⟨rfl,n1⟩) | gi_in)
  exact⟨⟨rfl,rfl,rfl,rfl,rfl,rfl⟩,n1⟩
def Q9_3 (w:World) (p1:Nat) (pa aa:Option Addr) (pn pc an ac:Nat) (v7:Value) (n8:Int) (f:List St×Int) (t:Array Value) (w' : World):Prop:=∃ v,(t.size=56∧t[1]?=some (.slice pa pn pc)∧t[2]?=some (.slice aa an ac)∧t[3]?=some (ptr p1)∧t[6]?=some (.bool false)∧t[7]?=some (v)∧t[8]?=some (num f.2))∧Nx w w'∧Sl w' v 3 (f.1.map St.cells)
theorem f9_3 (d:Dry) (r:R2) (p1:Nat) (plan air:List Int) (pa aa:Option Addr) (pc ac:Nat) (v7:Value) (n8:Int) (t:Array Value) (hs:t.size=56) (h1:t[1]?=some (.slice pa plan.length pc)) (h2:t[2]?=some (.slice aa air.length ac)) (h3:t[3]?=some (ptr p1)) (h6:t[6]?=some (.bool false)) (w:World) (hB:DBox w p1 d r) (hd:DrySl w d r) (hp:Sl w (.slice pa plan.length pc) 1 (plan.map one)) (hair:Sl w (.slice aa air.length ac) 1 (air.map one)) (hl1:plan.length≤1000000000) (hl2:air.length≤1000000000) :
  x9_3.wpIn FW 0 Try.prog (fun e a w'=>e=.normal∧a.defers=[]∧Q9_3 w p1 pa aa plan.length pc air.length ac v7 n8 (followF d plan air) a.tmps w') ⟨t,[]⟩ w:=by
 obtain⟨f,rfl⟩:=ex56 hs
 have g1:f 1=.slice pa plan.length pc:=by simpa using h1
 have g2:f 2=.slice aa air.length ac:=by simpa using h2
 have g3:f 3=ptr p1:=by simpa using h3
 have g6:f 6=.bool false:=by simpa using h6
 rw [g1,g2,g3,g6] at *
 clear hs h1 h2 h3 h6 g1 g2 g3 g6
 have k:=follow44_any d r _ _ plan air w hd hp hair hl1 hl2
 have c0:w.cell? ⟨p1,0,none⟩=some (r.h):=hB.at' 0 _ rfl
 have c1:w.cell? ⟨p1,1,none⟩=some (num d.soak):=hB.at' 1 _ rfl
 have c2:w.cell? ⟨p1,2,none⟩=some (num d.brittle):=hB.at' 2 _ rfl
 have c3:w.cell? ⟨p1,3,none⟩=some (num d.start.w):=hB.at' 3 _ rfl
 have c4:w.cell? ⟨p1,4,none⟩=some (num d.start.c):=hB.at' 4 _ rfl
 have c5:w.cell? ⟨p1,5,none⟩=some (num d.start.h):=hB.at' 5 _ rfl
 have c6:w.cell? ⟨p1,6,none⟩=some (r.s):=hB.at' 6 _ rfl
 clear hB hd hp hair hl1 hl2
 generalize followF d plan air=fo at *
 simp only [x9_0,x9_1,x9_2,x9_3,x9_4,x9_5,b9,Try.f9,cL,cR,cB,cT]
 gi_wp2_with (first | (gi_at_call 44;refine CallsIn.mono k ?_;rintro e w1 ⟨v,rfl,n1,hv⟩) | gi_in)
 exact⟨v,⟨rfl,rfl,rfl,rfl,rfl,rfl,rfl⟩,n1,stRow_sl hv⟩
def Q9_4 (w:World) (p1:Nat) (pa aa:Option Addr) (pn pc an ac:Nat) (v7:Value) (n8:Int) (f:List St×Int) (t:Array Value) (w' : World):Prop:=∃ v,(t.size=56∧t[1]?=some (.slice pa pn pc)∧t[2]?=some (.slice aa an ac)∧t[3]?=some (ptr p1)∧t[6]?=some (.bool false)∧t[7]?=some (v7)∧t[8]?=some (num n8)∧t[9]?=some (v)∧t[10]?=some (num f.2))∧Nx w w'∧Sl w' v 3 (f.1.map St.cells)
theorem f9_4 (d:Dry) (r:R2) (p1:Nat) (plan air:List Int) (pa aa:Option Addr) (pc ac:Nat) (v7:Value) (n8:Int) (t:Array Value) (hs:t.size=56) (h1:t[1]?=some (.slice pa plan.length pc)) (h2:t[2]?=some (.slice aa air.length ac)) (h3:t[3]?=some (ptr p1)) (h6:t[6]?=some (.bool false)) (h7:t[7]?=some (v7)) (h8:t[8]?=some (num n8)) (w:World) (hB:DBox w p1 d r) (hd:DrySl w d r) (hp:Sl w (.slice pa plan.length pc) 1 (plan.map one)) (hair:Sl w (.slice aa air.length ac) 1 (air.map one)) (hl1:plan.length≤1000000000) (hl2:air.length≤1000000000) :
  x9_4.wpIn FW 0 Try.prog (fun e a w'=>e=.normal∧a.defers=[]∧Q9_4 w p1 pa aa plan.length pc air.length ac v7 n8 (followF d plan air) a.tmps w') ⟨t,[]⟩ w:=by
 obtain⟨f,rfl⟩:=ex56 hs
 have g1:f 1=.slice pa plan.length pc:=by simpa using h1
 have g2:f 2=.slice aa air.length ac:=by simpa using h2
 have g3:f 3=ptr p1:=by simpa using h3
 have g6:f 6=.bool false:=by simpa using h6
 have g7:f 7=v7:=by simpa using h7
 have g8:f 8=num n8:=by simpa using h8
 rw [g1,g2,g3,g6,g7,g8] at *
 clear hs h1 h2 h3 h6 h7 h8 g1 g2 g3 g6 g7 g8
 have k:=follow45_any d r _ _ plan air w hd hp hair hl1 hl2
 have c0:w.cell? ⟨p1,0,none⟩=some (r.h):=hB.at' 0 _ rfl
 have c1:w.cell? ⟨p1,1,none⟩=some (num d.soak):=hB.at' 1 _ rfl
 have c2:w.cell? ⟨p1,2,none⟩=some (num d.brittle):=hB.at' 2 _ rfl
 have c3:w.cell? ⟨p1,3,none⟩=some (num d.start.w):=hB.at' 3 _ rfl
 have c4:w.cell? ⟨p1,4,none⟩=some (num d.start.c):=hB.at' 4 _ rfl
 have c5:w.cell? ⟨p1,5,none⟩=some (num d.start.h):=hB.at' 5 _ rfl
 have c6:w.cell? ⟨p1,6,none⟩=some (r.s):=hB.at' 6 _ rfl
 clear hB hd hp hair hl1 hl2
 generalize followF d plan air=fo at *
 simp only [x9_0,x9_1,x9_2,x9_3,x9_4,x9_5,b9,Try.f9,cL,cR,cB,cT]
 gi_wp2_with (first | (gi_at_call 45;refine CallsIn.mono k ?_;rintro e w1 ⟨v,rfl,n1,hv⟩) | gi_in)
 exact⟨v,⟨rfl,rfl,rfl,rfl,rfl,rfl,rfl,rfl,rfl⟩,n1,stRow_sl hv⟩
end Go.Proofs.Ytedomogjmhommaa
namespace Go.Proofs.Ytedomogjmhommaa
open Go.RowKit Go.Con Go.Conc
local instance dryI85:Lone:=dryL
theorem nx_tape {w w' : World} {τ:Tape} (n:Nx { w with tape:=τ } w'):OldC w w':=.heap n.size fun b hb=>n.block b hb
theorem EW.tape {w:World} {p1:Nat} {r:R2} {τ:Tape} (h:EW w p1 r):EW { w with tape:=τ } p1 r:=h.oc (OldC.same rfl)
theorem dries_go (E Fz Arg:Nat→Prop) (W0:World) (Q:(Nat→Prop)→(Nat→Prop)→Goroutine→World→Prop) (φ:Ph) (c0:Frame) (cs:List Frame) (W:World) (t:Array Value) (hs:t.size=146)
  (hcont:∀ (φ1:Ph) (W1:World) (Fz1:Nat→Prop),OldC W W1→GoM Try.prog true E Fz1 Arg W0 Q φ1 [] (c0.finish (.bool true)) cs W1) :
  GoM Try.prog true E Fz Arg W0 Q φ [] (Fr 17 t [.code b17]) (c0 :: cs) W:=by
 rw [b17_eq]
 refine Gm.seq ?_
 refine Gm.lone (F:=FW) (fun t1 W1=>t1.size=146∧W1.heap=W.heap) rfl rfl trivial FW_ok (by kernel_rfl) (by kernel_rfl) (fun τ=>?_) ?_
 ·refine wpIn_mono (dr0 t hs { W with tape:=τ }) ?_
  rintro e a w' ⟨k1,k2,k3,rfl⟩
  exact⟨k1,k2,k3,rfl⟩
 rintro t0 Wa ⟨s0,hWa⟩
 have oa:OldC W Wa:=OldC.same hWa
 clear hs hWa
 refine Gm.seq ?_
 refine Gm.lone (F:=FW) (fun t1 W1=>(∃ p1 r,(t1.size=146∧t1[1]?=some (ptr p1))∧EW W1 p1 r)∧OldC Wa W1) rfl rfl trivial FW_ok (by kernel_rfl) (by kernel_rfl) (fun τ=>?_) ?_
 ·refine wpIn_mono (dr1 t0 s0 { Wa with tape:=τ }) ?_
  rintro e a w' ⟨k1,k2,p1,r,k3,k4,k5⟩
  exact⟨k1,k2,⟨p1,r,k3,k4⟩,nx_tape k5⟩
 rintro t1 W1 ⟨⟨p1,r,⟨s1,m1⟩,hE⟩,o1⟩
 have o1:=oa.trans o1
 clear oa s0
 refine Gm.seq ?_
 refine Gm.lone (F:=FW) (fun t2 W2=>(t2.size=146∧t2[1]?=some (ptr p1)∧t2[2]?=some (num 2)∧t2[3]?=some (.bool true)∧t2[4]?=some (num 0))∧OldC W1 W2) rfl rfl trivial FW_ok (by kernel_rfl) (by kernel_rfl) (fun τ=>?_) ?_
 ·refine wpIn_mono (dr2 p1 r t1 s1 m1 { W1 with tape:=τ } hE.tape) ?_
  rintro e a w' ⟨k1,k2,k3,k4⟩
  exact⟨k1,k2,k3,nx_tape k4⟩
 rintro t2 W2 ⟨⟨s2,n1,n2,n3,n4⟩,o2⟩
 have hE2:=hE.oc o2
 have o2:=o1.trans o2
 clear o1 hE s1 m1
 refine Gm.seq ?_
 refine Gm.lone (F:=FW) (fun t3 W3=>∃ v5,(t3.size=146∧t3[1]?=some (ptr p1)∧t3[2]?=some (num 2)∧t3[3]?=some (.bool true)∧t3[4]?=some (num 0)∧t3[5]?=some v5∧t3[6]?=some (.bool true)∧t3[7]?=some (num 0))∧OldC W2 W3∧SetsSl W3 v5 (safeF exD).1) rfl rfl trivial FW_ok (by kernel_rfl) (by kernel_rfl) (fun τ=>?_) ?_
 ·refine wpIn_mono (dr3 p1 r t2 s2 n1 n2 n3 n4 { W2 with tape:=τ } hE2.tape) ?_
  rintro e a w' ⟨k1,k2,v5,k3,k4,k5⟩
  exact⟨k1,k2,v5,k3,nx_tape k4,k5⟩
 rintro t3 W3 ⟨v5,⟨s3,m1,m2,m3,m4,m5,m6,m7⟩,o3,hv5⟩
 have hE3:=hE2.oc o3
 have o3:=o2.trans o3
 clear o2 hE2 s2 n1 n2 n3 n4
 refine Gm.seq ?_
 rw [x17_4_eq]
 refine Gm.region ?_
 rw [show List.range ops17_4.size=[0,1,2,3,4,5,6,7,8] by kernel_rfl]
 refine Gm.op (o:=⟨some 35,.load 27 (.tmp 1),_,_,_,none⟩) (exD.val r) W3 rfl rfl (by kernel_rfl) rfl (load27_run _ (eval_tmp m1) hE3.box) id ?_
 refine Gm.enter (o:=⟨some 36,.call { callee:=.value (.func 23),args:=#[.tmp 35],argTypes:=#[27] },_,_,_,none⟩) (c:={ callee:=.value (.func 23),args:=#[.tmp 35],argTypes:=#[27] }) (g:=23) (fn:=Try.f23) (body:=b23) rfl rfl rfl rfl (by kernel_rfl) Try.func23 body23_of (by kernel_rfl) ?_
 obtain⟨ha,hcap,q1⟩:=hE3.sl.heats.cases
 obtain⟨sa,scap,q2⟩:=hE3.sl.steps.cases
 rw [List.length_map] at q1 q2
 obtain⟨rh,rs⟩:=r
 dsimp only at q1 q2
 subst q1 q2
 have e35:(Fr 17 (putD t3 (some 35) (exD.val ⟨.slice ha exD.heats.length hcap,.slice sa exD.steps.length scap⟩)) []).eval (.tmp 35)=exD.val ⟨.slice ha exD.heats.length hcap,.slice sa exD.steps.length scap⟩:=eval_tmp (by simp [putD,s3])
 refine blind_go E Fz Arg W0 Q φ _ (c0 :: cs) W3 exD ha sa hcap scap hE3.sl _ ?_ ?_ fun φ1 W4 Fz1 v8 o4 hv8=>?_
 ·simp [Try.ntmps23]
 ·simp [e35]
 rw [blind_ex] at hv8 ⊢
 rw [Fr_finish rfl]
 dsimp only
 change GoM Try.prog true E Fz1 Arg W0 Q φ1 [] (Fr 17 (putD (putD t3 (some 35) _) (some 36) (.tuple #[v8,.bool true,num 0])) _) (c0 :: cs) W4
 have hE4:=hE3.oc o4
 have hv5:=hv5.oc o4
 have o4:=o3.trans o4
 clear o3 hE3 e35
 refine Gm.op (o:=⟨some 34,.move (.tmp 36),_,_,_,none⟩) (.tuple #[v8,.bool true,num 0]) W4 rfl rfl (by kernel_rfl) rfl (mv_run _ (eval_tmp (by simp [putD,s3]))) id ?_
 refine Gm.op (o:=⟨some 37,.extract (.tmp 34) 0,_,_,_,none⟩) v8 W4 rfl rfl (by kernel_rfl) rfl (ext0_run (v:=.bool true) (z:=num 0) _ (eval_tmp (by simp [putD,s3]))) id ?_
 refine Gm.op (o:=⟨some 38,.extract (.tmp 34) 1,_,_,_,none⟩) (.bool true) W4 rfl rfl (by kernel_rfl) rfl (ext1_run (u:=v8) (z:=num 0) _ (eval_tmp (by simp [putD,s3]))) id ?_
 refine Gm.op (o:=⟨some 39,.extract (.tmp 34) 2,_,_,_,none⟩) (num 0) W4 rfl rfl (by kernel_rfl) rfl (ext2_run (u:=v8) (v:=.bool true) _ (eval_tmp (by simp [putD,s3]))) id ?_
 refine Gm.op (o:=⟨some 8,.assign (.tmp 37),_,_,_,none⟩) v8 W4 rfl rfl (by kernel_rfl) rfl (as_run _ (eval_tmp (by simp [putD,s3]))) id ?_
 refine Gm.op (o:=⟨some 9,.assign (.tmp 38),_,_,_,none⟩) (.bool true) W4 rfl rfl (by kernel_rfl) rfl (as_run _ (eval_tmp (by simp [putD,s3]))) id ?_
 refine Gm.op (o:=⟨some 10,.assign (.tmp 39),_,_,_,none⟩) (num 0) W4 rfl rfl (by kernel_rfl) rfl (as_run _ (eval_tmp (by simp [putD,s3]))) id ?_
 refine Gm.regionEnd ?_
 generalize ht4:putD _ (some 10) (num 0)=t4
 have s4:t4.size=146:=by rw [← ht4];simp [putD,s3]
 have n1:t4[1]?=some (ptr p1):=by rw [← ht4];simp [putD,m1]
 have n2:t4[2]?=some (num 2):=by rw [← ht4];simp [putD,m2]
 have n3:t4[3]?=some (.bool true):=by rw [← ht4];simp [putD,m3]
 have n4:t4[4]?=some (num 0):=by rw [← ht4];simp [putD,m4]
 have n5:t4[5]?=some v5:=by rw [← ht4];simp [putD,m5]
 have n6:t4[6]?=some (.bool true):=by rw [← ht4];simp [putD,m6]
 have n7:t4[7]?=some (num 0):=by rw [← ht4];simp [putD,m7]
 have n8:t4[8]?=some v8:=by rw [← ht4];simp [putD,s3]
 have n9:t4[9]?=some (.bool true):=by rw [← ht4];simp [putD,s3]
 have n10:t4[10]?=some (num 0):=by rw [← ht4];simp [putD,s3]
 clear ht4 s3 m1 m2 m3 m4 m5 m6 m7
 generalize (⟨.slice ha exD.heats.length hcap,.slice sa exD.steps.length scap⟩:R2)=r at hE4
 refine Gm.seq ?_
 refine Gm.lone (F:=FW) (fun t5 W5=>∃ v11,(t5.size=146∧t5[1]?=some (ptr p1)∧t5[2]?=some (num 2)∧t5[3]?=some (.bool true)∧t5[4]?=some (num 0)∧t5[5]?=some v5∧t5[6]?=some (.bool true)∧t5[7]?=some (num 0)∧t5[8]?=some v8∧t5[9]?=some (.bool true)∧t5[10]?=some (num 0)∧t5[11]?=some v11∧t5[12]?=some (num 1)∧t5[13]?=some (.bool true)∧t5[14]?=some (num 0))∧OldC W4 W5∧Sl W5 v11 1 (([0,0,0]:List Int).map one)) rfl rfl trivial FW_ok (by kernel_rfl) (by kernel_rfl) (fun τ=>?_) ?_
 ·refine wpIn_mono (dr5 p1 v5 v8 r t4 s4 n1 n2 n3 n4 n5 n6 n7 n8 n9 n10 { W4 with tape:=τ } hE4.tape) ?_
  rintro e a w' ⟨k1,k2,v11,k3,k4,k5⟩
  exact⟨k1,k2,v11,k3,nx_tape k4,k5⟩
 rintro t5 W5 ⟨v11,⟨s5,m1,m2,m3,m4,m5,m6,m7,m8,m9,m10,m11,m12,m13,m14⟩,o5,hv11⟩
 have hE5:=hE4.oc o5
 have hv5:=hv5.oc o5
 have hv8:=hv8.oc o5
 have o5:=o4.trans o5
 clear o4 hE4 s4 n1 n2 n3 n4 n5 n6 n7 n8 n9 n10
 refine Gm.seq ?_
 refine Gm.lone (F:=FW) (fun t6 W6=>∃ pa pb,(t6.size=146∧t6[1]?=some (ptr p1)∧t6[2]?=some (num 2)∧t6[3]?=some (.bool true)∧t6[4]?=some (num 0)∧t6[5]?=some v5∧t6[6]?=some (.bool true)∧t6[7]?=some (num 0)∧t6[8]?=some v8∧t6[9]?=some (.bool true)∧t6[10]?=some (num 0)∧t6[11]?=some v11∧t6[12]?=some (num 1)∧t6[13]?=some (.bool true)∧t6[14]?=some (num 0)∧t6[15]?=some (ptr pa)∧t6[16]?=some (ptr pb)∧t6[17]?=some (num 0))∧OldC W5 W6∧W6.heap[pa]?=some (.cells #[num 720,num 825] 45 (0,0))∧W6.heap[pb]?=some (.cells #[num 20,num 20] 45 (0,0))) rfl rfl trivial FW_ok (by kernel_rfl) (by kernel_rfl) (fun τ=>?_) ?_
 ·refine wpIn_mono (dr6 p1 v5 v8 v11 r t5 s5 m1 m2 m3 m4 m5 m6 m7 m8 m9 m10 m11 m12 m13 m14 { W5 with tape:=τ } hE5.tape) ?_
  rintro e a w' ⟨k1,k2,pa,pb,k3,k4,k5,k6⟩
  exact⟨k1,k2,pa,pb,k3,nx_tape k4,k5,k6⟩
 rintro t6 W6 ⟨pa,pb,⟨s6,n1,n2,n3,n4,n5,n6,n7,n8,n9,n10,n11,n12,n13,n14,n15,n16,n17⟩,o6,ga,gb⟩
 have hE6:=hE5.oc o6
 have hv5:=hv5.oc o6
 have hv8:=hv8.oc o6
 have hv11:=hv11.oc o6
 have ca0:W6.cell? ⟨pa,0,none⟩=some (num 720):=row_cell ga rfl
 have ca1:W6.cell? ⟨pa,1,none⟩=some (num 825):=row_cell ga rfl
 have cb0:W6.cell? ⟨pb,0,none⟩=some (num 20):=row_cell gb rfl
 have cb1:W6.cell? ⟨pb,1,none⟩=some (num 20):=row_cell gb rfl
 have o6:=o5.trans o6
 clear o5 hE5 s5 m1 m2 m3 m4 m5 m6 m7 m8 m9 m10 m11 m12 m13 m14 ga gb
 refine Gm.seq ?_
 refine Gm.lone (F:=FW) (fun t7 W7=>∃ v18,(t7.size=146∧t7[1]?=some (ptr p1)∧t7[2]?=some (num 2)∧t7[3]?=some (.bool true)∧t7[4]?=some (num 0)∧t7[5]?=some v5∧t7[6]?=some (.bool true)∧t7[7]?=some (num 0)∧t7[8]?=some v8∧t7[9]?=some (.bool true)∧t7[10]?=some (num 0)∧t7[11]?=some v11∧t7[12]?=some (num 1)∧t7[13]?=some (.bool true)∧t7[14]?=some (num 0)∧t7[15]?=some (ptr pa)∧t7[16]?=some (ptr pb)∧t7[17]?=some (num 0)∧t7[18]?=some v18∧t7[19]?=some (num 0))∧OldC W6 W7∧Sl W7 v18 2 (L32.map spc)) rfl rfl trivial FW_ok (by kernel_rfl) (by kernel_rfl) (fun τ=>?_) ?_
 ·refine wpIn_mono (dr7 p1 pa pb v5 v8 v11 r t6 s6 n1 n2 n3 n4 n5 n6 n7 n8 n9 n10 n11 n12 n13 n14 n15 n16 n17 { W6 with tape:=τ } hE6.tape) ?_
  rintro e a w' ⟨k1,k2,v18,k3,k4,k5⟩
  exact⟨k1,k2,v18,k3,nx_tape k4,k5⟩
 rintro t7 W7 ⟨v18,⟨s7,m1,m2,m3,m4,m5,m6,m7,m8,m9,m10,m11,m12,m13,m14,m15,m16,m17,m18,m19⟩,o7,hv18⟩
 have hv5:=hv5.oc o7
 have hv8:=hv8.oc o7
 have hv11:=hv11.oc o7
 have ca0:=o7.at ca0
 have ca1:=o7.at ca1
 have cb0:=o7.at cb0
 have cb1:=o7.at cb1
 have o7:=o6.trans o7
 clear o6 hE6 s6 n1 n2 n3 n4 n5 n6 n7 n8 n9 n10 n11 n12 n13 n14 n15 n16 n17
 refine Gm.seq (Gm.seq ?_)
 refine Gm.lone (F:=FW) (fun t8 W8=>P8 t8 p1 pa pb v5 v8 v11 v18∧W8.heap=W7.heap) rfl rfl trivial FW_ok (by kernel_rfl) (by kernel_rfl) (fun τ=>?_) ?_
 ·refine wpIn_mono (dr8 p1 pa pb v5 v8 v11 v18 t7 s7 m1 m2 m3 m4 m5 m6 m7 m8 m9 m10 m11 m12 m13 m14 m15 m16 m17 m18 m19 { W7 with tape:=τ }) ?_
  rintro e a w' ⟨k1,k2,k3,rfl⟩
  exact⟨k1,k2,k3,rfl⟩
 rintro t8 W8 ⟨⟨s8,n1,n2,n3,n4,n5,n6,n7,n8,n9,n10,n11,n12,n13,n14,n15,n16,n17,n18,n19,n85⟩,hW8⟩
 have o8:=OldC.same hW8
 have hv5:=hv5.oc o8
 have hv8:=hv8.oc o8
 have hv11:=hv11.oc o8
 have hv18:=hv18.oc o8
 have ca0:=o8.at ca0
 have ca1:=o8.at ca1
 have cb0:=o8.at cb0
 have cb1:=o8.at cb1
 have o8:=o7.trans o8
 clear o7 hW8 s7 m1 m2 m3 m4 m5 m6 m7 m8 m9 m10 m11 m12 m13 m14 m15 m16 m17 m18 m19
 refine Gm.cond (b:=false) (eval_tmp n85) rfl ?_
 refine Gm.skip (Gm.seq ?_)
 obtain⟨a8,k8,rfl⟩:=sl_len3 hv8
 obtain⟨a11,k11,rfl⟩:=sl_len3 hv11
 obtain⟨a18,k18,rfl⟩:=sl_len3 hv18
 obtain⟨vs,hvs,hlen,hel⟩:=hv5
 rw [ex_safe2] at hlen
 obtain⟨b5,o5,k5,rfl,u,cu,hu⟩:∃ b5 o5 k5,v5=.slice (some ⟨b5,o5,none⟩) 4 k5∧∃ u,W8.cell? ⟨b5,o5+2,none⟩=some u∧Sl W8 u 3 (L46.map St.cells):=by
  obtain⟨cap,⟨h1,_⟩ | ⟨b,off,rfl,_,hc⟩⟩:=hvs
  ·have:vs=[]:=by simpa using h1
   rw [this] at hlen;cases hlen
  ·refine⟨b,off,cap,by rw [List.length_map,hlen],?_⟩
   have hu2:vs[2]?=some (vs[2]'(by omega)):=List.getElem?_eq_getElem _
   refine⟨_,?_,hel 2 _ L46 hu2 ex_safe3⟩
   have:=hc 2 0 [vs[2]'(by omega)] _ (by rw [List.getElem?_map,hu2];rfl) rfl
   exact this
 obtain⟨ua,uc,rfl⟩:=sl_len3 hu
 refine Gm.lone (F:=FW) (fun t9 W9=>t9[0]?=some (.bool true)∧OldC W8 W9) rfl rfl trivial FW_ok (by kernel_rfl) (by kernel_rfl) (fun τ=>?_) ?_
 ·refine wpIn_mono (dr10 pa pb b5 o5 k5 k8 k11 k18 a8 a11 a18 t8 ⟨s8,n2,n3,n5,n6,n8,n9,n11,n12,n13,n15,n16,n18⟩ { W8 with tape:=τ } uc ua cu (hu.oc (OldC.same rfl)) (hv8.oc (OldC.same rfl)) (hv11.oc (OldC.same rfl)) (hv18.oc (OldC.same rfl)) ca0 ca1 cb0 cb1) ?_
  rintro e a w' ⟨k1,k2,k3,k4⟩
  exact⟨k1,k2,k3,nx_tape k4⟩
 rintro t9 W9 ⟨h0,o9⟩
 refine Gm.ret Try.func17 (results17 (.bool true) t9 h0) ?_
 exact hcont φ1 W9 Fz1 (o8.trans o9)
end Go.Proofs.Ytedomogjmhommaa
