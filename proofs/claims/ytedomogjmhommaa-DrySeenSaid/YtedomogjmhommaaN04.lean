import Derived.Test.YtedomogjmhommaaN03
set_option linter.all false
set_option maxRecDepth 100000
set_option maxHeartbeats 8000000
namespace Go.Proofs.Ytedomogjmhommaa
open Go.RowKit Go.Con Go.Conc
theorem run_sliceK {t e:TypeId} {z:Value} {sz by_:Nat} (T:ElemT t e z sz by_) (w:World) {b off n cap k:Nat} (hk:k≤cap) (hc:0<cap) :
  (Instr.sliceAt t (.slice (some ⟨b,off,none⟩) n cap) none (some (num k)) none).run Try.prog w=.ok (.slice (some ⟨b,off,none⟩) k cap) w:=by
 obtain⟨i,hi,hz,hs,hby⟩:=T.info
 have hel:Try.prog.elem t=e:=by unfold Program.elem;rw [T.und]
 have hu:Try.prog.underlying t=some (.slice (Try.prog.elem t)):=by rw [hel];exact T.und
 have hsz:∀ w,(sizeOf e).run Try.prog w=.ok sz w:=fun w=>by simp [sizeOf,typeInfo,hi,hs]
 rw [run_sliceAt_slice w t _ _ _ _ hu,run_slice_h w t _ _ cap hu .i64 _ (by simp) (by simp;omega),hel,hsz]
 simp [sliced,Result.andThen,Addr.add]
theorem yC_sliceK {F:Fence} {nF:Nat} {ops:Array Oper} {C:World→Prop} {dst:Option Nat} {ty:TypeId} {pos:String} {af:Array Edge} {a:Act} {i j b off n cap k:Nat} (h1:a.eval (.tmp i)=.slice (some ⟨b,off,none⟩) n cap) (h2:a.eval (.tmp j)=num k) (hk:k≤cap) (hc:0<cap) :
  YieldsC F nF Try.prog ops C ⟨dst,.slice 49 (.tmp i) none (some (.tmp j)) none,ty,pos,af,none⟩ (.slice (some ⟨b,off,none⟩) k cap) a :=
 yCP rfl (fun _=>rfl) fun x hx=>by
  have:=run_sliceK T49 x (b:=b) (off:=off) (n:=n) hk hc
  simp [execOp,h1,h2,this,Result.andThen]
theorem Sl.takeK {w:World} {b off n cap sz k:Nat} {xs:List (List Value)} (h:Sl w (.slice (some ⟨b,off,none⟩) n cap) sz xs) (hk:k≤xs.length):Sl w (.slice (some ⟨b,off,none⟩) k cap) sz (xs.take k):=by
 obtain⟨cap',⟨_,h2⟩ | ⟨b',off',h1,h2,h3⟩⟩:=h
 ·cases h2
 ·simp only [Value.slice.injEq,Option.some.injEq,Addr.mk.injEq] at h1
  obtain⟨⟨rfl,rfl,_⟩,_,rfl⟩:=h1
  refine⟨cap,.inr ⟨b,off,by rw [List.length_take];congr 1;omega,h2,fun j i l x hj hl=>h3 j i l x ?_ hl⟩⟩
  rw [List.getElem?_take] at hj
  split at hj
  ·exact hj
  ·cases hj
def Qf12_14 (w:World) (p1:Nat) (vp:Value) (va:Value) (sna:Option Addr) (n snc:Nat) (D:List (Int×Int)×Int) (t:Array Value) (w' : World):Prop:=∃ vd,(t.size=209∧t[3]?=some (ptr p1)∧t[7]?=some (vp)∧t[8]?=some (va)∧t[11]?=some (.slice sna n snc)∧t[13]?=some (vd)∧t[10]?=some (num D.2))∧Nx w w'∧Sl w' vd 2 (D.1.map spc)
theorem f12_14 (d:Dry) (r:R2) (p1:Nat) (vp:Value) (va:Value) (sna:Option Addr) (n snc:Nat) (plan:List Int) (seen:List Sn) (D:List (Int×Int)×Int) (t:Array Value) (hs:t.size=209) (h3:t[3]?=some (ptr p1)) (h7:t[7]?=some (vp)) (h8:t[8]?=some (va)) (h11:t[11]?=some (.slice sna n snc)) (w:World) (hB:DBox w p1 d r) (hd:DrySl w d r) (hp:Sl w vp 1 (plan.map one)) (hs2:Sl w (.slice sna n snc) 3 (seen.map Sn.cells)) (hl:plan.length≤1000000000) (hl2:seen.length≤1000000000) (hD:dampsF d plan seen=D) :
  x12_14.wpIn FW 0 Try.prog (fun e a w'=>e=.normal∧a.defers=[]∧Qf12_14 w p1 vp va sna n snc D a.tmps w') ⟨t,[]⟩ w:=by
 obtain⟨f,rfl⟩:=ex209_12 hs
 have g3:f 3=ptr p1:=by simpa using h3
 have g7:f 7=vp:=by simpa using h7
 have g8:f 8=va:=by simpa using h8
 have g11:f 11=.slice sna n snc:=by simpa using h11
 rw [g3,g7,g8,g11] at *
 clear hs h3 h7 h8 h11 g3 g7 g8 g11
 have k30:=damps30_any d r vp (.slice sna n snc) plan seen w hd hp hl hs2 hl2
 rw [hD] at k30
 clear hD
 have c0:w.cell? ⟨p1,0,none⟩=some (r.h):=hB.at' 0 _ rfl
 have c1:w.cell? ⟨p1,1,none⟩=some (num d.soak):=hB.at' 1 _ rfl
 have c2:w.cell? ⟨p1,2,none⟩=some (num d.brittle):=hB.at' 2 _ rfl
 have c3:w.cell? ⟨p1,3,none⟩=some (num d.start.w):=hB.at' 3 _ rfl
 have c4:w.cell? ⟨p1,4,none⟩=some (num d.start.c):=hB.at' 4 _ rfl
 have c5:w.cell? ⟨p1,5,none⟩=some (num d.start.h):=hB.at' 5 _ rfl
 have c6:w.cell? ⟨p1,6,none⟩=some (r.s):=hB.at' 6 _ rfl
 obtain⟨rh,rs⟩:=r
 obtain⟨ha,hcap,e1⟩:=hd.heats.cases
 obtain⟨sa,scap,e2⟩:=hd.steps.cases
 dsimp only at e1 e2
 rw [List.length_map] at e1 e2
 subst e1 e2
 obtain⟨pa,pcap,e3⟩:=hp.cases
 rw [List.length_map] at e3
 subst e3
 try dsimp only at *
 clear hB hd hp hs2 hl hl2
 simp only [x12_0,x12_1,x12_2,x12_3,x12_4,x12_5,x12_7,x12_8,x12_14,x12_15,x12_17,x12_22,x12_24,x12_25,x12_27,r12_3,r12_7,r12_15,r12_24,b12,Try.f12,cL,cR,cB,cT]
 gi_wp2_with (first | (gi_at_call 30;refine CallsIn.mono k30 ?_;rintro e w1 ⟨vd,rfl,n1,hrow⟩) | gi_in)
 exact⟨vd,⟨rfl,rfl,rfl,rfl,rfl,rfl,rfl⟩,n1,hrow⟩
def Qf12_15 (w:World) (p1:Nat) (vp:Value) (va:Value) (vd:Value) (sna:Option Addr) (n snc:Nat) (t:Array Value) (w' : World):Prop:=(t.size=209∧t[3]?=some (ptr p1)∧t[7]?=some (vp)∧t[8]?=some (va)∧t[11]?=some (.slice sna n snc)∧t[13]?=some (vd))∧Nx w w'
theorem f12_15 (p1:Nat) (vp:Value) (va:Value) (vd:Value) (sna:Option Addr) (n snc:Nat) (air:List Int) (A:List (Int×Int)) (t:Array Value) (hs:t.size=209) (h3:t[3]?=some (ptr p1)) (h7:t[7]?=some (vp)) (h8:t[8]?=some (va)) (h11:t[11]?=some (.slice sna n snc)) (h13:t[13]?=some (vd)) (h10:t[10]?=some (num 0)) (w:World) (ha:Sl w va 1 (air.map one)) (hA:Sl w vd 2 (A.map spc)) (hlen:A.length=air.length) (hll:air.length≤5) :
  x12_15.wpIn FW 0 Try.prog (fun e a w'=>e=.normal∧a.defers=[]∧Qf12_15 w p1 vp va vd sna n snc a.tmps w') ⟨t,[]⟩ w:=by
 obtain⟨f,rfl⟩:=ex209_12 hs
 have g3:f 3=ptr p1:=by simpa using h3
 have g7:f 7=vp:=by simpa using h7
 have g8:f 8=va:=by simpa using h8
 have g11:f 11=.slice sna n snc:=by simpa using h11
 have g13:f 13=vd:=by simpa using h13
 have g10:f 10=num 0:=by simpa using h10
 rw [g3,g7,g8,g11,g13,g10] at *
 clear hs h3 h7 h8 h11 h13 h10 g3 g7 g8 g11 g13 g10
 obtain⟨aa,acap,e3⟩:=ha.cases
 obtain⟨da,dcap,e4⟩:=hA.cases
 rw [List.length_map] at e3 e4
 subst e3 e4
 clear ha hA
 rw [hlen]
 clear hlen
 generalize air.length=m at *
 simp only [x12_0,x12_1,x12_2,x12_3,x12_4,x12_5,x12_7,x12_8,x12_14,x12_15,x12_17,x12_22,x12_24,x12_25,x12_27,r12_3,r12_7,r12_15,r12_24,b12,Try.f12,cL,cR,cB,cT]
 gi_wp2
 exact⟨⟨rfl,rfl,rfl,rfl,rfl,rfl⟩,Nx.refl _⟩
def Qf12_17 (w:World) (p1:Nat) (vp:Value) (vd:Value) (sna:Option Addr) (n snc:Nat) (t:Array Value) (w' : World):Prop:=(t.size=209∧t[3]?=some (ptr p1)∧t[7]?=some (vp)∧t[11]?=some (.slice sna n snc)∧t[13]?=some (vd))∧Nx w w'
theorem f12_17 (p1:Nat) (vp:Value) (va:Value) (vd:Value) (sna:Option Addr) (n snc:Nat) (air:List Int) (A:List (Int×Int)) (t:Array Value) (hs:t.size=209) (h3:t[3]?=some (ptr p1)) (h7:t[7]?=some (vp)) (h8:t[8]?=some (va)) (h11:t[11]?=some (.slice sna n snc)) (h13:t[13]?=some (vd)) (w:World) (ha:Sl w va 1 (air.map one)) (hA:Sl w vd 2 (A.map spc)) (hlen:A.length=air.length) (hll:air.length≤5) (hin:∀ (i:Nat) (p:Int×Int) (y:Int),A[i]?=some p→air[i]?=some y→p.1≤y∧y≤p.2) :
  x12_17.wpIn FW 0 Try.prog (fun e a w'=>e=.normal∧a.defers=[]∧Qf12_17 w p1 vp vd sna n snc a.tmps w') ⟨t,[]⟩ w:=by
 obtain⟨f,rfl⟩:=ex209_12 hs
 have g3:f 3=ptr p1:=by simpa using h3
 have g7:f 7=vp:=by simpa using h7
 have g8:f 8=va:=by simpa using h8
 have g11:f 11=.slice sna n snc:=by simpa using h11
 have g13:f 13=vd:=by simpa using h13
 rw [g3,g7,g8,g11,g13] at *
 clear hs h3 h7 h8 h11 h13 g3 g7 g8 g11 g13
 have HA:=Lib.hid ha
 have HD:=Lib.hid hA
 have HI:=Lib.hid hin
 have HN:=Lib.hid hlen
 obtain⟨aa,acap,e3⟩:=ha.cases
 obtain⟨da,dcap,e4⟩:=hA.cases
 rw [List.length_map] at e3 e4
 subst e3 e4
 clear ha hA hin
 rw [hlen]
 clear hlen
 simp only [x12_0,x12_1,x12_2,x12_3,x12_4,x12_5,x12_7,x12_8,x12_14,x12_15,x12_17,x12_22,x12_24,x12_25,x12_27,r12_3,r12_7,r12_15,r12_24,b12,Try.f12,cL,cR,cB,cT]
 gi_wp2
 gi_loopw [14] (fun i wr=>∃ k:Nat,k≤air.length∧i=num k∧Nx w wr) (fun i _=>air.length-(intOf i).toNat)
 case atStart=>exact⟨0,Nat.zero_le _,rfl,Nx.refl w⟩
 case round =>
  obtain⟨k,hk,rfl,nr⟩:=hrel
  by_cases hlt:k<air.length
  ·obtain⟨b,off,rfl,hbl,hcl⟩:=(HA.out).get (by simp;omega)
   obtain⟨b',off',rfl,hbl',hcl'⟩:=(HD.out).get (by simp;have:=HN.out;omega)
   have hh:air[k]?=some air[k]:=List.getElem?_eq_getElem hlt
   have hkk:k<A.length:=by have:=HN.out;omega
   have ha:A[k]?=some A[k]:=List.getElem?_eq_getElem hkk
   have hin:=HI.out k _ _ ha hh
   generalize air[k]=y at hh hin
   generalize A[k]=p at ha hin
   obtain⟨p0,p1'⟩:=p
   dsimp only at hin
   have or:=OldC.nx nr
   have e0:wr.cell? ⟨b,off+k,none⟩=some (num y):=slAtO1 hcl or hh
   have f0:wr.cell? ⟨b',off' + k * 2,none⟩=some (num p0):=slAtO hcl' or ha 0 (v:=num p0) rfl
   have f1:wr.cell? ⟨b',off' + k * 2+1,none⟩=some (num p1'):=slAtO hcl' or ha 1 (v:=num p1') rfl
   have d1:decide (y<p0)=false:=decide_eq_false (by omega)
   have d2:decide (y > p1')=false:=decide_eq_false (by omega)
   clear hcl hcl' hh ha hin hkk
   gi_upto_region 20 with fail
   gi_big_quiet_th (fail)
   gi_wp2
   exact⟨⟨k+1,hlt,by simp,nr.drewN _⟩,by simp [intOf];omega⟩
  ·obtain rfl:k=air.length:=by omega
   gi_wp2
   exact⟨⟨rfl,rfl,rfl,rfl,rfl⟩,nr⟩
theorem f12_22 (p1:Nat) (vp:Value) (vd:Value) (sna:Option Addr) (n snc:Nat) (t:Array Value) (hs:t.size=209) (h3:t[3]?=some (ptr p1)) (h7:t[7]?=some (vp)) (h11:t[11]?=some (.slice sna n snc)) (h13:t[13]?=some (vd)) (w:World) (hn:n≤5) :
  x12_22.wpIn FW 0 Try.prog (fun e a w'=>e=.normal∧a.defers=[]∧(a.tmps.size=209∧a.tmps[3]?=some (ptr p1)∧a.tmps[7]?=some (vp)∧a.tmps[11]?=some (.slice sna n snc)∧a.tmps[13]?=some (vd)∧a.tmps[156]?=some (.bool (decide (n=0))))∧w'=w) ⟨t,[]⟩ w:=by
 obtain⟨f,rfl⟩:=ex209_12 hs
 have g3:f 3=ptr p1:=by simpa using h3
 have g7:f 7=vp:=by simpa using h7
 have g11:f 11=.slice sna n snc:=by simpa using h11
 have g13:f 13=vd:=by simpa using h13
 rw [g3,g7,g11,g13] at *
 clear hs h3 h7 h11 h13 g3 g7 g11 g13
 by_cases h:n=0
 ·subst h
  simp only [x12_0,x12_1,x12_2,x12_3,x12_4,x12_5,x12_7,x12_8,x12_14,x12_15,x12_17,x12_22,x12_24,x12_25,x12_27,r12_3,r12_7,r12_15,r12_24,b12,Try.f12,cL,cR,cB,cT]
  gi_wp2
 ·have b1:decide ((n:Int)=0)=false:=decide_eq_false (by omega)
  rw [decide_eq_false h]
  have b2:((n:Int) == 0)=false:=beq_false_of_ne (by omega)
  simp only [x12_0,x12_1,x12_2,x12_3,x12_4,x12_5,x12_7,x12_8,x12_14,x12_15,x12_17,x12_22,x12_24,x12_25,x12_27,r12_3,r12_7,r12_15,r12_24,b12,Try.f12,cL,cR,cB,cT]
  gi_wp2
def Qf12_24 (w:World) (vd:Value) (D:List (Int×Int)×Int) (t:Array Value) (w' : World):Prop:=∃ ve,(t.size=209∧t[13]?=some (vd)∧t[15]?=some (ve)∧t[10]?=some (num D.2))∧Nx w w'∧Sl w' ve 2 (D.1.map spc)
theorem f12_24 (d:Dry) (r:R2) (p1:Nat) (vp:Value) (vd:Value) (sa0:Addr) (n snc:Nat) (plan:List Int) (seen:List Sn) (D:List (Int×Int)×Int) (t:Array Value) (hs:t.size=209) (h3:t[3]?=some (ptr p1)) (h7:t[7]?=some (vp)) (h11:t[11]?=some (.slice (some sa0) (n+1) snc)) (h13:t[13]?=some (vd)) (w:World) (hB:DBox w p1 d r) (hd:DrySl w d r) (hp:Sl w vp 1 (plan.map one)) (hs2:Sl w (.slice (some sa0) n snc) 3 (seen.map Sn.cells)) (hl:plan.length≤1000000000) (hl2:seen.length≤1000000000) (hn:n≤5) (hcap:n+1≤snc) (hsp:sa0.spot=none) (hD:dampsF d plan seen=D) :
  x12_24.wpIn FW 0 Try.prog (fun e a w'=>e=.normal∧a.defers=[]∧Qf12_24 w vd D a.tmps w') ⟨t,[]⟩ w:=by
 obtain⟨f,rfl⟩:=ex209_12 hs
 have g3:f 3=ptr p1:=by simpa using h3
 have g7:f 7=vp:=by simpa using h7
 have g11:f 11=.slice (some sa0) (n+1) snc:=by simpa using h11
 have g13:f 13=vd:=by simpa using h13
 rw [g3,g7,g11,g13] at *
 clear hs h3 h7 h11 h13 g3 g7 g11 g13
 have k30:=fun (w1:World) (n1:Nx w w1)=>damps30_any d r vp (.slice (some sa0) n snc) plan seen w1 (hd.nx n1) (hp.nx n1) hl (hs2.nx n1) hl2
 rw [hD] at k30
 clear hD
 have c0:w.cell? ⟨p1,0,none⟩=some (r.h):=hB.at' 0 _ rfl
 have c1:w.cell? ⟨p1,1,none⟩=some (num d.soak):=hB.at' 1 _ rfl
 have c2:w.cell? ⟨p1,2,none⟩=some (num d.brittle):=hB.at' 2 _ rfl
 have c3:w.cell? ⟨p1,3,none⟩=some (num d.start.w):=hB.at' 3 _ rfl
 have c4:w.cell? ⟨p1,4,none⟩=some (num d.start.c):=hB.at' 4 _ rfl
 have c5:w.cell? ⟨p1,5,none⟩=some (num d.start.h):=hB.at' 5 _ rfl
 have c6:w.cell? ⟨p1,6,none⟩=some (r.s):=hB.at' 6 _ rfl
 have hBl:=hB.lt
 obtain⟨rh,rs⟩:=r
 obtain⟨ha,hcap,e1⟩:=hd.heats.cases
 obtain⟨sa,scap,e2⟩:=hd.steps.cases
 dsimp only at e1 e2
 rw [List.length_map] at e1 e2
 subst e1 e2
 obtain⟨pa,pcap,e3⟩:=hp.cases
 rw [List.length_map] at e3
 subst e3
 try dsimp only at *
 clear hB hd hp hs2 hl hl2
 obtain⟨b,off,spo⟩:=sa0
 dsimp only at hsp
 subst hsp
 simp only [x12_0,x12_1,x12_2,x12_3,x12_4,x12_5,x12_7,x12_8,x12_14,x12_15,x12_17,x12_22,x12_24,x12_25,x12_27,r12_3,r12_7,r12_15,r12_24,b12,Try.f12,cL,cR,cB,cT]
 refine wpIn_region_Zn (Nx w) 12 (by kernel_rfl) ?_
 obtain⟨Z,G,hN,hG,hG'⟩:=class_par (C:=Nx w) (x:=w) (Nx.refl _)
 have r0:=fun z=>((hG' z).cell (p:=⟨p1,0,none⟩) hBl).trans c0
 have r1:=fun z=>((hG' z).cell (p:=⟨p1,1,none⟩) hBl).trans c1
 have r2:=fun z=>((hG' z).cell (p:=⟨p1,2,none⟩) hBl).trans c2
 have r3:=fun z=>((hG' z).cell (p:=⟨p1,3,none⟩) hBl).trans c3
 have r4:=fun z=>((hG' z).cell (p:=⟨p1,4,none⟩) hBl).trans c4
 have r5:=fun z=>((hG' z).cell (p:=⟨p1,5,none⟩) hBl).trans c5
 have r6:=fun z=>((hG' z).cell (p:=⟨p1,6,none⟩) hBl).trans c6
 change Go.wpAnyZ _ _ _ _ _ _ _ _ 13 #[false,false,false,false,false,false,false,false,false,false,false,false,false] _ _
 obtain⟨n1,s1⟩:Nx w w.drew∧w.drew.heap.size=w.heap.size:=⟨Nx.drew (Nx.refl w),rfl⟩
 generalize w.drew=V at n1 s1 ⊢
 refine Go.zqE 0 hG (by kernel_rfl) (fun _ _ _ h=>by cases h.1) rfl ?_;intro o ho K hK;simp at ho;subst ho;gi_big_quiet_op;go_big_quiet_on
 refine Go.zqE 1 hG (by kernel_rfl) (fun _ _ _ h=>by cases h.1) rfl ?_;intro o ho K hK;simp at ho;subst ho;gi_big_quiet_op;go_big_quiet_on
 refine Go.zqE 2 hG (by kernel_rfl) (fun _ _ _ h=>by cases h.1) rfl ?_;intro o ho K hK;simp at ho;subst ho;gi_big_quiet_op;go_big_quiet_on
 refine Go.zqE 3 hG (by kernel_rfl) (fun _ _ _ h=>by cases h.1) rfl ?_;intro o ho K hK;simp at ho;subst ho;gi_big_quiet_op;go_big_quiet_on
 refine Go.ztE 4 (by kernel_rfl) (fun _ _ _ h=>by cases h.1) ?_;intro o ho;simp at ho;subst ho;refine⟨_,Go.yC_len rfl (fun _=>by simp [go_sem]),?_⟩;simp only [Go.Act.put,List.setIfInBounds_toArray,List.set_cons_succ,List.set_cons_zero]
 refine Go.zqE 5 hG (by kernel_rfl) (fun _ _ _ h=>by cases h.1) rfl ?_;intro o ho K hK;simp at ho;subst ho;gi_big_quiet_op;go_big_quiet_on
 refine Go.ztE 6 (by kernel_rfl) (fun _ _ _ h=>by cases h.1) ?_;intro o ho;simp at ho;subst ho;refine⟨_,yC_sliceK (b:=b) (off:=off) (n:=n+1) (cap:=snc) (k:=n) (by kernel_rfl) (by kernel_rfl) (by omega) (by omega),?_⟩;simp only [Go.Act.put,List.setIfInBounds_toArray,List.set_cons_succ,List.set_cons_zero]
 clear r0 r1 r2 r3 r4 r5 r6 c0 c1 c2 c3 c4 c5 c6
 refine Go.zoE 7 (by kernel_rfl) rfl ?_ ?_;rotate_left;intro o ho K hK;simp at ho;subst ho
 gi_wp2_with (first | (gi_at_call 30;refine CallsIn.mono (k30 _ n1) ?_;rintro e w2 ⟨ve,rfl,n2,hrow⟩) | gi_in)
 have n12:=n1.trans n2
 refine Go.zqE 8 hG (by kernel_rfl) (fun _ _ _ h=>by cases h.1) rfl ?_;intro o ho K hK;simp at ho;subst ho;gi_big_quiet_op;go_big_quiet_on
 refine Go.zqE 9 hG (by kernel_rfl) (fun _ _ _ h=>by cases h.1) rfl ?_;intro o ho K hK;simp at ho;subst ho;gi_big_quiet_op;go_big_quiet_on
 refine Go.zqE 10 hG (by kernel_rfl) (fun _ _ _ h=>by cases h.1) rfl ?_;intro o ho K hK;simp at ho;subst ho;gi_big_quiet_op;go_big_quiet_on
 refine Go.zqE 11 hG (by kernel_rfl) (fun _ _ _ h=>by cases h.1) rfl ?_;intro o ho K hK;simp at ho;subst ho;gi_big_quiet_op;go_big_quiet_on
 refine Go.zoE 12 (by kernel_rfl) rfl ?_ ?_;rotate_left;intro o ho K hK;simp at ho;subst ho
 gi_wp2_with fail
 refine wpAnyZ_done (by kernel_rfl) (fun h=>absurd h (by decide)) ⟨rfl,?_⟩
 ·exact⟨trivial,rfl,ve,⟨rfl,rfl,rfl,rfl⟩,n12,hrow⟩
 all_goals (first | exact fun _=>n1 | exact fun _=>n1.trans (by assumption) | exact fun _=>n12 | exact fun h=>absurd h (by decide))
theorem f12_25 (vd:Value) (ve:Value) (A B:List (Int×Int)) (t:Array Value) (hs:t.size=209) (h13:t[13]?=some (vd)) (h15:t[15]?=some (ve)) (h10:t[10]?=some (num 0)) (w:World) (hA:Sl w vd 2 (A.map spc)) (hB:Sl w ve 2 (B.map spc)) (hlen:B.length=A.length) (hll:A.length≤5) :
  x12_25.wpIn FW 0 Try.prog (fun e a w'=>e=.normal∧a.defers=[]∧(a.tmps.size=209∧a.tmps[13]?=some (vd)∧a.tmps[15]?=some (ve))∧w'=w) ⟨t,[]⟩ w:=by
 obtain⟨f,rfl⟩:=ex209_12 hs
 have g13:f 13=vd:=by simpa using h13
 have g15:f 15=ve:=by simpa using h15
 have g10:f 10=num 0:=by simpa using h10
 rw [g13,g15,g10] at *
 clear hs h13 h15 h10 g13 g15 g10
 obtain⟨aa,acap,e3⟩:=hA.cases
 obtain⟨da,dcap,e4⟩:=hB.cases
 rw [List.length_map] at e3 e4
 subst e3 e4
 clear hA hB
 rw [hlen]
 clear hlen
 generalize A.length=m at *
 simp only [x12_0,x12_1,x12_2,x12_3,x12_4,x12_5,x12_7,x12_8,x12_14,x12_15,x12_17,x12_22,x12_24,x12_25,x12_27,r12_3,r12_7,r12_15,r12_24,b12,Try.f12,cL,cR,cB,cT]
 gi_wp2
def Qf12_27 (w:World) (t:Array Value) (w' : World):Prop:=t.size=209∧Nx w w'
theorem f12_27 (vd:Value) (ve:Value) (A B:List (Int×Int)) (t:Array Value) (hs:t.size=209) (h13:t[13]?=some (vd)) (h15:t[15]?=some (ve)) (w:World) (hA:Sl w vd 2 (A.map spc)) (hB:Sl w ve 2 (B.map spc)) (hlen:B.length=A.length) (hll:A.length≤5) (hin:∀ (i:Nat) (p q:Int×Int),A[i]?=some p→B[i]?=some q→q.1≤p.1∧p.2≤q.2) :
  x12_27.wpIn FW 0 Try.prog (fun e a w'=>e=.normal∧a.defers=[]∧Qf12_27 w a.tmps w') ⟨t,[]⟩ w:=by
 obtain⟨f,rfl⟩:=ex209_12 hs
 have g13:f 13=vd:=by simpa using h13
 have g15:f 15=ve:=by simpa using h15
 rw [g13,g15] at *
 clear hs h13 h15 g13 g15
 have HA:=Lib.hid hA
 have HD:=Lib.hid hB
 have HI:=Lib.hid hin
 have HN:=Lib.hid hlen
 obtain⟨aa,acap,e3⟩:=hA.cases
 obtain⟨da,dcap,e4⟩:=hB.cases
 rw [List.length_map] at e3 e4
 subst e3 e4
 clear hA hB hin
 rw [hlen]
 clear hlen
 simp only [x12_0,x12_1,x12_2,x12_3,x12_4,x12_5,x12_7,x12_8,x12_14,x12_15,x12_17,x12_22,x12_24,x12_25,x12_27,r12_3,r12_7,r12_15,r12_24,b12,Try.f12,cL,cR,cB,cT]
 gi_wp2
 gi_loopw [16] (fun i wr=>∃ k:Nat,k≤A.length∧i=num k∧Nx w wr) (fun i _=>A.length-(intOf i).toNat)
 case atStart=>exact⟨0,Nat.zero_le _,rfl,Nx.refl w⟩
 case round =>
  obtain⟨k,hk,rfl,nr⟩:=hrel
  by_cases hlt:k<A.length
  ·obtain⟨b,off,rfl,hbl,hcl⟩:=(HA.out).get (by simp;omega)
   obtain⟨b',off',rfl,hbl',hcl'⟩:=(HD.out).get (by simp;have:=HN.out;omega)
   have hh:A[k]?=some A[k]:=List.getElem?_eq_getElem hlt
   have hkk:k<B.length:=by have:=HN.out;omega
   have ha:B[k]?=some B[k]:=List.getElem?_eq_getElem hkk
   have hin:=HI.out k _ _ hh ha
   generalize A[k]=p at hh hin
   generalize B[k]=q at ha hin
   obtain⟨p0,p1'⟩:=p
   obtain⟨q0,q1⟩:=q
   dsimp only at hin
   have or:=OldC.nx nr
   have e0:wr.cell? ⟨b,off+k * 2,none⟩=some (num p0):=slAtO hcl or hh 0 (v:=num p0) rfl
   have e1:wr.cell? ⟨b,off+k * 2+1,none⟩=some (num p1'):=slAtO hcl or hh 1 (v:=num p1') rfl
   have f0:wr.cell? ⟨b',off' + k * 2,none⟩=some (num q0):=slAtO hcl' or ha 0 (v:=num q0) rfl
   have f1:wr.cell? ⟨b',off' + k * 2+1,none⟩=some (num q1):=slAtO hcl' or ha 1 (v:=num q1) rfl
   have d1:decide (p0<q0)=false:=decide_eq_false (by omega)
   have d2:decide (p1' > q1)=false:=decide_eq_false (by omega)
   clear hcl hcl' hh ha hin hkk
   gi_upto_region 30 with fail
   gi_big_quiet_th (fail)
   gi_wp2
   exact⟨⟨k+1,hlt,by simp,nr.drewN _⟩,by simp [intOf];omega⟩
  ·obtain rfl:k=A.length:=by omega
   gi_wp2
   exact⟨rfl,nr⟩
end Go.Proofs.Ytedomogjmhommaa
namespace Go.Proofs.Ytedomogjmhommaa
open Go.RowKit Go.Con Go.Conc Go.ChangeShapes Go.WideShapes Go.ChangeAt
local instance dryI89:Lone:=dryL
def Kind (W:World) (v:Value):Prop:=∀ a n c,v=.slice (some a) n c→∃ cs e fz,W.heap[a.block]?=some (.cells cs e fz)
abbrev three (x:Int×Int×Int):List Value:=[num x.1,num x.2.1,num x.2.2]
theorem add_none (b off k:Nat):(⟨b,off,none⟩:Addr).add k=⟨b,off+k,none⟩:=by
 unfold Addr.add
 split
 ·rename_i h;subst h;rfl
 ·rfl
theorem list_of {α:Type} {p:Nat→α→Prop}:∀ n:Nat,(∀ i,i<n→∃ z,p i z)→∃ l:List α,l.length=n∧∀ i z,l[i]?=some z→p i z
 | 0,_=>⟨[],rfl,fun i z h=>by simp at h⟩
 | n+1,h=>by
  obtain⟨l,h1,h2⟩:=list_of n fun i hi=>h i (by omega)
  obtain⟨z,hz⟩:=h n (by omega)
  refine⟨l++[z],by simp [h1],fun i y hy=>?_⟩
  rcases Nat.lt_or_ge i l.length with hi | hi
  ·rw [List.getElem?_append_left hi] at hy
   exact h2 i y hy
  ·rw [List.getElem?_append_right hi] at hy
   have h0:i-l.length=0:=by
    have:=(List.getElem?_eq_some_iff.1 hy).1
    simp at this;omega
   rw [h0] at hy
   simp at hy
   have:i=n:=by omega
   subst this;subst hy;exact hz
section
variable {H:Type} {enc:TypeId×Value→H} {W:World}
noncomputable abbrev trodW (enc:TypeId×Value→H) (W:World):=DataW.trod enc Try.prog W 0 (fun _=>true) true
def Fits (t:TypeId) (d:DataW H):Prop:=∀ n∈d.weights Try.prog t,n≤reachBytes
theorem weightsAll_mem {e:TypeId} {n:Nat}:∀ {ds:List (DataW H)} {d:DataW H},d∈ds→n∈d.weights Try.prog e→n∈DataW.weightsAll Try.prog e ds
 | x :: ds,d,hd,hn=>by
  unfold DataW.weightsAll
  rcases List.mem_cons.1 hd with rfl | hd
  ·exact List.mem_append_left _ hn
  ·exact List.mem_append_right _ (weightsAll_mem hd hn)
theorem sl_open {α:Type} {en:α→List Value} {ok:α→Prop} {t e:TypeId} {fuel:Nat} {v:Value} {x:DataW H×List MemPlace} (ht:Try.prog.underlying t=some (.slice e)) (hbe:1≤Try.prog.bytesOf e)
  (hE:∀ n cs' y,trodW enc W n e cs'=some y→Fits e y.1→∃ z:α,cs'=en z∧ok z) (h:trodW enc W fuel t [v]=some x) (hfit:Fits t x.1) (hv:Cell.okWide Try.prog W .any 0 t v) :
  ∃ l:List α,Sl W v (Try.prog.cellsOf e) (l.map en)∧Kind W v∧l.length≤reachBytes∧∀ z∈l,ok z:=by
 rcases DataW.trod_slice ht h with ⟨h1,_⟩ | ⟨a,len,cap,elems,rest,n,_,h1,hxx,_,hl,hm,hlen,hel,_,_⟩
 ·simp only [List.cons.injEq,and_true] at h1
  subst h1
  exact⟨[],⟨0,.inl ⟨rfl,rfl⟩⟩,fun a n k e=>(by cases e),Nat.zero_le _,fun z hz=>by cases hz⟩
 ·simp only [List.cons.injEq,and_true] at h1
  subst h1
  subst hxx
  have hwt:(DataW.slice (elems.map (·.1)) (rest.map (·.1)):DataW H).weights Try.prog t=((elems.map (·.1)).length+(rest.map (·.1)).length) * Try.prog.bytesOf e :: (DataW.weightsAll Try.prog e (elems.map (·.1))++DataW.weightsAll Try.prog e (rest.map (·.1))):=by
   unfold DataW.weights
   rw [ht]
  unfold Fits at hfit
  dsimp only at hfit
  rw [hwt] at hfit
  have hlb:len≤reachBytes:=by
   have h1:=hfit _ (List.mem_cons_self ..)
   rw [List.length_map,List.length_map,hlen] at h1
   refine Nat.le_trans ?_ h1
   refine Nat.le_trans (Nat.le_add_right len rest.length) ?_
   exact Nat.le_mul_of_pos_right _ hbe
  have hef:∀ y∈elems,Fits e y.1:=fun y hy m hm=>hfit m (List.mem_cons_of_mem _ (List.mem_append_left _ (weightsAll_mem (List.mem_map_of_mem hy) hm)))
  simp only [Cell.okWide,ht,Cell.ok] at hv
  obtain⟨_,_,_,hs,row,cells,hsh,_⟩:=hv
  obtain⟨b,off,spot⟩:=a
  dsimp only at hs hsh
  subst hs
  have hcells:∃ cs e fz,W.heap[b]?=some (.cells cs e fz):=by
   unfold World.shape? at hsh
   split at hsh
   ·rename_i c e f hc;exact⟨_,_,_,hc⟩
   ·cases hsh
  obtain⟨l,hl1,hl2⟩:=list_of (p:=fun i (z:α)=>ok z∧∀ k y,(en z)[k]?=some y→W.cell? ⟨b,off+i * Try.prog.cellsOf e+k,none⟩=some y) len fun i hi=>by
   have h2:=hel i hi
   rw [List.getElem?_eq_getElem (by omega)] at h2
   obtain⟨cs',h3,h4⟩:=Option.bind_eq_some_iff.1 h2
   obtain⟨z,rfl,hz⟩:=hE _ _ _ h4 (hef _ (List.getElem_mem _))
   obtain⟨_,hn,hc⟩:=World.cells?_some h3
   refine⟨z,hz,fun k y hk=>?_⟩
   have hkl:=(List.getElem?_eq_some_iff.1 hk).1
   have:=hc k (by omega)
   rw [add_none,add_none,hk] at this
   exact this
  have hlt:b<W.heap.size:=by
   obtain⟨_,_,_,hc⟩:=hcells
   exact (Array.getElem?_eq_some_iff.1 hc).1
  refine⟨l,⟨cap,.inr ⟨b,off,by rw [List.length_map,hl1],hlt,fun j k z y hj hk=>?_⟩⟩,fun a n k e=>?_,by omega,fun z hz=>?_⟩
  ·rw [List.getElem?_map] at hj
   obtain⟨z',hz',rfl⟩:=Option.map_eq_some_iff.1 hj
   exact (hl2 j z' hz').2 k y hk
  ·cases e;exact hcells
  ·obtain⟨i,hi⟩:=List.mem_iff_getElem?.1 hz
   exact (hl2 i z hi).1
theorem read_num {t:TypeId} (ht:Try.prog.underlying t=some (.int .i64)) {n:Nat} {cs:List Value} {y:DataW H×List MemPlace} (h:trodW enc W n t cs=some y):∃ k:Int,cs=[num k]∧True:=by
 obtain⟨k,h1,_,h3⟩:=DataW.trod_int ht h
 exact⟨k,h1,trivial⟩
theorem read_bool {n:Nat} {cs:List Value} {y:DataW H×List MemPlace} (h:trodW enc W n 4 cs=some y):∃ b:Bool,cs=[.bool b]∧True:=by
 obtain⟨b,h1,_⟩:=DataW.trod_bool Try.underlying4 h
 exact⟨b,h1,trivial⟩
theorem read_two {t:TypeId} {f0 f1:Field} (ht:Try.prog.underlying t=some (.struct #[f0,f1])) (t0:f0.type=3) (t1:f1.type=3) (o0:f0.offset=0) (o1:f1.offset=1) (hc:Try.prog.cellsOf t=2) {n:Nat} {cs:List Value} {y:DataW H×List MemPlace} (h:trodW enc W n t cs=some y) :
  ∃ z:Int×Int,cs=two z∧True:=by
 obtain⟨xs,m,_,_,hl,hx,hf⟩:=DataW.trod_struct ht h
 have c3:Try.prog.cellsOf 3=1:=by kernel_rfl
 rw [hc] at hl
 match cs,hl with
 | [u,v],_ =>
  have h0:=hf 0 f0 rfl
  have h1:=hf 1 f1 rfl
  rw [t0,o0,c3,List.getElem?_eq_getElem (by rw [hx];simp)] at h0
  rw [t1,o1,c3,List.getElem?_eq_getElem (by rw [hx];simp)] at h1
  obtain⟨k,e0,_⟩:=read_num Try.underlying3 h0
  obtain⟨k',e1,_⟩:=read_num Try.underlying3 h1
  simp at e0 e1
  exact⟨(k,k'),by rw [e0,e1],trivial⟩
theorem read_three {t:TypeId} {f0 f1 f2:Field} (ht:Try.prog.underlying t=some (.struct #[f0,f1,f2])) (t0:f0.type=3) (t1:f1.type=3) (t2:f2.type=3) (o0:f0.offset=0) (o1:f1.offset=1) (o2:f2.offset=2) (hc:Try.prog.cellsOf t=3) {n:Nat} {cs:List Value} {y:DataW H×List MemPlace}
  (h:trodW enc W n t cs=some y):∃ z:Int×Int×Int,cs=three z∧True:=by
 obtain⟨xs,m,_,_,hl,hx,hf⟩:=DataW.trod_struct ht h
 have c3:Try.prog.cellsOf 3=1:=by kernel_rfl
 rw [hc] at hl
 match cs,hl with
 | [u,v,s],_ =>
  have h0:=hf 0 f0 rfl
  have h1:=hf 1 f1 rfl
  have h2:=hf 2 f2 rfl
  rw [t0,o0,c3,List.getElem?_eq_getElem (by rw [hx];simp)] at h0
  rw [t1,o1,c3,List.getElem?_eq_getElem (by rw [hx];simp)] at h1
  rw [t2,o2,c3,List.getElem?_eq_getElem (by rw [hx];simp)] at h2
  obtain⟨k,e0,_⟩:=read_num Try.underlying3 h0
  obtain⟨k',e1,_⟩:=read_num Try.underlying3 h1
  obtain⟨k2,e2,_⟩:=read_num Try.underlying3 h2
  simp at e0 e1 e2
  exact⟨(k,k',k2),by rw [e0,e1,e2],trivial⟩
theorem read_step {n:Nat} {cs:List Value} {y:DataW H×List MemPlace} (h:trodW enc W n 59 cs=some y):∃ z:Stp,cs=z.cells∧True:=by
 obtain⟨xs,m,_,_,hl,hx,hf⟩:=DataW.trod_struct Try.underlying59 h
 have c3:Try.prog.cellsOf 3=1:=by kernel_rfl
 have c4:Try.prog.cellsOf 4=1:=by kernel_rfl
 have c45:Try.prog.cellsOf 45=2:=by kernel_rfl
 rw [show Try.prog.cellsOf 59=6 by kernel_rfl] at hl
 match cs,hl with
 | [u0,u1,u2,u3,u4,u5],_ =>
  have h0:=hf 0 ⟨ "Damp",45,0,false,"","",0⟩ rfl
  have h1:=hf 1 ⟨ "Tended",4,2,false,"","",16⟩ rfl
  have h2:=hf 2 ⟨ "Water",45,3,false,"","",24⟩ rfl
  have h3:=hf 3 ⟨ "Colour",3,5,false,"","",40⟩ rfl
  rw [List.getElem?_eq_getElem (by rw [hx];simp)] at h0 h1 h2 h3
  dsimp only at h0 h1 h2 h3
  rw [c45] at h0 h2
  rw [c4] at h1
  rw [c3] at h3
  obtain⟨⟨k0,k1⟩,e0,_⟩:=read_two Try.underlying45 rfl rfl rfl rfl c45 h0
  obtain⟨k2,e1,_⟩:=read_bool h1
  obtain⟨⟨k3,k4⟩,e2,_⟩:=read_two Try.underlying45 rfl rfl rfl rfl c45 h2
  obtain⟨k5,e3,_⟩:=read_num Try.underlying3 h3
  simp at e0 e1 e2 e3
  exact⟨⟨k0,k1,k2,k3,k4,k5⟩,by rw [e0.1,e0.2,e1,e2.1,e2.2,e3],trivial⟩
structure DryIn (W:World) (d:Dry) (r:R2):Prop where
 heats:Sl W r.h 2 (d.heats.map two)
 steps:Sl W r.s 6 (d.steps.map Stp.cells)
 kh:Kind W r.h
 ks:Kind W r.s
 hl:d.heats.length≤140737488355328
 sl:d.steps.length≤140737488355328
theorem dry_open {v:Value} {dd:DataW H} {p:List MemPlace} {base:Nat} (hv:Value.okWide Try.prog W .any base 27 v) (h:DataW.Trod enc Try.prog W 0 (fun _=>true) true 27 v dd p) (hfit:Fits 27 dd) :
  ∃ (d:Dry) (r:R2),v=d.val r∧DryIn W d r:=by
 simp only [Value.okWide,Try.underlying27] at hv
 obtain⟨cs,rfl,hsz,ts,hts,_,hcell⟩:=hv
 rw [show Try.prog.cellTypes Try.prog.depth 27=some [22,3,3,3,3,3,25] by kernel_rfl] at hts
 cases hts
 rw [show Try.prog.cellsOf 27=7 by kernel_rfl] at hsz
 obtain⟨fuel,hf⟩:=h
 simp only [Value.cells] at hf
 obtain⟨xs,m,_,hyy,_,hx,hg⟩:=DataW.trod_struct Try.underlying27 hf
 simp only [Prod.mk.injEq] at hyy
 obtain⟨rfl,rfl⟩:=hyy
 have hwt:(DataW.agg (xs.map (·.1)):DataW H).weights Try.prog 27=DataW.weightsEach Try.prog [22,3,3,24,25] (xs.map (·.1)):=by
  unfold DataW.weights
  rw [Try.underlying27]
  rfl
 unfold Fits at hfit
 rw [hwt] at hfit
 have hx0:∀ (i:Nat) (y:DataW H×List MemPlace) (t:TypeId),xs[i]?=some y→([22,3,3,24,25]:List TypeId)[i]?=some t→Fits t y.1:=fun i y t hy ht m hm=>hfit m (DataW.weights_mem_each ht (by rw [List.getElem?_map,hy];rfl) m hm)
 obtain⟨l⟩:=cs
 simp only [List.size_toArray] at hsz
 match l,hsz with
 | [u0,u1,u2,u3,u4,u5,u6],_ =>
  have c3:Try.prog.cellsOf 3=1:=by kernel_rfl
  have c22:Try.prog.cellsOf 22=1:=by kernel_rfl
  have c24:Try.prog.cellsOf 24=3:=by kernel_rfl
  have c25:Try.prog.cellsOf 25=1:=by kernel_rfl
  have g0:=hg 0 ⟨ "Heats",22,0,false,"","",0⟩ rfl
  have g1:=hg 1 ⟨ "Soak",3,1,false,"","",24⟩ rfl
  have g2:=hg 2 ⟨ "Brittle",3,2,false,"","",32⟩ rfl
  have g3:=hg 3 ⟨ "Start",24,3,false,"","",40⟩ rfl
  have g4:=hg 4 ⟨ "Steps",25,6,false,"","",64⟩ rfl
  rw [List.getElem?_eq_getElem (by rw [hx];simp)] at g0 g1 g2 g3 g4
  dsimp only at g0 g1 g2 g3 g4
  rw [c22] at g0;rw [c3] at g1 g2;rw [c24] at g3;rw [c25] at g4
  simp only [List.drop_succ_cons,List.drop_zero,List.take_succ_cons,List.take_zero] at g0 g1 g2 g3 g4
  have kc:∀ (i:Nat) (y:Value) (t:TypeId),(#[u0,u1,u2,u3,u4,u5,u6]:Array Value)[i]?=some y→([22,3,3,3,3,3,25]:List TypeId)[i]?=some t→i<7→Cell.okWide Try.prog W .any 0 t y:=by
   intro i y t hy ht hi
   obtain⟨t',h1,h2⟩:=hcell i y hy
   have:i % ([22,3,3,3,3,3,25]:List TypeId).length=i:=Nat.mod_eq_of_lt hi
   rw [this,ht] at h1
   cases h1
   exact h2
  obtain⟨lh,a1,a3,a4,a5⟩:=sl_open (en:=two) (ok:=fun _=>True) Try.underlying22 (by decide +kernel) (fun n cs' y h hff=>read_two Try.underlying135 rfl rfl rfl rfl (by kernel_rfl) h) g0 (hx0 0 _ _ (List.getElem?_eq_getElem _) rfl) (kc 0 _ _ rfl rfl (by decide))
  obtain⟨ls,b1,b3,b4,b5⟩:=sl_open (en:=Stp.cells) (ok:=fun _=>True) Try.underlying25 (by decide +kernel) (fun n cs' y h hff=>read_step h) g4 (hx0 4 _ _ (List.getElem?_eq_getElem _) rfl) (kc 6 _ _ rfl rfl (by decide))
  obtain⟨n1,q1,_⟩:=read_num Try.underlying3 g1
  obtain⟨n2,q2,_⟩:=read_num Try.underlying3 g2
  obtain⟨⟨n3,n4,n5⟩,q3,_⟩:=read_three Try.underlying24 rfl rfl rfl rfl rfl rfl c24 g3
  simp only [List.cons.injEq,and_true] at q1 q2 q3
  obtain⟨rfl,rfl,rfl⟩:=q3
  subst q1 q2
  rw [show Try.prog.cellsOf 135=2 by kernel_rfl] at a1
  rw [show Try.prog.cellsOf 59=6 by kernel_rfl] at b1
  exact⟨⟨lh,n1,n2,⟨n3,n4,n5⟩,ls⟩,⟨u0,u6⟩,rfl,a1,b1,a3,b3,Nat.le_trans a4 (by decide),Nat.le_trans b4 (by decide)⟩
end
end Go.Proofs.Ytedomogjmhommaa
