import Derived.Test.YtedomogjmhommaaP02
set_option linter.all false
set_option maxRecDepth 100000
set_option maxHeartbeats 8000000
namespace Go.Proofs.Ytedomogjmhommaa
open Go.RowKit Go.Con Go.Conc
local instance zrv:Lone:=dryL
theorem zbP {w w' : World} {τ:Tape} (n:Nx { w with tape:=τ } w'):OldC w w':=.heap n.size fun b hb=>n.block b hb
theorem EW.tape {w:World} {p1:Nat} {r:R2} {τ:Tape} (h:EW w p1 r):EW { w with tape:=τ } p1 r:=h.oc (OldC.same rfl)
theorem zk5 (E Fz Arg:Nat→Prop) (W0:World) (Q:(Nat→Prop)→(Nat→Prop)→Goroutine→World→Prop) (φ:Ph) (c0:Frame) (cs:List Frame) (W:World) (t:Array Value) (hs:t.size=146)
  (hcont:∀ (φ1:Ph) (W1:World) (Fz1:Nat→Prop),OldC W W1→GoM Try.prog true E Fz1 Arg W0 Q φ1 [] (c0.finish (.bool true)) cs W1) :
  GoM Try.prog true E Fz Arg W0 Q φ [] (Fr 17 t [.code b17]) (c0 :: cs) W:=by
 rw [zqq]
 refine Gm.seq ?_
 refine Gm.lone (F:=FW) (fun t1 W1=>t1.size=146∧W1.heap=W.heap) rfl rfl trivial zbl (by kernel_rfl) (by kernel_rfl) (fun τ=>?_) ?_
 ·refine wpIn_mono (dr0 t hs { W with tape:=τ }) ?_
  rintro e a w' ⟨k1,k2,k3,rfl⟩
  exact⟨k1,k2,k3,rfl⟩
 rintro t0 Wa ⟨s0,hWa⟩
 have oa:OldC W Wa:=OldC.same hWa
 clear hs hWa
 refine Gm.seq ?_
 refine Gm.lone (F:=FW) (fun t1 W1=>(∃ p1 r,(t1.size=146∧t1[1]?=some (ptr p1))∧EW W1 p1 r)∧OldC Wa W1) rfl rfl trivial zbl (by kernel_rfl) (by kernel_rfl) (fun τ=>?_) ?_
 ·refine wpIn_mono (dr1 t0 s0 { Wa with tape:=τ }) ?_
  rintro e a w' ⟨k1,k2,p1,r,k3,k4,k5⟩
  exact⟨k1,k2,⟨p1,r,k3,k4⟩,zbP k5⟩
 rintro t1 W1 ⟨⟨p1,r,⟨s1,m1⟩,hE⟩,o1⟩
 have o1:=oa.trans o1
 clear oa s0
 refine Gm.seq ?_
 refine Gm.lone (F:=FW) (fun t2 W2=>(t2.size=146∧t2[1]?=some (ptr p1)∧t2[2]?=some (num 2)∧t2[3]?=some (.bool true)∧t2[4]?=some (num 0))∧OldC W1 W2) rfl rfl trivial zbl (by kernel_rfl) (by kernel_rfl) (fun τ=>?_) ?_
 ·refine wpIn_mono (dr2 p1 r t1 s1 m1 { W1 with tape:=τ } hE.tape) ?_
  rintro e a w' ⟨k1,k2,k3,k4⟩
  exact⟨k1,k2,k3,zbP k4⟩
 rintro t2 W2 ⟨⟨s2,n1,n2,n3,n4⟩,o2⟩
 have hE2:=hE.oc o2
 have o2:=o1.trans o2
 clear o1 hE s1 m1
 refine Gm.seq ?_
 refine Gm.lone (F:=FW) (fun t3 W3=>∃ v5,(t3.size=146∧t3[1]?=some (ptr p1)∧t3[2]?=some (num 2)∧t3[3]?=some (.bool true)∧t3[4]?=some (num 0)∧t3[5]?=some v5∧t3[6]?=some (.bool true)∧t3[7]?=some (num 0))∧OldC W2 W3∧SetsSl W3 v5 (ze0 exD).1) rfl rfl trivial zbl (by kernel_rfl) (by kernel_rfl) (fun τ=>?_) ?_
 ·refine wpIn_mono (dr3 p1 r t2 s2 n1 n2 n3 n4 { W2 with tape:=τ } hE2.tape) ?_
  rintro e a w' ⟨k1,k2,v5,k3,k4,k5⟩
  exact⟨k1,k2,v5,k3,zbP k4,k5⟩
 rintro t3 W3 ⟨v5,⟨s3,m1,m2,m3,m4,m5,m6,m7⟩,o3,hv5⟩
 have hE3:=hE2.oc o3
 have o3:=o2.trans o3
 clear o2 hE2 s2 n1 n2 n3 n4
 refine Gm.seq ?_
 rw [zpv]
 refine Gm.region ?_
 rw [show List.range ops17_4.size=[0,1,2,3,4,5,6,7,8] by kernel_rfl]
 refine Gm.op (o:=⟨some 35,.load 27 (.tmp 1),_,_,_,none⟩) (exD.val r) W3 rfl rfl (by kernel_rfl) rfl (zhP _ (zam m1) hE3.box) id ?_
 refine Gm.enter (o:=⟨some 36,.call { callee:=.value (.func 23),args:=#[.tmp 35],argTypes:=#[27] },_,_,_,none⟩) (c:={ callee:=.value (.func 23),args:=#[.tmp 35],argTypes:=#[27] }) (g:=23) (fn:=Try.f23) (body:=b23) rfl rfl rfl rfl (by kernel_rfl) Try.func23 zi2 (by kernel_rfl) ?_
 obtain⟨ha,hcap,q1⟩:=hE3.sl.heats.cases
 obtain⟨sa,scap,q2⟩:=hE3.sl.steps.cases
 rw [List.length_map] at q1 q2
 obtain⟨rh,rs⟩:=r
 dsimp only at q1 q2
 subst q1 q2
 have e35:(Fr 17 (putD t3 (some 35) (exD.val ⟨.slice ha exD.heats.length hcap,.slice sa exD.steps.length scap⟩)) []).eval (.tmp 35)=exD.val ⟨.slice ha exD.heats.length hcap,.slice sa exD.steps.length scap⟩:=zam (by simp [putD,s3])
 refine zk2 E Fz Arg W0 Q φ _ (c0 :: cs) W3 exD ha sa hcap scap hE3.sl _ ?_ ?_ fun φ1 W4 Fz1 v8 o4 hv8=>?_
 ·simp [Try.ntmps23]
 ·simp [e35]
 rw [zoo] at hv8 ⊢
 rw [zbg rfl]
 dsimp only
 change GoM Try.prog true E Fz1 Arg W0 Q φ1 [] (Fr 17 (putD (putD t3 (some 35) _) (some 36) (.tuple #[v8,.bool true,num 0])) _) (c0 :: cs) W4
 have hE4:=hE3.oc o4
 have hv5:=hv5.oc o4
 have o4:=o3.trans o4
 clear o3 hE3 e35
 refine Gm.op (o:=⟨some 34,.move (.tmp 36),_,_,_,none⟩) (.tuple #[v8,.bool true,num 0]) W4 rfl rfl (by kernel_rfl) rfl (zeT _ (zam (by simp [putD,s3]))) id ?_
 refine Gm.op (o:=⟨some 37,.extract (.tmp 34) 0,_,_,_,none⟩) v8 W4 rfl rfl (by kernel_rfl) rfl (zlb (v:=.bool true) (z:=num 0) _ (zam (by simp [putD,s3]))) id ?_
 refine Gm.op (o:=⟨some 38,.extract (.tmp 34) 1,_,_,_,none⟩) (.bool true) W4 rfl rfl (by kernel_rfl) rfl (zlc (u:=v8) (z:=num 0) _ (zam (by simp [putD,s3]))) id ?_
 refine Gm.op (o:=⟨some 39,.extract (.tmp 34) 2,_,_,_,none⟩) (num 0) W4 rfl rfl (by kernel_rfl) rfl (zld (u:=v8) (v:=.bool true) _ (zam (by simp [putD,s3]))) id ?_
 refine Gm.op (o:=⟨some 8,.assign (.tmp 37),_,_,_,none⟩) v8 W4 rfl rfl (by kernel_rfl) rfl (zfu _ (zam (by simp [putD,s3]))) id ?_
 refine Gm.op (o:=⟨some 9,.assign (.tmp 38),_,_,_,none⟩) (.bool true) W4 rfl rfl (by kernel_rfl) rfl (zfu _ (zam (by simp [putD,s3]))) id ?_
 refine Gm.op (o:=⟨some 10,.assign (.tmp 39),_,_,_,none⟩) (num 0) W4 rfl rfl (by kernel_rfl) rfl (zfu _ (zam (by simp [putD,s3]))) id ?_
 refine Gm.regionEnd ?_
 generalize ht4:putD _ (some 10) (num 0)=t4
 have s4:t4.size=146:=by rw [← ht4];simp [putD,s3]
 have n1:t4[1]?=some (ptr p1):=by rw [← ht4];simp [putD,m1]
 have n2:t4[2]?=some (num 2):=by rw [← ht4];simp [putD,m2]
 have n3:t4[3]?=some (.bool true):=by rw [← ht4];simp [putD,m3]
 have n4:t4[4]?=some (num 0):=by rw [← ht4];simp [putD,m4]
 have n5:t4[5]?=some v5:=by rw [← ht4];simp [putD,m5]
 have n6:t4[6]?=some (.bool true):=by rw [← ht4];simp [putD,m6]
 have n7:t4[7]?=some (num 0):=by rw [← ht4];simp [putD,m7]
 have n8:t4[8]?=some v8:=by rw [← ht4];simp [putD,s3]
 have n9:t4[9]?=some (.bool true):=by rw [← ht4];simp [putD,s3]
 have n10:t4[10]?=some (num 0):=by rw [← ht4];simp [putD,s3]
 clear ht4 s3 m1 m2 m3 m4 m5 m6 m7
 generalize (⟨.slice ha exD.heats.length hcap,.slice sa exD.steps.length scap⟩:R2)=r at hE4
 refine Gm.seq ?_
 refine Gm.lone (F:=FW) (fun t5 W5=>∃ v11,(t5.size=146∧t5[1]?=some (ptr p1)∧t5[2]?=some (num 2)∧t5[3]?=some (.bool true)∧t5[4]?=some (num 0)∧t5[5]?=some v5∧t5[6]?=some (.bool true)∧t5[7]?=some (num 0)∧t5[8]?=some v8∧t5[9]?=some (.bool true)∧t5[10]?=some (num 0)∧t5[11]?=some v11∧t5[12]?=some (num 1)∧t5[13]?=some (.bool true)∧t5[14]?=some (num 0))∧OldC W4 W5∧Sl W5 v11 1 (([0,0,0]:List Int).map one)) rfl rfl trivial zbl (by kernel_rfl) (by kernel_rfl) (fun τ=>?_) ?_
 ·refine wpIn_mono (dr5 p1 v5 v8 r t4 s4 n1 n2 n3 n4 n5 n6 n7 n8 n9 n10 { W4 with tape:=τ } hE4.tape) ?_
  rintro e a w' ⟨k1,k2,v11,k3,k4,k5⟩
  exact⟨k1,k2,v11,k3,zbP k4,k5⟩
 rintro t5 W5 ⟨v11,⟨s5,m1,m2,m3,m4,m5,m6,m7,m8,m9,m10,m11,m12,m13,m14⟩,o5,hv11⟩
 have hE5:=hE4.oc o5
 have hv5:=hv5.oc o5
 have hv8:=hv8.oc o5
 have o5:=o4.trans o5
 clear o4 hE4 s4 n1 n2 n3 n4 n5 n6 n7 n8 n9 n10
 refine Gm.seq ?_
 refine Gm.lone (F:=FW) (fun t6 W6=>∃ pa pb,(t6.size=146∧t6[1]?=some (ptr p1)∧t6[2]?=some (num 2)∧t6[3]?=some (.bool true)∧t6[4]?=some (num 0)∧t6[5]?=some v5∧t6[6]?=some (.bool true)∧t6[7]?=some (num 0)∧t6[8]?=some v8∧t6[9]?=some (.bool true)∧t6[10]?=some (num 0)∧t6[11]?=some v11∧t6[12]?=some (num 1)∧t6[13]?=some (.bool true)∧t6[14]?=some (num 0)∧t6[15]?=some (ptr pa)∧t6[16]?=some (ptr pb)∧t6[17]?=some (num 0))∧OldC W5 W6∧W6.heap[pa]?=some (.cells #[num 720,num 825] 45 (0,0))∧W6.heap[pb]?=some (.cells #[num 20,num 20] 45 (0,0))) rfl rfl trivial zbl (by kernel_rfl) (by kernel_rfl) (fun τ=>?_) ?_
 ·refine wpIn_mono (dr6 p1 v5 v8 v11 r t5 s5 m1 m2 m3 m4 m5 m6 m7 m8 m9 m10 m11 m12 m13 m14 { W5 with tape:=τ } hE5.tape) ?_
  rintro e a w' ⟨k1,k2,pa,pb,k3,k4,k5,k6⟩
  exact⟨k1,k2,pa,pb,k3,zbP k4,k5,k6⟩
 rintro t6 W6 ⟨pa,pb,⟨s6,n1,n2,n3,n4,n5,n6,n7,n8,n9,n10,n11,n12,n13,n14,n15,n16,n17⟩,o6,ga,gb⟩
 have hE6:=hE5.oc o6
 have hv5:=hv5.oc o6
 have hv8:=hv8.oc o6
 have hv11:=hv11.oc o6
 have ca0:W6.cell? ⟨pa,0,none⟩=some (num 720):=zaa ga rfl
 have ca1:W6.cell? ⟨pa,1,none⟩=some (num 825):=zaa ga rfl
 have cb0:W6.cell? ⟨pb,0,none⟩=some (num 20):=zaa gb rfl
 have cb1:W6.cell? ⟨pb,1,none⟩=some (num 20):=zaa gb rfl
 have o6:=o5.trans o6
 clear o5 hE5 s5 m1 m2 m3 m4 m5 m6 m7 m8 m9 m10 m11 m12 m13 m14 ga gb
 refine Gm.seq ?_
 refine Gm.lone (F:=FW) (fun t7 W7=>∃ v18,(t7.size=146∧t7[1]?=some (ptr p1)∧t7[2]?=some (num 2)∧t7[3]?=some (.bool true)∧t7[4]?=some (num 0)∧t7[5]?=some v5∧t7[6]?=some (.bool true)∧t7[7]?=some (num 0)∧t7[8]?=some v8∧t7[9]?=some (.bool true)∧t7[10]?=some (num 0)∧t7[11]?=some v11∧t7[12]?=some (num 1)∧t7[13]?=some (.bool true)∧t7[14]?=some (num 0)∧t7[15]?=some (ptr pa)∧t7[16]?=some (ptr pb)∧t7[17]?=some (num 0)∧t7[18]?=some v18∧t7[19]?=some (num 0))∧OldC W6 W7∧Sl W7 v18 2 (L32.map spc)) rfl rfl trivial zbl (by kernel_rfl) (by kernel_rfl) (fun τ=>?_) ?_
 ·refine wpIn_mono (dr7 p1 pa pb v5 v8 v11 r t6 s6 n1 n2 n3 n4 n5 n6 n7 n8 n9 n10 n11 n12 n13 n14 n15 n16 n17 { W6 with tape:=τ } hE6.tape) ?_
  rintro e a w' ⟨k1,k2,v18,k3,k4,k5⟩
  exact⟨k1,k2,v18,k3,zbP k4,k5⟩
 rintro t7 W7 ⟨v18,⟨s7,m1,m2,m3,m4,m5,m6,m7,m8,m9,m10,m11,m12,m13,m14,m15,m16,m17,m18,m19⟩,o7,hv18⟩
 have hv5:=hv5.oc o7
 have hv8:=hv8.oc o7
 have hv11:=hv11.oc o7
 have ca0:=o7.at ca0
 have ca1:=o7.at ca1
 have cb0:=o7.at cb0
 have cb1:=o7.at cb1
 have o7:=o6.trans o7
 clear o6 hE6 s6 n1 n2 n3 n4 n5 n6 n7 n8 n9 n10 n11 n12 n13 n14 n15 n16 n17
 refine Gm.seq (Gm.seq ?_)
 refine Gm.lone (F:=FW) (fun t8 W8=>P8 t8 p1 pa pb v5 v8 v11 v18∧W8.heap=W7.heap) rfl rfl trivial zbl (by kernel_rfl) (by kernel_rfl) (fun τ=>?_) ?_
 ·refine wpIn_mono (dr8 p1 pa pb v5 v8 v11 v18 t7 s7 m1 m2 m3 m4 m5 m6 m7 m8 m9 m10 m11 m12 m13 m14 m15 m16 m17 m18 m19 { W7 with tape:=τ }) ?_
  rintro e a w' ⟨k1,k2,k3,rfl⟩
  exact⟨k1,k2,k3,rfl⟩
 rintro t8 W8 ⟨⟨s8,n1,n2,n3,n4,n5,n6,n7,n8,n9,n10,n11,n12,n13,n14,n15,n16,n17,n18,n19,n85⟩,hW8⟩
 have o8:=OldC.same hW8
 have hv5:=hv5.oc o8
 have hv8:=hv8.oc o8
 have hv11:=hv11.oc o8
 have hv18:=hv18.oc o8
 have ca0:=o8.at ca0
 have ca1:=o8.at ca1
 have cb0:=o8.at cb0
 have cb1:=o8.at cb1
 have o8:=o7.trans o8
 clear o7 hW8 s7 m1 m2 m3 m4 m5 m6 m7 m8 m9 m10 m11 m12 m13 m14 m15 m16 m17 m18 m19
 refine Gm.cond (b:=false) (zam n85) rfl ?_
 refine Gm.skip (Gm.seq ?_)
 obtain⟨a8,k8,rfl⟩:=ziF hv8
 obtain⟨a11,k11,rfl⟩:=ziF hv11
 obtain⟨a18,k18,rfl⟩:=ziF hv18
 obtain⟨vs,hvs,hlen,hel⟩:=hv5
 rw [zoG] at hlen
 obtain⟨b5,o5,k5,rfl,u,cu,hu⟩:∃ b5 o5 k5,v5=.slice (some ⟨b5,o5,none⟩) 4 k5∧∃ u,W8.cell? ⟨b5,o5+2,none⟩=some u∧Sl W8 u 3 (L46.map St.cells):=by
  obtain⟨cap,⟨h1,_⟩ | ⟨b,off,rfl,_,hc⟩⟩:=hvs
  ·have:vs=[]:=by simpa using h1
   rw [this] at hlen;cases hlen
  ·refine⟨b,off,cap,by rw [List.length_map,hlen],?_⟩
   have hu2:vs[2]?=some (vs[2]'(by omega)):=List.getElem?_eq_getElem _
   refine⟨_,?_,hel 2 _ L46 hu2 zoH⟩
   have:=hc 2 0 [vs[2]'(by omega)] _ (by rw [List.getElem?_map,hu2];rfl) rfl
   exact this
 obtain⟨ua,uc,rfl⟩:=ziF hu
 refine Gm.lone (F:=FW) (fun t9 W9=>t9[0]?=some (.bool true)∧OldC W8 W9) rfl rfl trivial zbl (by kernel_rfl) (by kernel_rfl) (fun τ=>?_) ?_
 ·refine wpIn_mono (dr10 pa pb b5 o5 k5 k8 k11 k18 a8 a11 a18 t8 ⟨s8,n2,n3,n5,n6,n8,n9,n11,n12,n13,n15,n16,n18⟩ { W8 with tape:=τ } uc ua cu (hu.oc (OldC.same rfl)) (hv8.oc (OldC.same rfl)) (hv11.oc (OldC.same rfl)) (hv18.oc (OldC.same rfl)) ca0 ca1 cb0 cb1) ?_
  rintro e a w' ⟨k1,k2,k3,k4⟩
  exact⟨k1,k2,k3,zbP k4⟩
 rintro t9 W9 ⟨h0,o9⟩
 refine Gm.ret Try.func17 (znS (.bool true) t9 h0) ?_
 exact hcont φ1 W9 Fz1 (o8.trans o9)
end Go.Proofs.Ytedomogjmhommaa
namespace Go.Proofs.Ytedomogjmhommaa
open Go.RowKit Go.Con Go.Conc
local instance zrw:Lone:=dryL
theorem zbD {ops:Array Oper} {o:Oper} {i d:Nat} {b:Bool} {t:Array Value} (hg:o.guard=some (i,b)) (hd:(ops[i]?).bind (·.dst)=some d) (hv:t[d]?=some (.bool b)):Region.wanted o (yielded ops t)=true:=by
 unfold Region.wanted yielded
 simp [hg,hd,hv]
section
variable {dst:Option Nat} {ty:TypeId} {pos:String} {af:Array Edge} {gd:Option (Nat×Bool)} {x y:Nat}
theorem zix (e:Operand→Value) {w:World} {v c:Value} (h:e (.tmp x)=.bool true) (h2:e (.tmp y)=v) (τ:Tape):(execOp e ⟨dst,.pick (.tmp x) (.tmp y) (.const c),ty,pos,af,gd⟩).run Try.prog { w with tape:=τ }=.ok (.value v) { w with tape:=τ }:=by
 simp [execOp,go_sem,h,h2]
theorem zoA (e:Operand→Value) {w:World} {n:Int} (h:e (.tmp x)=num n) (h2:e (.tmp y)=num n) (τ:Tape):(execOp e ⟨dst,.binOp .eql 30 (.tmp x) (.tmp y) 30,ty,pos,af,gd⟩).run Try.prog { w with tape:=τ }=.ok (.value (.bool true)) { w with tape:=τ }:=by
 simp [execOp,go_sem,h,h2]
end
theorem zi1:Try.f17.body=some b17:=by kernel_rfl
end Go.Proofs.Ytedomogjmhommaa
namespace Go.Con
open Go Go.Conc
section
variable [Lone]
variable {P:Program} {maps:Bool} {E Arg:Nat→Prop} {W0:World} {f:FuncId} {k:List Item} {cs:List Frame}
variable {Q:(Nat→Prop)→(Nat→Prop)→Goroutine→World→Prop} {pend:List Nat}
theorem zpR {ops:Array Oper} {n:Nat} (hn:zeo ops n=true) {i j:Nat} (he:zjb ops i j=true):j<i:=by
 have hi:i<ops.size:=by
  rcases Nat.lt_or_ge i ops.size with h | h
  ·exact h
  ·unfold zjb at he
   rw [Array.getElem?_eq_none h] at he
   cases he
 unfold zeo at hn
 rw [List.all_eq_true] at hn
 have h1:=hn i (List.mem_range.2 hi)
 rw [Bool.and_eq_true] at h1
 have h2:=h1.2
 have ho:ops[i]?=some ops[i]:=Array.getElem?_eq_getElem hi
 rw [ho,Option.any_some,Array.all_eq_true_iff_forall_mem] at h2
 unfold zjb at he
 rw [ho] at he
 simp only [Option.map_some,Option.getD_some] at he
 obtain⟨q,hq,he⟩:=Array.any_eq_true.1 he
 rw [Bool.and_eq_true,beq_iff_eq] at he
 have h3:=h2 _ (Array.getElem_mem hq)
 rw [he.1] at h3
 have h4:(ops[i]).after[q].on<i:=by simpa using h3
 omega
theorem zqH {ops:Array Oper} {C:World→Prop} {vs:Nat→Value} {t0:Array Value} (hn:zeo ops t0.size=true)
  (hop:∀ i,i<ops.size→∀ t W Fz φ rest,C W→t.size=t0.size→(∀ j d,zjb ops i j=true→zds ops j=some d→t[d]?=some (vs j))→(∀ d,zgH ops d=true→t[d]?=t0[d]?) →
   (∀ W' Fz' φ',C W'→GoM P maps E Fz' Arg W0 Q φ' pend (Fr f (putD t (zds ops i) (vs i)) (.inRegion ops rest :: k)) cs W')→GoM P maps E Fz Arg W0 Q φ pend (Fr f t (.inRegion ops (i :: rest) :: k)) cs W)
  (hend:∀ t W Fz φ,C W→t.size=t0.size→(∀ j d,zds ops j=some d→t[d]?=some (vs j))→(∀ d,zgH ops d=true→t[d]?=t0[d]?)→GoM P maps E Fz Arg W0 Q φ pend (Fr f t k) cs W) :
  ∀ (m i:Nat) (t:Array Value) (W:World) Fz φ,i+m=ops.size→t.size=t0.size→(∀ j d,j<i→zds ops j=some d→t[d]?=some (vs j))→(∀ d,zgH ops d=true→t[d]?=t0[d]?)→C W →
   GoM P maps E Fz Arg W0 Q φ pend (Fr f t (.inRegion ops (List.range' i m) :: k)) cs W:=by
 intro m
 induction m with
 | zero =>
  intro i t W Fz φ hi hs hg ho hC
  exact Gm.regionEnd (hend t W Fz φ hC hs (fun j d hj=>hg j d (by have:=zf5 hj;omega) hj) ho)
 | succ m ih =>
  intro i t W Fz φ hi hs hg ho hC
  obtain⟨di,hdi,hdn,_⟩:=ziq hn (show i<ops.size by omega)
  refine hop i (by omega) t W Fz φ _ hC hs (fun j d he hj=>hg j d (zpR hn he) hj) ho fun W' Fz' φ' hC'=>?_
  refine ih (i+1) _ W' Fz' φ' (by omega) ?_ ?_ ?_ hC'
  ·rw [hdi]
   simp only [putD,Array.size_setIfInBounds]
   exact hs
  ·intro j d hj hd
   rw [hdi]
   simp only [putD]
   by_cases hij:i=j
   ·subst hij
    rw [hdi] at hd
    cases hd
    exact Array.getElem?_setIfInBounds_self_of_lt (by rw [hs];exact hdn)
   ·have hne:di≠d:=fun h=>hij (zoU hn hdi (h ▸ hd))
    rw [Array.getElem?_setIfInBounds_ne hne]
    exact hg j d (by omega) hd
  ·intro d hd
   rw [hdi]
   simp only [putD]
   have hne:di≠d:=fun h=>zkr hd i (h ▸ hdi)
   rw [Array.getElem?_setIfInBounds_ne hne]
   exact ho d hd
theorem Gm.regionSeq {Fz:Nat→Prop} {φ:Ph} {t0:Array Value} {W:World} {id:Nat} {ops:Array Oper} (C:World→Prop) (vs:Nat→Value) (hn:zeo ops t0.size=true) (hC:C W)
  (hop:∀ i,i<ops.size→∀ t W Fz φ rest,C W→t.size=t0.size→(∀ j d,zjb ops i j=true→zds ops j=some d→t[d]?=some (vs j))→(∀ d,zgH ops d=true→t[d]?=t0[d]?) →
   (∀ W' Fz' φ',C W'→GoM P maps E Fz' Arg W0 Q φ' pend (Fr f (putD t (zds ops i) (vs i)) (.inRegion ops rest :: k)) cs W')→GoM P maps E Fz Arg W0 Q φ pend (Fr f t (.inRegion ops (i :: rest) :: k)) cs W)
  (hend:∀ t W Fz φ,C W→t.size=t0.size→(∀ j d,zds ops j=some d→t[d]?=some (vs j))→(∀ d,zgH ops d=true→t[d]?=t0[d]?)→GoM P maps E Fz Arg W0 Q φ pend (Fr f t k) cs W) :
  GoM P maps E Fz Arg W0 Q φ pend (Fr f t0 (.code (.region id ops false) :: k)) cs W:=by
 refine Gm.region ?_
 rw [List.range_eq_range']
 exact zqH hn hop hend _ _ _ _ _ _ (by omega) rfl (fun j d h _=>absurd h (Nat.not_lt_zero _)) (fun _ _=>rfl) hC
end
end Go.Con
namespace Go.Proofs.Ytedomogjmhommaa
open Go.RowKit Go.Con Go.Conc
section
variable {F:Fence} {n:Nat} {ops:Array Oper} {C:World→Prop}
end
noncomputable def b6:Code:=match Try.f6.body with | some c=>c | none=>.skip
end Go.Proofs.Ytedomogjmhommaa
namespace Go.Proofs.Ytedomogjmhommaa
open Go.RowKit Go.Con Go.Conc Go.Shelf
theorem zkp (p:Nat→Bool) (n:Nat):(zcM p n=-1∧∀ j,j<n→p j=false)∨∃ k,k<n∧zcM p n=k∧p k=true∧∀ j,j<k→p j=false:=by
 unfold zcM
 cases hf:(List.range n).find? p with
 | none =>
  refine .inl ⟨rfl,fun j hj=>?_⟩
  have:=List.find?_eq_none.1 hf j (List.mem_range.2 hj)
  simpa using this
 | some k =>
  have h:=List.find?_range_eq_some.1 hf
  refine .inr ⟨k,List.mem_range.1 h.2.1,rfl,h.1,fun j hj=>?_⟩
  have:=h.2.2 j hj
  simpa using this
end Go.Proofs.Ytedomogjmhommaa
namespace Go.Proofs.Ytedomogjmhommaa
open Go.RowKit Go.Shelf
theorem znz {m:Int} {x:Stp} {h:Int} (hh:0≤h∧h≤m-1):mayB m x h h=true:=by
 unfold mayB
 rw [decide_eq_true hh,decide_eq_true rfl];rfl
theorem zpY {m:Int} {x:Stp} {was h:Int} (hm:mayB m x was h=true):0≤h∧h≤m-1:=by
 unfold mayB at hm
 rw [Bool.and_eq_true] at hm
 exact of_decide_eq_true hm.1
end Go.Proofs.Ytedomogjmhommaa
namespace Go.Proofs.Ytedomogjmhommaa
open Go.RowKit Go.Shelf
theorem zgm (d:Dry) (l:List St):(brk d l=-1∧∀ j,j<l.length→zeD d l j=false)∨∃ k,k<l.length∧brk d l=k∧zeD d l k=true∧∀ j,j<k→zeD d l j=false:=zkp _ _
end Go.Proofs.Ytedomogjmhommaa
namespace Go.Proofs.Ytedomogjmhommaa
open Go.RowKit Go.Shelf
def zmL (d:Dry):List Stp→List St→Int→List Int→Prop
 | [],_,_,p=>p=[]
 | x :: xs,l,was,h :: t=>mayB d.heats.length x was h=true∧keepL d x h.toNat l=true∧zmL d xs (afterL d x h.toNat l) h t
 | _ :: _,_,_,[]=>False
theorem zkn (p:Nat→List Int×Bool) (n:Nat):(zdz p n=([],false)∧∀ j,j<n→(p j).2=false)∨∃ k,k<n∧zdz p n=p k∧(p k).2=true∧∀ j,j<k→(p j).2=false:=by
 unfold zdz
 cases hf:(List.range n).find? (fun h=>(p h).2) with
 | none =>
  refine .inl ⟨rfl,fun j hj=>?_⟩
  have:=List.find?_eq_none.1 hf j (List.mem_range.2 hj)
  simpa using this
 | some k =>
  have h:=List.find?_range_eq_some.1 hf
  refine .inr ⟨k,List.mem_range.1 h.2.1,rfl,h.1,fun j hj=>?_⟩
  have:=h.2.2 j hj
  simpa using this
def winS (d:Dry):List Stp→St→List Int→List Int→Bool
 | x :: xs,s,h :: t,a :: aa=>za5 x (za9 d (zaM d h.toNat) s h a) && winS d xs (za9 d (zaM d h.toNat) s h a) t aa
 | _,_,_,_=>true
theorem zgk:∀ xs:List Stp,(∀ x∈xs,x.lo≤x.hi)→∃ a,a∈zaH xs
 | [],_=>⟨[],by simp [zaH]⟩
 | x :: xs,h=>by
  obtain⟨a,ha⟩:=zgk xs fun y hy=>h y (List.mem_cons_of_mem _ hy)
  exact⟨x.lo :: a,List.mem_flatMap.2 ⟨x.lo,zk4 ⟨Int.le_refl _,h x (List.mem_cons_self ..)⟩,List.mem_map.2 ⟨a,ha,rfl⟩⟩⟩
theorem airs_cons {x:Stp} {xs:List Stp} {a:Int} {aa:List Int}:a :: aa∈zaH (x :: xs)↔a∈x.damps∧aa∈zaH xs:=by
 constructor
 ·intro h
  obtain⟨y,hy,h⟩:=List.mem_flatMap.1 h
  obtain⟨t,ht,e⟩:=List.mem_map.1 h
  cases e
  exact⟨hy,ht⟩
 ·rintro ⟨h1,h2⟩
  exact List.mem_flatMap.2 ⟨a,h1,List.mem_map.2 ⟨aa,h2,rfl⟩⟩
theorem zlf (d:Dry):∀ (xs:List Stp),(∀ x∈xs,x.lo≤x.hi)→∀ (l:List St) (was:Int) (p:List Int),
  zmL d xs l was p↔p.length=xs.length∧zc2 d xs was p=0∧∀ s∈l,∀ a∈zaH xs,winS d xs s p a=true
 | [],_,l,was,p=>by
  constructor
  ·intro h
   have h:p=[]:=h
   subst h
   refine⟨rfl,rfl,fun s _ a _=>?_⟩
   unfold winS
   rfl
  ·rintro ⟨h,_⟩
   exact List.eq_nil_of_length_eq_zero h
 | x :: xs,hx,l,was,[]=>⟨fun h=>h.elim,fun h=>by have:=h.1;simp at this⟩
 | x :: xs,hx,l,was,h :: t=>by
  have ih:=zlf d xs (fun y hy=>hx y (List.mem_cons_of_mem _ hy)) (afterL d x h.toNat l) h t
  constructor
  ·rintro ⟨h1,h2,h3⟩
   obtain⟨i1,i2,i3⟩:=ih.1 h3
   have hb:=zpY h1
   have hh:((h.toNat:Nat):Int)=h:=Int.toNat_of_nonneg hb.1
   refine⟨by simp [i1],?_,fun s hs a ha=>?_⟩
   ·show (if _ then _ else _)=_
    rw [if_neg (by rw [Decidable.not_not];exact hb),if_neg (by rw [h1];decide)]
    exact i2
   ·cases a with
    | nil=>rfl
    | cons a aa =>
     obtain⟨ha1,ha2⟩:=airs_cons.1 ha
     have hm:za9 d (zaM d h.toNat) s h a∈afterL d x h.toNat l:=List.mem_flatMap.2 ⟨s,hs,List.mem_map.2 ⟨a,ha1,by rw [hh]⟩⟩
     show (_ && _)=true
     rw [Bool.and_eq_true]
     exact⟨List.all_eq_true.1 h2 _ hm,i3 _ hm aa ha2⟩
  ·rintro ⟨h1,h2,h3⟩
   have h2' : (if ¬ (0≤h∧h≤(d.heats.length:Int)-1) then 6 else if mayB d.heats.length x was h=false then 7 else zc2 d xs h t)=0:=h2
   have hb:0≤h∧h≤(d.heats.length:Int)-1:=by
    by_cases hc:0≤h∧h≤(d.heats.length:Int)-1
    ·exact hc
    ·rw [if_pos hc] at h2';cases h2'
   rw [if_neg (by rw [Decidable.not_not];exact hb)] at h2'
   have hm:mayB d.heats.length x was h=true:=by
    cases hc:mayB d.heats.length x was h with
    | true=>rfl
    | false=>rw [if_pos hc] at h2';cases h2'
   rw [if_neg (by rw [hm];decide)] at h2'
   have hh:((h.toNat:Nat):Int)=h:=Int.toNat_of_nonneg hb.1
   have hall:∀ s'∈afterL d x h.toNat l,za5 x s'=true∧∀ aa∈zaH xs,winS d xs s' t aa=true:=by
    intro s' hs'
    obtain⟨s,hs,h5⟩:=List.mem_flatMap.1 hs'
    obtain⟨a,ha,rfl⟩:=List.mem_map.1 h5
    rw [hh]
    have key:∀ aa∈zaH xs,za5 x (za9 d (zaM d h.toNat) s h a)=true∧winS d xs (za9 d (zaM d h.toNat) s h a) t aa=true:=fun aa haa=>by
     have:=h3 s hs (a :: aa) (airs_cons.2 ⟨ha,haa⟩)
     have this:(_ && _)=true:=this
     rw [Bool.and_eq_true] at this
     exact this
    obtain⟨aa,haa⟩:=zgk xs fun y hy=>hx y (List.mem_cons_of_mem _ hy)
    exact⟨(key aa haa).1,fun aa haa=>(key aa haa).2⟩
   exact⟨hm,List.all_eq_true.2 fun s' hs'=>(hall s' hs').1,ih.2 ⟨by simpa using h1,h2',fun s' hs' aa haa=>(hall s' hs').2 aa haa⟩⟩
theorem zoc (d:Dry):∀ (xs:List Stp) (s:St) (p a:List Int),winS d xs s p a=true↔∀ (k:Nat) (x:Stp) (t:St),xs[k]?=some x→(zaq d s p a)[k]?=some t→za5 x t=true
 | [],s,p,a=>⟨fun _ k x t h=>by simp at h,fun _=>by unfold winS;rfl⟩
 | x :: xs,s,[],a=>⟨fun _ k y t _ h=>by cases a<;>simp [zaq] at h,fun _=>rfl⟩
 | x :: xs,s,h :: p,[]=>⟨fun _ k y t _ h=>by simp [zaq] at h,fun _=>rfl⟩
 | x :: xs,s,h :: p,a :: aa=>by
  have ih:=zoc d xs (za9 d (zaM d h.toNat) s h a) p aa
  show (_ && _)=true↔_
  rw [Bool.and_eq_true,ih]
  constructor
  ·rintro ⟨h1,h2⟩ k y t hy ht
   cases k with
   | zero =>
    simp [zaq] at hy ht
    rw [← hy,← ht];exact h1
   | succ k=>exact h2 k y t (by simpa using hy) (by simpa [zaq] using ht)
  ·intro hk
   exact⟨hk 0 x _ rfl rfl,fun k y t hy ht=>hk (k+1) y t (by simpa using hy) (by simpa [zaq] using ht)⟩
theorem brk_win {d:Dry} {p a:List Int}:brk d (zaq d d.start p a)=-1↔winS d d.steps d.start p a=true:=by
 rw [zoc]
 rcases zgm d (zaq d d.start p a) with ⟨h,hn⟩ | ⟨k,hk,h,hb,_⟩
 ·refine⟨fun _ k x t hx ht=>?_,fun _=>h⟩
  have:=hn k (List.getElem?_eq_some_iff.1 ht).1
  unfold zeD at this
  rw [hx,ht] at this
  simpa using this
 ·refine⟨fun e=>by omega,fun hall=>?_⟩
  unfold zeD at hb
  split at hb
  ·rename_i x t hx ht
   rw [hall k x t hx ht] at hb
   cases hb
  ·cases hb
theorem zoM {d:Dry} (hO:d.Ok) {p:List Int}:zmL d d.steps [d.start] d.start.h p↔plF d p=0∧∀ a∈zaH d.steps,brk d (zaq d d.start p a)=-1:=by
 rw [zlf d d.steps (fun x hx=>(hO.st x hx).1.2.1)]
 constructor
 ·rintro ⟨h1,h2,h3⟩
  refine⟨?_,fun a ha=>brk_win.2 (h3 _ (List.mem_singleton.2 rfl) a ha)⟩
  unfold plF
  rw [if_neg (by simpa using h1)]
  exact h2
 ·rintro ⟨h1,h2⟩
  unfold plF at h1
  split at h1
  ·cases h1
  ·rename_i hl
   exact⟨by simpa using hl,h1,fun s hs a ha=>by rw [List.mem_singleton.1 hs];exact brk_win.1 (h2 a ha)⟩
end Go.Proofs.Ytedomogjmhommaa
namespace Go.Proofs.Ytedomogjmhommaa
open Go.RowKit Go.Shelf
theorem zjc {d:Dry} {plan air:List Int} (h:air∈zaH d.steps) (hl:plan.length=d.steps.length) (hp:∀ h∈plan,0≤h∧h≤(d.heats.length:Int)-1):∀ k,k≤plan.length→stAt d d.start plan air k∈zci d plan k
 | 0,_=>by cases plan<;>cases air<;>simp [stAt,zci]
 | k+1,hk=>by
  have ih:=zjc h hl hp k (by omega)
  obtain⟨e1,e2⟩:=airs_mem.1 h
  have hks:k<d.steps.length:=by omega
  have h1:plan[k]?=some plan[k]:=List.getElem?_eq_getElem (by omega)
  have h2:air[k]?=some air[k]:=List.getElem?_eq_getElem (by omega)
  have hx:d.steps[k]?=some d.steps[k]:=List.getElem?_eq_getElem hks
  rw [zc9 d _ plan _ k _ _ h1 h2,zcY hx h1]
  exact List.mem_flatMap.2 ⟨_,ih,List.mem_map.2 ⟨_,e2 k _ _ hx h2,by rw [Int.toNat_of_nonneg (hp _ (List.mem_of_getElem? h1)).1]⟩⟩
end Go.Proofs.Ytedomogjmhommaa
namespace Go.Proofs.Ytedomogjmhommaa
open Go.RowKit Go.Shelf
def zfV (d:Dry):List Stp→List St→List Int→Bool
 | x :: xs,l,h :: t=>keepL d x h.toNat l && zfV d xs (afterL d x h.toNat l) t
 | _,_,_=>true
theorem znd {p:Nat→List Int×Bool} {c:Nat→Bool} {g:Nat→Option (List Int)} (hg:∀ h,c h=true→g h=if (p h).2=true then some (p h).1 else none) (hc:∀ h,c h=false→(p h).2=false) :
  ∀ l:List Nat,(l.filter c).findSome? g=(l.find? fun h=>(p h).2).map fun h=>(p h).1
 | []=>rfl
 | h :: l=>by
  have ih:=znd hg hc l
  cases e:c h with
  | false =>
   rw [List.filter_cons_of_neg (by simp [e]),List.find?_cons_of_neg (by simp [hc h e])]
   exact ih
  | true =>
   rw [List.filter_cons_of_pos e,List.findSome?_cons,hg h e]
   cases e2:(p h).2 with
   | false=>rw [if_neg (by simp),List.find?_cons_of_neg (by simp [e2])];exact ih
   | true=>rw [if_pos rfl,List.find?_cons_of_pos (by exact e2)];rfl
theorem zhG {α:Type}:∀ l:List α,(l.find? fun _=>false)=none
 | []=>rfl
 | a :: l=>by rw [List.find?_cons_of_neg (by simp)];exact zhG l
theorem zhU (d:Dry):∀ (xs:List Stp) (l:List St) (was:Int),(zbs d xs was).find? (zfV d xs l)=if (zaY d xs l was).2=true then some (zaY d xs l was).1 else none
 | [],l,was=>rfl
 | x :: xs,l,was=>by
  show ((mays d x was).flatMap fun h:Nat=>(zbs d xs h).map ((h:Int) :: ·)).find? (zfV d (x :: xs) l)=_
  rw [List.find?_flatMap]
  unfold mays
  rw [znd (p:=zbt d (zaY d xs) x l was) (fun h hc=>?_) (fun h hc=>?_)]
  ·unfold zaY zdz
   cases hf:(List.range d.heats.length).find? (fun h=>(zbt d (zaY d xs) x l was h).2) with
   | none=>rfl
   | some k =>
    have:=List.find?_some hf
    dsimp only at this ⊢
    rw [if_pos this]
    rfl
  ·rw [List.find?_map]
   have e:(zfV d (x :: xs) l ∘ ((h:Int) :: ·))=fun t=>keepL d x h l && zfV d xs (afterL d x h l) t:=by
    funext t
    show (keepL d x ((h:Int)).toNat l && zfV d xs (afterL d x ((h:Int)).toNat l) t)=_
    rw [Int.toNat_natCast]
   rw [e]
   unfold zbt
   cases hk:keepL d x h l with
   | false =>
    rw [show (fun t=>false && zfV d xs (afterL d x h l) t)=fun _=>false from rfl,zhG,if_neg (by simp)]
    rfl
   | true =>
    rw [show (fun t=>true && zfV d xs (afterL d x h l) t)=zfV d xs (afterL d x h l) from rfl,zhU d xs]
    rw [if_pos (show mayB d.heats.length x was h=true∧true=true from ⟨hc,rfl⟩)]
    dsimp only
    split<;>rfl
  ·unfold zbt
   rw [if_neg (by rw [hc];simp)]
theorem zdF {d:Dry}:∀ (xs:List Stp) (was:Int) (p:List Int),p∈zbs d xs was→p.length=xs.length∧zc2 d xs was p=0∧∀ l,zmL d xs l was p↔zfV d xs l p=true
 | [],was,p,hp=>by
  have hp:p=[]:=by simpa [zbs] using hp
  subst hp
  exact⟨rfl,rfl,fun l=>⟨fun _=>rfl,fun _=>rfl⟩⟩
 | x :: xs,was,p,hp=>by
  obtain⟨h,hh,h2⟩:=List.mem_flatMap.1 hp
  obtain⟨t,ht,rfl⟩:=List.mem_map.1 h2
  have hm:=(List.mem_filter.1 hh)
  have hr:=List.mem_range.1 hm.1
  have hm:=hm.2
  obtain⟨i1,i2,i3⟩:=zdF xs h t ht
  refine⟨by simp [i1],?_,fun l=>?_⟩
  ·show (if _ then _ else _)=_
   rw [if_neg (by rw [Decidable.not_not];omega),if_neg (by rw [hm];decide)]
   exact i2
  ·show (mayB d.heats.length x was h=true∧keepL d x ((h:Int)).toNat l=true∧zmL d xs (afterL d x ((h:Int)).toNat l) h t)↔(keepL d x ((h:Int)).toNat l && zfV d xs (afterL d x ((h:Int)).toNat l) t)=true
   rw [Bool.and_eq_true,i3]
   exact⟨fun h=>h.2,fun h=>⟨hm,h⟩⟩
theorem find_congr {α:Type} {p q:α→Bool}:∀ {l:List α},(∀ x∈l,p x=q x)→l.find? p=l.find? q
 | [],_=>rfl
 | a :: l,h=>by
  have ih:=find_congr (l:=l) fun x hx=>h x (List.mem_cons_of_mem _ hx)
  have ha:=h a (List.mem_cons_self ..)
  cases e:p a with
  | false=>rw [List.find?_cons_of_neg (by simp [e]),List.find?_cons_of_neg (by rw [← ha];simp [e])];exact ih
  | true=>rw [List.find?_cons_of_pos e,List.find?_cons_of_pos (by rw [← ha];exact e)]
def zgK (d:Dry) (p:List Int):Bool:=(zaH d.steps).all fun a=>decide (brk d (zaq d d.start p a)<0)
def zmR:Option (List Int)→List Int×Bool×Int
 | some p=>(p,true,0)
 | none=>([],false,0)
def zfw (d:Dry):List Int×Bool×Int:=if dryF d≠0 then ([],false,dryF d) else zmR ((zbs d d.steps d.start.h).find? (zgK d))
theorem zmS {d:Dry}:zfw d=zb5 d:=by
 unfold zfw zb5
 by_cases hF:dryF d=0
 ·rw [if_neg (fun h=>h hF),if_neg (fun h=>h hF)]
  have hO:=zdc hF
  have e:(zbs d d.steps d.start.h).find? (zgK d)=(zbs d d.steps d.start.h).find? (zfV d d.steps [d.start]):=find_congr fun p hp=>by
   obtain⟨h1,h2,h3⟩:=zdF _ _ _ hp
   have h4:=zoM hO (p:=p)
   rw [h3] at h4
   have hpl:plF d p=0:=by
    unfold plF
    rw [if_neg (by simpa using h1)]
    exact h2
   rw [Bool.eq_iff_iff,h4]
   unfold zgK
   rw [List.all_eq_true]
   constructor
   ·intro h
    refine⟨hpl,fun a ha=>?_⟩
    have:=of_decide_eq_true (h a ha)
    rcases zgm d (zaq d d.start p a) with ⟨h,_⟩ | ⟨k,_,h,_⟩
    ·exact h
    ·omega
   ·intro h a ha
    exact decide_eq_true (by rw [h.2 a ha];decide)
  rw [e,zhU]
  by_cases hb:(zaY d d.steps [d.start] d.start.h).2=true
  ·rw [if_pos hb]
   split
   ·rename_i e2
    rw [e2]
    rfl
   ·rw [hb];rfl
  ·rw [if_neg hb]
   have hb' : (zaY d d.steps [d.start] d.start.h).2=false:=by simpa using hb
   split
   ·rename_i e2
    rw [e2] at hb'
    cases hb'
   ·rw [hb']
    have:(zaY d d.steps [d.start] d.start.h).1=[]:=by
     cases hs:d.steps with
     | nil=>rfl
     | cons x xs =>
      rw [hs] at hb'
      unfold zaY at hb' ⊢
      rcases zkn (zbt d (zaY d xs) x [d.start] d.start.h) d.heats.length with ⟨e,_⟩ | ⟨k,_,e,hp,_⟩
      ·rw [e]
      ·rw [e,hp] at hb';cases hb'
    rw [this]
    rfl
 ·rw [if_pos hF,if_pos hF]
theorem zlA (d:Dry):∀ (k:Nat) (s:St) (hs aa bb:List Int),k≤aa.length→stAt d s hs (aa++bb) k=stAt d s hs aa k
 | 0,s,hs,aa,bb,_=>by cases hs<;>cases aa<;>cases bb<;>rfl
 | k+1,s,hs,[],bb,h=>by simp at h
 | k+1,s,[],a :: aa,bb,h=>rfl
 | k+1,s,h0 :: hs,a :: aa,bb,h=>zlA d k _ hs aa bb (by simpa using h)
theorem zom {xs:List Stp} {a:List Int} (h:a∈zaH xs):a.length=xs.length:=(airs_mem.1 h).1
theorem zk6 {d:Dry} {plan:List Int} (hl:plan.length=d.steps.length) (hp:∀ h∈plan,0≤h∧h≤(d.heats.length:Int)-1):∀ k,k≤plan.length→∀ s∈zci d plan k,∃ a∈zaH (d.steps.take k),s=stAt d d.start plan a k
 | 0,_,s,hs=>by
  have:s=d.start:=by simpa [zci] using hs
  subst this
  exact⟨[],by simp [zaH],by cases plan<;>rfl⟩
 | k+1,hk,s,hs=>by
  have hx:d.steps[k]?=some (d.steps[k]'(by omega)):=List.getElem?_eq_getElem _
  have hh:plan[k]?=some (plan[k]'(by omega)):=List.getElem?_eq_getElem _
  have hb:=hp _ (List.mem_of_getElem? hh)
  generalize plan[k]'(by omega)=h at hh hb
  generalize d.steps[k]'(by omega)=x at hx
  rw [zcY hx hh] at hs
  obtain⟨s0,hs0,h5⟩:=List.mem_flatMap.1 hs
  obtain⟨a,ha,rfl⟩:=List.mem_map.1 h5
  obtain⟨aa,haa,rfl⟩:=zk6 hl hp k (by omega) s0 hs0
  have hal:aa.length=k:=by rw [zom haa,List.length_take];omega
  refine⟨aa++[a],?_,?_⟩
  ·rw [zcn hx,zfc]
   exact List.mem_flatMap.2 ⟨aa,haa,List.mem_map.2 ⟨a,ha,rfl⟩⟩
  ·rw [zc9 d d.start plan (aa++[a]) k h a hh (by rw [← hal,List.getElem?_concat_length]),zlA d k _ _ _ _ (by omega),Int.toNat_of_nonneg hb.1]
def zjd (d:Dry) (plan:List Int):List St:=(zaH d.steps).map fun a=>stAt d d.start plan a plan.length
def zfN (d:Dry) (plan:List Int):(Int×Int)×(Int×Int)×Int :=
 if zbp d plan≠0 then ((0,0),(0,0),zbp d plan) else (zco (fun s=>d.start.w-s.w) (zjd d plan),zco (fun s=>d.start.c-s.c) (zjd d plan),0)
theorem zn6 {d:Dry} {plan:List Int}:zfN d plan=zcp d plan:=by
 unfold zfN zcp
 by_cases hp:zbp d plan=0
 ·rw [if_neg (fun h=>h hp),if_neg (fun h=>h hp)]
  obtain⟨hO,hl,hb⟩:=zcR hp
  have hmem:∀ s,s∈zjd d plan↔s∈zci d plan plan.length:=fun s=>by
   unfold zjd
   rw [List.mem_map]
   constructor
   ·rintro ⟨a,ha,rfl⟩
    exact zjc ha hl hb _ (Nat.le_refl _)
   ·intro h
    obtain⟨a,ha,rfl⟩:=zk6 hl hb _ (Nat.le_refl _) s h
    rw [hl,List.take_length] at ha
    exact⟨a,ha,rfl⟩
  have hne:=zf6 hO hl plan.length (Nat.le_refl _)
  have hne2:zjd d plan≠[]:=by
   intro h
   cases he:zci d plan plan.length with
   | nil=>exact hne he
   | cons s l =>
    have:=(hmem s).2 (by rw [he];exact List.mem_cons_self ..)
    rw [h] at this
    cases this
  rw [(zdK (fun s=>d.start.w-s.w) hne2).unique (zdK _ hne) hmem,(zdK (fun s=>d.start.c-s.c) hne2).unique (zdK _ hne) hmem]
 ·rw [if_pos hp,if_pos hp]
end Go.Proofs.Ytedomogjmhommaa
