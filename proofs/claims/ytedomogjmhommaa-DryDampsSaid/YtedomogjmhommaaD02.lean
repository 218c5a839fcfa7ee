import Derived.Test.YtedomogjmhommaaD01
set_option linter.all false
set_option maxRecDepth 100000
set_option maxHeartbeats 8000000
namespace Go.Proofs.Ytedomogjmhommaa
open Go.RowKit Go.Con Go.Conc
local instance dryI85:Lone:=dryL
theorem nx_tape {w w' : World} {τ:Tape} (n:Nx { w with tape:=τ } w'):OldC w w':=.heap n.size fun b hb=>n.block b hb
theorem EW.tape {w:World} {p1:Nat} {r:R2} {τ:Tape} (h:EW w p1 r):EW { w with tape:=τ } p1 r:=h.oc (OldC.same rfl)
theorem dries_go (E Fz Arg:Nat→Prop) (W0:World) (Q:(Nat→Prop)→(Nat→Prop)→Goroutine→World→Prop) (φ:Ph) (c0:Frame) (cs:List Frame) (W:World) (t:Array Value) (hs:t.size=146)
  (hcont:∀ (φ1:Ph) (W1:World) (Fz1:Nat→Prop),OldC W W1→GoM Try.prog true E Fz1 Arg W0 Q φ1 [] (c0.finish (.bool true)) cs W1) :
  GoM Try.prog true E Fz Arg W0 Q φ [] (Fr 17 t [.code b17]) (c0 :: cs) W:=by
 rw [b17_eq]
 refine Gm.seq ?_
 refine Gm.lone (F:=FW) (fun t1 W1=>t1.size=146∧W1.heap=W.heap) rfl rfl trivial FW_ok (by kernel_rfl) (by kernel_rfl) (fun τ=>?_) ?_
 ·refine wpIn_mono (dr0 t hs { W with tape:=τ }) ?_
  rintro e a w' ⟨k1,k2,k3,rfl⟩
  exact⟨k1,k2,k3,rfl⟩
 rintro t0 Wa ⟨s0,hWa⟩
 have oa:OldC W Wa:=OldC.same hWa
 clear hs hWa
 refine Gm.seq ?_
 refine Gm.lone (F:=FW) (fun t1 W1=>(∃ p1 r,(t1.size=146∧t1[1]?=some (ptr p1))∧EW W1 p1 r)∧OldC Wa W1) rfl rfl trivial FW_ok (by kernel_rfl) (by kernel_rfl) (fun τ=>?_) ?_
 ·refine wpIn_mono (dr1 t0 s0 { Wa with tape:=τ }) ?_
  rintro e a w' ⟨k1,k2,p1,r,k3,k4,k5⟩
  exact⟨k1,k2,⟨p1,r,k3,k4⟩,nx_tape k5⟩
 rintro t1 W1 ⟨⟨p1,r,⟨s1,m1⟩,hE⟩,o1⟩
 have o1:=oa.trans o1
 clear oa s0
 refine Gm.seq ?_
 refine Gm.lone (F:=FW) (fun t2 W2=>(t2.size=146∧t2[1]?=some (ptr p1)∧t2[2]?=some (num 2)∧t2[3]?=some (.bool true)∧t2[4]?=some (num 0))∧OldC W1 W2) rfl rfl trivial FW_ok (by kernel_rfl) (by kernel_rfl) (fun τ=>?_) ?_
 ·refine wpIn_mono (dr2 p1 r t1 s1 m1 { W1 with tape:=τ } hE.tape) ?_
  rintro e a w' ⟨k1,k2,k3,k4⟩
  exact⟨k1,k2,k3,nx_tape k4⟩
 rintro t2 W2 ⟨⟨s2,n1,n2,n3,n4⟩,o2⟩
 have hE2:=hE.oc o2
 have o2:=o1.trans o2
 clear o1 hE s1 m1
 refine Gm.seq ?_
 refine Gm.lone (F:=FW) (fun t3 W3=>∃ v5,(t3.size=146∧t3[1]?=some (ptr p1)∧t3[2]?=some (num 2)∧t3[3]?=some (.bool true)∧t3[4]?=some (num 0)∧t3[5]?=some v5∧t3[6]?=some (.bool true)∧t3[7]?=some (num 0))∧OldC W2 W3∧SetsSl W3 v5 (safeF exD).1) rfl rfl trivial FW_ok (by kernel_rfl) (by kernel_rfl) (fun τ=>?_) ?_
 ·refine wpIn_mono (dr3 p1 r t2 s2 n1 n2 n3 n4 { W2 with tape:=τ } hE2.tape) ?_
  rintro e a w' ⟨k1,k2,v5,k3,k4,k5⟩
  exact⟨k1,k2,v5,k3,nx_tape k4,k5⟩
 rintro t3 W3 ⟨v5,⟨s3,m1,m2,m3,m4,m5,m6,m7⟩,o3,hv5⟩
 have hE3:=hE2.oc o3
 have o3:=o2.trans o3
 clear o2 hE2 s2 n1 n2 n3 n4
 refine Gm.seq ?_
 rw [x17_4_eq]
 refine Gm.region ?_
 rw [show List.range ops17_4.size=[0,1,2,3,4,5,6,7,8] by kernel_rfl]
 refine Gm.op (o:=⟨some 35,.load 27 (.tmp 1),_,_,_,none⟩) (exD.val r) W3 rfl rfl (by kernel_rfl) rfl (load27_run _ (eval_tmp m1) hE3.box) id ?_
 refine Gm.enter (o:=⟨some 36,.call { callee:=.value (.func 23),args:=#[.tmp 35],argTypes:=#[27] },_,_,_,none⟩) (c:={ callee:=.value (.func 23),args:=#[.tmp 35],argTypes:=#[27] }) (g:=23) (fn:=Try.f23) (body:=b23) rfl rfl rfl rfl (by kernel_rfl) Try.func23 body23_of (by kernel_rfl) ?_
 obtain⟨ha,hcap,q1⟩:=hE3.sl.heats.cases
 obtain⟨sa,scap,q2⟩:=hE3.sl.steps.cases
 rw [List.length_map] at q1 q2
 obtain⟨rh,rs⟩:=r
 dsimp only at q1 q2
 subst q1 q2
 have e35:(Fr 17 (putD t3 (some 35) (exD.val ⟨.slice ha exD.heats.length hcap,.slice sa exD.steps.length scap⟩)) []).eval (.tmp 35)=exD.val ⟨.slice ha exD.heats.length hcap,.slice sa exD.steps.length scap⟩:=eval_tmp (by simp [putD,s3])
 refine blind_go E Fz Arg W0 Q φ _ (c0 :: cs) W3 exD ha sa hcap scap hE3.sl _ ?_ ?_ fun φ1 W4 Fz1 v8 o4 hv8=>?_
 ·simp [Try.ntmps23]
 ·simp [e35]
 rw [blind_ex] at hv8 ⊢
 rw [Fr_finish rfl]
 dsimp only
 change GoM Try.prog true E Fz1 Arg W0 Q φ1 [] (Fr 17 (putD (putD t3 (some 35) _) (some 36) (.tuple #[v8,.bool true,num 0])) _) (c0 :: cs) W4
 have hE4:=hE3.oc o4
 have hv5:=hv5.oc o4
 have o4:=o3.trans o4
 clear o3 hE3 e35
 refine Gm.op (o:=⟨some 34,.move (.tmp 36),_,_,_,none⟩) (.tuple #[v8,.bool true,num 0]) W4 rfl rfl (by kernel_rfl) rfl (mv_run _ (eval_tmp (by simp [putD,s3]))) id ?_
 refine Gm.op (o:=⟨some 37,.extract (.tmp 34) 0,_,_,_,none⟩) v8 W4 rfl rfl (by kernel_rfl) rfl (ext0_run (v:=.bool true) (z:=num 0) _ (eval_tmp (by simp [putD,s3]))) id ?_
 refine Gm.op (o:=⟨some 38,.extract (.tmp 34) 1,_,_,_,none⟩) (.bool true) W4 rfl rfl (by kernel_rfl) rfl (ext1_run (u:=v8) (z:=num 0) _ (eval_tmp (by simp [putD,s3]))) id ?_
 refine Gm.op (o:=⟨some 39,.extract (.tmp 34) 2,_,_,_,none⟩) (num 0) W4 rfl rfl (by kernel_rfl) rfl (ext2_run (u:=v8) (v:=.bool true) _ (eval_tmp (by simp [putD,s3]))) id ?_
 refine Gm.op (o:=⟨some 8,.assign (.tmp 37),_,_,_,none⟩) v8 W4 rfl rfl (by kernel_rfl) rfl (as_run _ (eval_tmp (by simp [putD,s3]))) id ?_
 refine Gm.op (o:=⟨some 9,.assign (.tmp 38),_,_,_,none⟩) (.bool true) W4 rfl rfl (by kernel_rfl) rfl (as_run _ (eval_tmp (by simp [putD,s3]))) id ?_
 refine Gm.op (o:=⟨some 10,.assign (.tmp 39),_,_,_,none⟩) (num 0) W4 rfl rfl (by kernel_rfl) rfl (as_run _ (eval_tmp (by simp [putD,s3]))) id ?_
 refine Gm.regionEnd ?_
 generalize ht4:putD _ (some 10) (num 0)=t4
 have s4:t4.size=146:=by rw [← ht4];simp [putD,s3]
 have n1:t4[1]?=some (ptr p1):=by rw [← ht4];simp [putD,m1]
 have n2:t4[2]?=some (num 2):=by rw [← ht4];simp [putD,m2]
 have n3:t4[3]?=some (.bool true):=by rw [← ht4];simp [putD,m3]
 have n4:t4[4]?=some (num 0):=by rw [← ht4];simp [putD,m4]
 have n5:t4[5]?=some v5:=by rw [← ht4];simp [putD,m5]
 have n6:t4[6]?=some (.bool true):=by rw [← ht4];simp [putD,m6]
 have n7:t4[7]?=some (num 0):=by rw [← ht4];simp [putD,m7]
 have n8:t4[8]?=some v8:=by rw [← ht4];simp [putD,s3]
 have n9:t4[9]?=some (.bool true):=by rw [← ht4];simp [putD,s3]
 have n10:t4[10]?=some (num 0):=by rw [← ht4];simp [putD,s3]
 clear ht4 s3 m1 m2 m3 m4 m5 m6 m7
 generalize (⟨.slice ha exD.heats.length hcap,.slice sa exD.steps.length scap⟩:R2)=r at hE4
 refine Gm.seq ?_
 refine Gm.lone (F:=FW) (fun t5 W5=>∃ v11,(t5.size=146∧t5[1]?=some (ptr p1)∧t5[2]?=some (num 2)∧t5[3]?=some (.bool true)∧t5[4]?=some (num 0)∧t5[5]?=some v5∧t5[6]?=some (.bool true)∧t5[7]?=some (num 0)∧t5[8]?=some v8∧t5[9]?=some (.bool true)∧t5[10]?=some (num 0)∧t5[11]?=some v11∧t5[12]?=some (num 1)∧t5[13]?=some (.bool true)∧t5[14]?=some (num 0))∧OldC W4 W5∧Sl W5 v11 1 (([0,0,0]:List Int).map one)) rfl rfl trivial FW_ok (by kernel_rfl) (by kernel_rfl) (fun τ=>?_) ?_
 ·refine wpIn_mono (dr5 p1 v5 v8 r t4 s4 n1 n2 n3 n4 n5 n6 n7 n8 n9 n10 { W4 with tape:=τ } hE4.tape) ?_
  rintro e a w' ⟨k1,k2,v11,k3,k4,k5⟩
  exact⟨k1,k2,v11,k3,nx_tape k4,k5⟩
 rintro t5 W5 ⟨v11,⟨s5,m1,m2,m3,m4,m5,m6,m7,m8,m9,m10,m11,m12,m13,m14⟩,o5,hv11⟩
 have hE5:=hE4.oc o5
 have hv5:=hv5.oc o5
 have hv8:=hv8.oc o5
 have o5:=o4.trans o5
 clear o4 hE4 s4 n1 n2 n3 n4 n5 n6 n7 n8 n9 n10
 refine Gm.seq ?_
 refine Gm.lone (F:=FW) (fun t6 W6=>∃ pa pb,(t6.size=146∧t6[1]?=some (ptr p1)∧t6[2]?=some (num 2)∧t6[3]?=some (.bool true)∧t6[4]?=some (num 0)∧t6[5]?=some v5∧t6[6]?=some (.bool true)∧t6[7]?=some (num 0)∧t6[8]?=some v8∧t6[9]?=some (.bool true)∧t6[10]?=some (num 0)∧t6[11]?=some v11∧t6[12]?=some (num 1)∧t6[13]?=some (.bool true)∧t6[14]?=some (num 0)∧t6[15]?=some (ptr pa)∧t6[16]?=some (ptr pb)∧t6[17]?=some (num 0))∧OldC W5 W6∧W6.heap[pa]?=some (.cells #[num 720,num 825] 45 (0,0))∧W6.heap[pb]?=some (.cells #[num 20,num 20] 45 (0,0))) rfl rfl trivial FW_ok (by kernel_rfl) (by kernel_rfl) (fun τ=>?_) ?_
 ·refine wpIn_mono (dr6 p1 v5 v8 v11 r t5 s5 m1 m2 m3 m4 m5 m6 m7 m8 m9 m10 m11 m12 m13 m14 { W5 with tape:=τ } hE5.tape) ?_
  rintro e a w' ⟨k1,k2,pa,pb,k3,k4,k5,k6⟩
  exact⟨k1,k2,pa,pb,k3,nx_tape k4,k5,k6⟩
 rintro t6 W6 ⟨pa,pb,⟨s6,n1,n2,n3,n4,n5,n6,n7,n8,n9,n10,n11,n12,n13,n14,n15,n16,n17⟩,o6,ga,gb⟩
 have hE6:=hE5.oc o6
 have hv5:=hv5.oc o6
 have hv8:=hv8.oc o6
 have hv11:=hv11.oc o6
 have ca0:W6.cell? ⟨pa,0,none⟩=some (num 720):=row_cell ga rfl
 have ca1:W6.cell? ⟨pa,1,none⟩=some (num 825):=row_cell ga rfl
 have cb0:W6.cell? ⟨pb,0,none⟩=some (num 20):=row_cell gb rfl
 have cb1:W6.cell? ⟨pb,1,none⟩=some (num 20):=row_cell gb rfl
 have o6:=o5.trans o6
 clear o5 hE5 s5 m1 m2 m3 m4 m5 m6 m7 m8 m9 m10 m11 m12 m13 m14 ga gb
 refine Gm.seq ?_
 refine Gm.lone (F:=FW) (fun t7 W7=>∃ v18,(t7.size=146∧t7[1]?=some (ptr p1)∧t7[2]?=some (num 2)∧t7[3]?=some (.bool true)∧t7[4]?=some (num 0)∧t7[5]?=some v5∧t7[6]?=some (.bool true)∧t7[7]?=some (num 0)∧t7[8]?=some v8∧t7[9]?=some (.bool true)∧t7[10]?=some (num 0)∧t7[11]?=some v11∧t7[12]?=some (num 1)∧t7[13]?=some (.bool true)∧t7[14]?=some (num 0)∧t7[15]?=some (ptr pa)∧t7[16]?=some (ptr pb)∧t7[17]?=some (num 0)∧t7[18]?=some v18∧t7[19]?=some (num 0))∧OldC W6 W7∧Sl W7 v18 2 (L32.map spc)) rfl rfl trivial FW_ok (by kernel_rfl) (by kernel_rfl) (fun τ=>?_) ?_
 ·refine wpIn_mono (dr7 p1 pa pb v5 v8 v11 r t6 s6 n1 n2 n3 n4 n5 n6 n7 n8 n9 n10 n11 n12 n13 n14 n15 n16 n17 { W6 with tape:=τ } hE6.tape) ?_
  rintro e a w' ⟨k1,k2,v18,k3,k4,k5⟩
  exact⟨k1,k2,v18,k3,nx_tape k4,k5⟩
 rintro t7 W7 ⟨v18,⟨s7,m1,m2,m3,m4,m5,m6,m7,m8,m9,m10,m11,m12,m13,m14,m15,m16,m17,m18,m19⟩,o7,hv18⟩
 have hv5:=hv5.oc o7
 have hv8:=hv8.oc o7
 have hv11:=hv11.oc o7
 have ca0:=o7.at ca0
 have ca1:=o7.at ca1
 have cb0:=o7.at cb0
 have cb1:=o7.at cb1
 have o7:=o6.trans o7
 clear o6 hE6 s6 n1 n2 n3 n4 n5 n6 n7 n8 n9 n10 n11 n12 n13 n14 n15 n16 n17
 refine Gm.seq (Gm.seq ?_)
 refine Gm.lone (F:=FW) (fun t8 W8=>P8 t8 p1 pa pb v5 v8 v11 v18∧W8.heap=W7.heap) rfl rfl trivial FW_ok (by kernel_rfl) (by kernel_rfl) (fun τ=>?_) ?_
 ·refine wpIn_mono (dr8 p1 pa pb v5 v8 v11 v18 t7 s7 m1 m2 m3 m4 m5 m6 m7 m8 m9 m10 m11 m12 m13 m14 m15 m16 m17 m18 m19 { W7 with tape:=τ }) ?_
  rintro e a w' ⟨k1,k2,k3,rfl⟩
  exact⟨k1,k2,k3,rfl⟩
 rintro t8 W8 ⟨⟨s8,n1,n2,n3,n4,n5,n6,n7,n8,n9,n10,n11,n12,n13,n14,n15,n16,n17,n18,n19,n85⟩,hW8⟩
 have o8:=OldC.same hW8
 have hv5:=hv5.oc o8
 have hv8:=hv8.oc o8
 have hv11:=hv11.oc o8
 have hv18:=hv18.oc o8
 have ca0:=o8.at ca0
 have ca1:=o8.at ca1
 have cb0:=o8.at cb0
 have cb1:=o8.at cb1
 have o8:=o7.trans o8
 clear o7 hW8 s7 m1 m2 m3 m4 m5 m6 m7 m8 m9 m10 m11 m12 m13 m14 m15 m16 m17 m18 m19
 refine Gm.cond (b:=false) (eval_tmp n85) rfl ?_
 refine Gm.skip (Gm.seq ?_)
 obtain⟨a8,k8,rfl⟩:=sl_len3 hv8
 obtain⟨a11,k11,rfl⟩:=sl_len3 hv11
 obtain⟨a18,k18,rfl⟩:=sl_len3 hv18
 obtain⟨vs,hvs,hlen,hel⟩:=hv5
 rw [ex_safe2] at hlen
 obtain⟨b5,o5,k5,rfl,u,cu,hu⟩:∃ b5 o5 k5,v5=.slice (some ⟨b5,o5,none⟩) 4 k5∧∃ u,W8.cell? ⟨b5,o5+2,none⟩=some u∧Sl W8 u 3 (L46.map St.cells):=by
  obtain⟨cap,⟨h1,_⟩ | ⟨b,off,rfl,_,hc⟩⟩:=hvs
  ·have:vs=[]:=by simpa using h1
   rw [this] at hlen;cases hlen
  ·refine⟨b,off,cap,by rw [List.length_map,hlen],?_⟩
   have hu2:vs[2]?=some (vs[2]'(by omega)):=List.getElem?_eq_getElem _
   refine⟨_,?_,hel 2 _ L46 hu2 ex_safe3⟩
   have:=hc 2 0 [vs[2]'(by omega)] _ (by rw [List.getElem?_map,hu2];rfl) rfl
   exact this
 obtain⟨ua,uc,rfl⟩:=sl_len3 hu
 refine Gm.lone (F:=FW) (fun t9 W9=>t9[0]?=some (.bool true)∧OldC W8 W9) rfl rfl trivial FW_ok (by kernel_rfl) (by kernel_rfl) (fun τ=>?_) ?_
 ·refine wpIn_mono (dr10 pa pb b5 o5 k5 k8 k11 k18 a8 a11 a18 t8 ⟨s8,n2,n3,n5,n6,n8,n9,n11,n12,n13,n15,n16,n18⟩ { W8 with tape:=τ } uc ua cu (hu.oc (OldC.same rfl)) (hv8.oc (OldC.same rfl)) (hv11.oc (OldC.same rfl)) (hv18.oc (OldC.same rfl)) ca0 ca1 cb0 cb1) ?_
  rintro e a w' ⟨k1,k2,k3,k4⟩
  exact⟨k1,k2,k3,nx_tape k4⟩
 rintro t9 W9 ⟨h0,o9⟩
 refine Gm.ret Try.func17 (results17 (.bool true) t9 h0) ?_
 exact hcont φ1 W9 Fz1 (o8.trans o9)
end Go.Proofs.Ytedomogjmhommaa
namespace Go.Proofs.Ytedomogjmhommaa
open Go.RowKit Go.Con Go.Conc
local instance dryI88:Lone:=dryL
theorem wanted_guard {ops:Array Oper} {o:Oper} {i d:Nat} {b:Bool} {t:Array Value} (hg:o.guard=some (i,b)) (hd:(ops[i]?).bind (·.dst)=some d) (hv:t[d]?=some (.bool b)):Region.wanted o (yielded ops t)=true:=by
 unfold Region.wanted yielded
 simp [hg,hd,hv]
section
variable {dst:Option Nat} {ty:TypeId} {pos:String} {af:Array Edge} {gd:Option (Nat×Bool)} {x y:Nat}
theorem pick_run (e:Operand→Value) {w:World} {v c:Value} (h:e (.tmp x)=.bool true) (h2:e (.tmp y)=v) (τ:Tape):(execOp e ⟨dst,.pick (.tmp x) (.tmp y) (.const c),ty,pos,af,gd⟩).run Try.prog { w with tape:=τ }=.ok (.value v) { w with tape:=τ }:=by
 simp [execOp,go_sem,h,h2]
theorem eq30_run (e:Operand→Value) {w:World} {n:Int} (h:e (.tmp x)=num n) (h2:e (.tmp y)=num n) (τ:Tape):(execOp e ⟨dst,.binOp .eql 30 (.tmp x) (.tmp y) 30,ty,pos,af,gd⟩).run Try.prog { w with tape:=τ }=.ok (.value (.bool true)) { w with tape:=τ }:=by
 simp [execOp,go_sem,h,h2]
end
theorem body17_of:Try.f17.body=some b17:=by kernel_rfl
theorem one_back {g:Nat} {args:Array Value} {W:World} {v:Value} {τ:Tape} (h:CallsIn FW 0 Try.prog g args { W with tape:=τ } fun e w'=>e=.returned v∧Nx { W with tape:=τ } w') :
  CallsIn FW 0 Try.prog g args { W with tape:=τ } fun e w'=>match e with | .returned u=>(u=v∧OldC W w') | _=>False:=by
 refine h.mono ?_
 rintro e w' ⟨rfl,n⟩
 exact⟨rfl,nx_tape n⟩
end Go.Proofs.Ytedomogjmhommaa
namespace Go.Con
open Go Go.Conc
section
variable [Lone]
variable {P:Program} {maps:Bool} {E Arg:Nat→Prop} {W0:World} {f:FuncId} {k:List Item} {cs:List Frame}
variable {Q:(Nat→Prop)→(Nat→Prop)→Goroutine→World→Prop} {pend:List Nat}
theorem edge_lt {ops:Array Oper} {n:Nat} (hn:neatOps ops n=true) {i j:Nat} (he:edgeTo ops i j=true):j<i:=by
 have hi:i<ops.size:=by
  rcases Nat.lt_or_ge i ops.size with h | h
  ·exact h
  ·unfold edgeTo at he
   rw [Array.getElem?_eq_none h] at he
   cases he
 unfold neatOps at hn
 rw [List.all_eq_true] at hn
 have h1:=hn i (List.mem_range.2 hi)
 rw [Bool.and_eq_true] at h1
 have h2:=h1.2
 have ho:ops[i]?=some ops[i]:=Array.getElem?_eq_getElem hi
 rw [ho,Option.any_some,Array.all_eq_true_iff_forall_mem] at h2
 unfold edgeTo at he
 rw [ho] at he
 simp only [Option.map_some,Option.getD_some] at he
 obtain⟨q,hq,he⟩:=Array.any_eq_true.1 he
 rw [Bool.and_eq_true,beq_iff_eq] at he
 have h3:=h2 _ (Array.getElem_mem hq)
 rw [he.1] at h3
 have h4:(ops[i]).after[q].on<i:=by simpa using h3
 omega
theorem seq_go {ops:Array Oper} {C:World→Prop} {vs:Nat→Value} {t0:Array Value} (hn:neatOps ops t0.size=true)
  (hop:∀ i,i<ops.size→∀ t W Fz φ rest,C W→t.size=t0.size→(∀ j d,edgeTo ops i j=true→dstOf ops j=some d→t[d]?=some (vs j))→(∀ d,freeOf ops d=true→t[d]?=t0[d]?) →
   (∀ W' Fz' φ',C W'→GoM P maps E Fz' Arg W0 Q φ' pend (Fr f (putD t (dstOf ops i) (vs i)) (.inRegion ops rest :: k)) cs W')→GoM P maps E Fz Arg W0 Q φ pend (Fr f t (.inRegion ops (i :: rest) :: k)) cs W)
  (hend:∀ t W Fz φ,C W→t.size=t0.size→(∀ j d,dstOf ops j=some d→t[d]?=some (vs j))→(∀ d,freeOf ops d=true→t[d]?=t0[d]?)→GoM P maps E Fz Arg W0 Q φ pend (Fr f t k) cs W) :
  ∀ (m i:Nat) (t:Array Value) (W:World) Fz φ,i+m=ops.size→t.size=t0.size→(∀ j d,j<i→dstOf ops j=some d→t[d]?=some (vs j))→(∀ d,freeOf ops d=true→t[d]?=t0[d]?)→C W →
   GoM P maps E Fz Arg W0 Q φ pend (Fr f t (.inRegion ops (List.range' i m) :: k)) cs W:=by
 intro m
 induction m with
 | zero =>
  intro i t W Fz φ hi hs hg ho hC
  exact Gm.regionEnd (hend t W Fz φ hC hs (fun j d hj=>hg j d (by have:=dstOf_lt hj;omega) hj) ho)
 | succ m ih =>
  intro i t W Fz φ hi hs hg ho hC
  obtain⟨di,hdi,hdn,_⟩:=neat_dst hn (show i<ops.size by omega)
  refine hop i (by omega) t W Fz φ _ hC hs (fun j d he hj=>hg j d (edge_lt hn he) hj) ho fun W' Fz' φ' hC'=>?_
  refine ih (i+1) _ W' Fz' φ' (by omega) ?_ ?_ ?_ hC'
  ·rw [hdi]
   simp only [putD,Array.size_setIfInBounds]
   exact hs
  ·intro j d hj hd
   rw [hdi]
   simp only [putD]
   by_cases hij:i=j
   ·subst hij
    rw [hdi] at hd
    cases hd
    exact Array.getElem?_setIfInBounds_self_of_lt (by rw [hs];exact hdn)
   ·have hne:di≠d:=fun h=>hij (neat_inj hn hdi (h ▸ hd))
    rw [Array.getElem?_setIfInBounds_ne hne]
    exact hg j d (by omega) hd
  ·intro d hd
   rw [hdi]
   simp only [putD]
   have hne:di≠d:=fun h=>freeOf_spec hd i (h ▸ hdi)
   rw [Array.getElem?_setIfInBounds_ne hne]
   exact ho d hd
theorem Gm.regionSeq {Fz:Nat→Prop} {φ:Ph} {t0:Array Value} {W:World} {id:Nat} {ops:Array Oper} (C:World→Prop) (vs:Nat→Value) (hn:neatOps ops t0.size=true) (hC:C W)
  (hop:∀ i,i<ops.size→∀ t W Fz φ rest,C W→t.size=t0.size→(∀ j d,edgeTo ops i j=true→dstOf ops j=some d→t[d]?=some (vs j))→(∀ d,freeOf ops d=true→t[d]?=t0[d]?) →
   (∀ W' Fz' φ',C W'→GoM P maps E Fz' Arg W0 Q φ' pend (Fr f (putD t (dstOf ops i) (vs i)) (.inRegion ops rest :: k)) cs W')→GoM P maps E Fz Arg W0 Q φ pend (Fr f t (.inRegion ops (i :: rest) :: k)) cs W)
  (hend:∀ t W Fz φ,C W→t.size=t0.size→(∀ j d,dstOf ops j=some d→t[d]?=some (vs j))→(∀ d,freeOf ops d=true→t[d]?=t0[d]?)→GoM P maps E Fz Arg W0 Q φ pend (Fr f t k) cs W) :
  GoM P maps E Fz Arg W0 Q φ pend (Fr f t0 (.code (.region id ops false) :: k)) cs W:=by
 refine Gm.region ?_
 rw [List.range_eq_range']
 exact seq_go hn hop hend _ _ _ _ _ _ (by omega) rfl (fun j d h _=>absurd h (Nat.not_lt_zero _)) (fun _ _=>rfl) hC
end
end Go.Con
namespace Go.Proofs.Ytedomogjmhommaa
open Go.RowKit Go.Con Go.Conc
section
variable {F:Fence} {n:Nat} {ops:Array Oper} {C:World→Prop}
end
noncomputable def b6:Code:=match Try.f6.body with | some c=>c | none=>.skip
end Go.Proofs.Ytedomogjmhommaa
namespace Go.Proofs.Ytedomogjmhommaa
open Go.RowKit Go.Shelf
theorem airs_some:∀ xs:List Stp,(∀ x∈xs,x.lo≤x.hi)→∃ a,a∈airsL xs
 | [],_=>⟨[],by simp [airsL]⟩
 | x :: xs,h=>by
  obtain⟨a,ha⟩:=airs_some xs fun y hy=>h y (List.mem_cons_of_mem _ hy)
  exact⟨x.lo :: a,List.mem_flatMap.2 ⟨x.lo,damps_of ⟨Int.le_refl _,h x (List.mem_cons_self ..)⟩,List.mem_map.2 ⟨a,ha,rfl⟩⟩⟩
end Go.Proofs.Ytedomogjmhommaa
namespace Go.Proofs.Ytedomogjmhommaa
open Go.RowKit Go.Shelf
theorem airs_count {d:Dry} (hO:d.Ok):(airsL d.steps).length≤1024:=by
 have h:=(airs_up_len hO d.steps.length).1
 rw [airsUp_all] at h
 exact Nat.le_trans h (by have:=hO.s5;exact Nat.pow_le_pow_right (by omega) (show d.steps.length≤5 by omega))
theorem ISets.read {w:World} {v:Value} {M:List (List Int)} (h:ISets w v M) (hM:M≠[]):∃ (b o c:Nat) (vs:List Value),v=.slice (some ⟨b,o,none⟩) M.length c∧b<w.heap.size∧∀ (i:Nat) (l:List Int),M[i]?=some l→∃ (a:Option Addr) (c' : Nat),w.cell? ⟨b,o+i,none⟩=some (.slice a l.length c')∧Sl w (.slice a l.length c') 1 (l.map one):=by
 obtain⟨vs,h1,h2,h3⟩:=h
 obtain⟨a,c,e⟩:=h1.cases
 subst e
 obtain⟨b,o,rfl,hb,hc⟩:=h1.get (by rw [List.length_map,h2];exact List.length_pos_iff.2 hM)
 rw [List.length_map,h2]
 refine⟨b,o,c,vs,rfl,hb,fun i l hl=>?_⟩
 have hi:=(List.getElem?_eq_some_iff.1 hl).1
 have hv:vs[i]?=some (vs[i]'(by omega)):=List.getElem?_eq_getElem _
 have hs:=h3 i _ l hv hl
 obtain⟨a',c',e'⟩:=hs.cases
 rw [List.length_map] at e'
 rw [e'] at hs
 refine⟨a',c',?_,hs⟩
 have:=hc i 0 [.slice a' l.length c'] (.slice a' l.length c') (by rw [List.getElem?_map,hv,e'];rfl) rfl
 simpa using this
theorem airs_ne {d:Dry} (hO:d.Ok):airsL d.steps≠[]:=by
 obtain⟨a,ha⟩:=airs_some d.steps fun x hx=>(hO.st x hx).1.2.1
 intro e
 rw [e] at ha
 cases ha
end Go.Proofs.Ytedomogjmhommaa
