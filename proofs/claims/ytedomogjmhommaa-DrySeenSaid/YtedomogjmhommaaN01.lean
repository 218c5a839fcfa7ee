import Derived.Test.YtedomogjmhommaaC47
import Derived.Test.YtedomogjmhommaaC49
import Derived.Test.YtedomogjmhommaaChecked
import Derived.Test.YtedomogjmhommaaRows
import Derived.ProofKit
import Derived.LaidMore
import Derived.OpenShut
import Derived.Stop.Joined
import Derived.Conc.LeavingOf
import Derived.Conc.Holds
import Derived.Carry
set_option linter.all false
set_option maxRecDepth 100000
set_option maxHeartbeats 8000000
namespace Go.Con
open Go Go.Conc
section
variable [Lone] {P:Program} {E D:Nat→Prop}
variable {maps:Bool} {Fz Arg:Nat→Prop} {W0:World} {ρ:Rn} {own A:Nat→Prop} {fr:Frame} {cs:List Frame} {W W' : World}
end
theorem Rch.not {W:World} {n:Nat} {roots X:Nat→Prop} {b:Nat} (hn:n≤b) (hr:¬ roots b) (hx:¬ X b):¬ Rch W n roots X b:=by
 intro h
 cases h with
 | glob h=>omega
 | root h=>exact hr h
 | cell _ _ _ _ h=>exact hx h
 | entry _ _ _ _ _ h=>exact hx h
end Go.Con
namespace Go.Proofs.Ytedomogjmhommaa
open Go.RowKit Go.Con Go.Conc
noncomputable def b3:Code:=match Try.f3.body with | some c=>c | none=>.skip
end Go.Proofs.Ytedomogjmhommaa
namespace Go.Proofs.Ytedomogjmhommaa
open Go.RowKit Go.Con Go.Conc
noncomputable def b9:Code:=match Try.f9.body with | some c=>c | none=>.skip
end Go.Proofs.Ytedomogjmhommaa
namespace Go.Proofs.Ytedomogjmhommaa
open Go.RowKit Go.Con Go.Conc
local instance dryI85:Lone:=dryL
theorem nx_tape {w w' : World} {τ:Tape} (n:Nx { w with tape:=τ } w'):OldC w w':=.heap n.size fun b hb=>n.block b hb
theorem EW.tape {w:World} {p1:Nat} {r:R2} {τ:Tape} (h:EW w p1 r):EW { w with tape:=τ } p1 r:=h.oc (OldC.same rfl)
theorem dries_go (E Fz Arg:Nat→Prop) (W0:World) (Q:(Nat→Prop)→(Nat→Prop)→Goroutine→World→Prop) (φ:Ph) (c0:Frame) (cs:List Frame) (W:World) (t:Array Value) (hs:t.size=146)
  (hcont:∀ (φ1:Ph) (W1:World) (Fz1:Nat→Prop),OldC W W1→GoM Try.prog true E Fz1 Arg W0 Q φ1 [] (c0.finish (.bool true)) cs W1) :
  GoM Try.prog true E Fz Arg W0 Q φ [] (Fr 17 t [.code b17]) (c0 :: cs) W:=by
 rw [b17_eq]
 refine Gm.seq ?_
 refine Gm.lone (F:=FW) (fun t1 W1=>t1.size=146∧W1.heap=W.heap) rfl rfl trivial FW_ok (by kernel_rfl) (by kernel_rfl) (fun τ=>?_) ?_
 ·refine wpIn_mono (dr0 t hs { W with tape:=τ }) ?_
  rintro e a w' ⟨k1,k2,k3,rfl⟩
  exact⟨k1,k2,k3,rfl⟩
 rintro t0 Wa ⟨s0,hWa⟩
 have oa:OldC W Wa:=OldC.same hWa
 clear hs hWa
 refine Gm.seq ?_
 refine Gm.lone (F:=FW) (fun t1 W1=>(∃ p1 r,(t1.size=146∧t1[1]?=some (ptr p1))∧EW W1 p1 r)∧OldC Wa W1) rfl rfl trivial FW_ok (by kernel_rfl) (by kernel_rfl) (fun τ=>?_) ?_
 ·refine wpIn_mono (dr1 t0 s0 { Wa with tape:=τ }) ?_
  rintro e a w' ⟨k1,k2,p1,r,k3,k4,k5⟩
  exact⟨k1,k2,⟨p1,r,k3,k4⟩,nx_tape k5⟩
 rintro t1 W1 ⟨⟨p1,r,⟨s1,m1⟩,hE⟩,o1⟩
 have o1:=oa.trans o1
 clear oa s0
 refine Gm.seq ?_
 refine Gm.lone (F:=FW) (fun t2 W2=>(t2.size=146∧t2[1]?=some (ptr p1)∧t2[2]?=some (num 2)∧t2[3]?=some (.bool true)∧t2[4]?=some (num 0))∧OldC W1 W2) rfl rfl trivial FW_ok (by kernel_rfl) (by kernel_rfl) (fun τ=>?_) ?_
 ·refine wpIn_mono (dr2 p1 r t1 s1 m1 { W1 with tape:=τ } hE.tape) ?_
  rintro e a w' ⟨k1,k2,k3,k4⟩
  exact⟨k1,k2,k3,nx_tape k4⟩
 rintro t2 W2 ⟨⟨s2,n1,n2,n3,n4⟩,o2⟩
 have hE2:=hE.oc o2
 have o2:=o1.trans o2
 clear o1 hE s1 m1
 refine Gm.seq ?_
 refine Gm.lone (F:=FW) (fun t3 W3=>∃ v5,(t3.size=146∧t3[1]?=some (ptr p1)∧t3[2]?=some (num 2)∧t3[3]?=some (.bool true)∧t3[4]?=some (num 0)∧t3[5]?=some v5∧t3[6]?=some (.bool true)∧t3[7]?=some (num 0))∧OldC W2 W3∧SetsSl W3 v5 (safeF exD).1) rfl rfl trivial FW_ok (by kernel_rfl) (by kernel_rfl) (fun τ=>?_) ?_
 ·refine wpIn_mono (dr3 p1 r t2 s2 n1 n2 n3 n4 { W2 with tape:=τ } hE2.tape) ?_
  rintro e a w' ⟨k1,k2,v5,k3,k4,k5⟩
  exact⟨k1,k2,v5,k3,nx_tape k4,k5⟩
 rintro t3 W3 ⟨v5,⟨s3,m1,m2,m3,m4,m5,m6,m7⟩,o3,hv5⟩
 have hE3:=hE2.oc o3
 have o3:=o2.trans o3
 clear o2 hE2 s2 n1 n2 n3 n4
 refine Gm.seq ?_
 rw [x17_4_eq]
 refine Gm.region ?_
 rw [show List.range ops17_4.size=[0,1,2,3,4,5,6,7,8] by kernel_rfl]
 refine Gm.op (o:=⟨some 35,.load 27 (.tmp 1),_,_,_,none⟩) (exD.val r) W3 rfl rfl (by kernel_rfl) rfl (load27_run _ (eval_tmp m1) hE3.box) id ?_
 refine Gm.enter (o:=⟨some 36,.call { callee:=.value (.func 23),args:=#[.tmp 35],argTypes:=#[27] },_,_,_,none⟩) (c:={ callee:=.value (.func 23),args:=#[.tmp 35],argTypes:=#[27] }) (g:=23) (fn:=Try.f23) (body:=b23) rfl rfl rfl rfl (by kernel_rfl) Try.func23 body23_of (by kernel_rfl) ?_
 obtain⟨ha,hcap,q1⟩:=hE3.sl.heats.cases
 obtain⟨sa,scap,q2⟩:=hE3.sl.steps.cases
 rw [List.length_map] at q1 q2
 obtain⟨rh,rs⟩:=r
 dsimp only at q1 q2
 subst q1 q2
 have e35:(Fr 17 (putD t3 (some 35) (exD.val ⟨.slice ha exD.heats.length hcap,.slice sa exD.steps.length scap⟩)) []).eval (.tmp 35)=exD.val ⟨.slice ha exD.heats.length hcap,.slice sa exD.steps.length scap⟩:=eval_tmp (by simp [putD,s3])
 refine blind_go E Fz Arg W0 Q φ _ (c0 :: cs) W3 exD ha sa hcap scap hE3.sl _ ?_ ?_ fun φ1 W4 Fz1 v8 o4 hv8=>?_
 ·simp [Try.ntmps23]
 ·simp [e35]
 rw [blind_ex] at hv8 ⊢
 rw [Fr_finish rfl]
 dsimp only
 change GoM Try.prog true E Fz1 Arg W0 Q φ1 [] (Fr 17 (putD (putD t3 (some 35) _) (some 36) (.tuple #[v8,.bool true,num 0])) _) (c0 :: cs) W4
 have hE4:=hE3.oc o4
 have hv5:=hv5.oc o4
 have o4:=o3.trans o4
 clear o3 hE3 e35
 refine Gm.op (o:=⟨some 34,.move (.tmp 36),_,_,_,none⟩) (.tuple #[v8,.bool true,num 0]) W4 rfl rfl (by kernel_rfl) rfl (mv_run _ (eval_tmp (by simp [putD,s3]))) id ?_
 refine Gm.op (o:=⟨some 37,.extract (.tmp 34) 0,_,_,_,none⟩) v8 W4 rfl rfl (by kernel_rfl) rfl (ext0_run (v:=.bool true) (z:=num 0) _ (eval_tmp (by simp [putD,s3]))) id ?_
 refine Gm.op (o:=⟨some 38,.extract (.tmp 34) 1,_,_,_,none⟩) (.bool true) W4 rfl rfl (by kernel_rfl) rfl (ext1_run (u:=v8) (z:=num 0) _ (eval_tmp (by simp [putD,s3]))) id ?_
 refine Gm.op (o:=⟨some 39,.extract (.tmp 34) 2,_,_,_,none⟩) (num 0) W4 rfl rfl (by kernel_rfl) rfl (ext2_run (u:=v8) (v:=.bool true) _ (eval_tmp (by simp [putD,s3]))) id ?_
 refine Gm.op (o:=⟨some 8,.assign (.tmp 37),_,_,_,none⟩) v8 W4 rfl rfl (by kernel_rfl) rfl (as_run _ (eval_tmp (by simp [putD,s3]))) id ?_
 refine Gm.op (o:=⟨some 9,.assign (.tmp 38),_,_,_,none⟩) (.bool true) W4 rfl rfl (by kernel_rfl) rfl (as_run _ (eval_tmp (by simp [putD,s3]))) id ?_
 refine Gm.op (o:=⟨some 10,.assign (.tmp 39),_,_,_,none⟩) (num 0) W4 rfl rfl (by kernel_rfl) rfl (as_run _ (eval_tmp (by simp [putD,s3]))) id ?_
 refine Gm.regionEnd ?_
 generalize ht4:putD _ (some 10) (num 0)=t4
 have s4:t4.size=146:=by rw [← ht4];simp [putD,s3]
 have n1:t4[1]?=some (ptr p1):=by rw [← ht4];simp [putD,m1]
 have n2:t4[2]?=some (num 2):=by rw [← ht4];simp [putD,m2]
 have n3:t4[3]?=some (.bool true):=by rw [← ht4];simp [putD,m3]
 have n4:t4[4]?=some (num 0):=by rw [← ht4];simp [putD,m4]
 have n5:t4[5]?=some v5:=by rw [← ht4];simp [putD,m5]
 have n6:t4[6]?=some (.bool true):=by rw [← ht4];simp [putD,m6]
 have n7:t4[7]?=some (num 0):=by rw [← ht4];simp [putD,m7]
 have n8:t4[8]?=some v8:=by rw [← ht4];simp [putD,s3]
 have n9:t4[9]?=some (.bool true):=by rw [← ht4];simp [putD,s3]
 have n10:t4[10]?=some (num 0):=by rw [← ht4];simp [putD,s3]
 clear ht4 s3 m1 m2 m3 m4 m5 m6 m7
 generalize (⟨.slice ha exD.heats.length hcap,.slice sa exD.steps.length scap⟩:R2)=r at hE4
 refine Gm.seq ?_
 refine Gm.lone (F:=FW) (fun t5 W5=>∃ v11,(t5.size=146∧t5[1]?=some (ptr p1)∧t5[2]?=some (num 2)∧t5[3]?=some (.bool true)∧t5[4]?=some (num 0)∧t5[5]?=some v5∧t5[6]?=some (.bool true)∧t5[7]?=some (num 0)∧t5[8]?=some v8∧t5[9]?=some (.bool true)∧t5[10]?=some (num 0)∧t5[11]?=some v11∧t5[12]?=some (num 1)∧t5[13]?=some (.bool true)∧t5[14]?=some (num 0))∧OldC W4 W5∧Sl W5 v11 1 (([0,0,0]:List Int).map one)) rfl rfl trivial FW_ok (by kernel_rfl) (by kernel_rfl) (fun τ=>?_) ?_
 ·refine wpIn_mono (dr5 p1 v5 v8 r t4 s4 n1 n2 n3 n4 n5 n6 n7 n8 n9 n10 { W4 with tape:=τ } hE4.tape) ?_
  rintro e a w' ⟨k1,k2,v11,k3,k4,k5⟩
  exact⟨k1,k2,v11,k3,nx_tape k4,k5⟩
 rintro t5 W5 ⟨v11,⟨s5,m1,m2,m3,m4,m5,m6,m7,m8,m9,m10,m11,m12,m13,m14⟩,o5,hv11⟩
 have hE5:=hE4.oc o5
 have hv5:=hv5.oc o5
 have hv8:=hv8.oc o5
 have o5:=o4.trans o5
 clear o4 hE4 s4 n1 n2 n3 n4 n5 n6 n7 n8 n9 n10
 refine Gm.seq ?_
 refine Gm.lone (F:=FW) (fun t6 W6=>∃ pa pb,(t6.size=146∧t6[1]?=some (ptr p1)∧t6[2]?=some (num 2)∧t6[3]?=some (.bool true)∧t6[4]?=some (num 0)∧t6[5]?=some v5∧t6[6]?=some (.bool true)∧t6[7]?=some (num 0)∧t6[8]?=some v8∧t6[9]?=some (.bool true)∧t6[10]?=some (num 0)∧t6[11]?=some v11∧t6[12]?=some (num 1)∧t6[13]?=some (.bool true)∧t6[14]?=some (num 0)∧t6[15]?=some (ptr pa)∧t6[16]?=some (ptr pb)∧t6[17]?=some (num 0))∧OldC W5 W6∧W6.heap[pa]?=some (.cells #[num 720,num 825] 45 (0,0))∧W6.heap[pb]?=some (.cells #[num 20,num 20] 45 (0,0))) rfl rfl trivial FW_ok (by kernel_rfl) (by kernel_rfl) (fun τ=>?_) ?_
 ·refine wpIn_mono (dr6 p1 v5 v8 v11 r t5 s5 m1 m2 m3 m4 m5 m6 m7 m8 m9 m10 m11 m12 m13 m14 { W5 with tape:=τ } hE5.tape) ?_
  rintro e a w' ⟨k1,k2,pa,pb,k3,k4,k5,k6⟩
  exact⟨k1,k2,pa,pb,k3,nx_tape k4,k5,k6⟩
 rintro t6 W6 ⟨pa,pb,⟨s6,n1,n2,n3,n4,n5,n6,n7,n8,n9,n10,n11,n12,n13,n14,n15,n16,n17⟩,o6,ga,gb⟩
 have hE6:=hE5.oc o6
 have hv5:=hv5.oc o6
 have hv8:=hv8.oc o6
 have hv11:=hv11.oc o6
 have ca0:W6.cell? ⟨pa,0,none⟩=some (num 720):=row_cell ga rfl
 have ca1:W6.cell? ⟨pa,1,none⟩=some (num 825):=row_cell ga rfl
 have cb0:W6.cell? ⟨pb,0,none⟩=some (num 20):=row_cell gb rfl
 have cb1:W6.cell? ⟨pb,1,none⟩=some (num 20):=row_cell gb rfl
 have o6:=o5.trans o6
 clear o5 hE5 s5 m1 m2 m3 m4 m5 m6 m7 m8 m9 m10 m11 m12 m13 m14 ga gb
 refine Gm.seq ?_
 refine Gm.lone (F:=FW) (fun t7 W7=>∃ v18,(t7.size=146∧t7[1]?=some (ptr p1)∧t7[2]?=some (num 2)∧t7[3]?=some (.bool true)∧t7[4]?=some (num 0)∧t7[5]?=some v5∧t7[6]?=some (.bool true)∧t7[7]?=some (num 0)∧t7[8]?=some v8∧t7[9]?=some (.bool true)∧t7[10]?=some (num 0)∧t7[11]?=some v11∧t7[12]?=some (num 1)∧t7[13]?=some (.bool true)∧t7[14]?=some (num 0)∧t7[15]?=some (ptr pa)∧t7[16]?=some (ptr pb)∧t7[17]?=some (num 0)∧t7[18]?=some v18∧t7[19]?=some (num 0))∧OldC W6 W7∧Sl W7 v18 2 (L32.map spc)) rfl rfl trivial FW_ok (by kernel_rfl) (by kernel_rfl) (fun τ=>?_) ?_
 ·refine wpIn_mono (dr7 p1 pa pb v5 v8 v11 r t6 s6 n1 n2 n3 n4 n5 n6 n7 n8 n9 n10 n11 n12 n13 n14 n15 n16 n17 { W6 with tape:=τ } hE6.tape) ?_
  rintro e a w' ⟨k1,k2,v18,k3,k4,k5⟩
  exact⟨k1,k2,v18,k3,nx_tape k4,k5⟩
 rintro t7 W7 ⟨v18,⟨s7,m1,m2,m3,m4,m5,m6,m7,m8,m9,m10,m11,m12,m13,m14,m15,m16,m17,m18,m19⟩,o7,hv18⟩
 have hv5:=hv5.oc o7
 have hv8:=hv8.oc o7
 have hv11:=hv11.oc o7
 have ca0:=o7.at ca0
 have ca1:=o7.at ca1
 have cb0:=o7.at cb0
 have cb1:=o7.at cb1
 have o7:=o6.trans o7
 clear o6 hE6 s6 n1 n2 n3 n4 n5 n6 n7 n8 n9 n10 n11 n12 n13 n14 n15 n16 n17
 refine Gm.seq (Gm.seq ?_)
 refine Gm.lone (F:=FW) (fun t8 W8=>P8 t8 p1 pa pb v5 v8 v11 v18∧W8.heap=W7.heap) rfl rfl trivial FW_ok (by kernel_rfl) (by kernel_rfl) (fun τ=>?_) ?_
 ·refine wpIn_mono (dr8 p1 pa pb v5 v8 v11 v18 t7 s7 m1 m2 m3 m4 m5 m6 m7 m8 m9 m10 m11 m12 m13 m14 m15 m16 m17 m18 m19 { W7 with tape:=τ }) ?_
  rintro e a w' ⟨k1,k2,k3,rfl⟩
  exact⟨k1,k2,k3,rfl⟩
 rintro t8 W8 ⟨⟨s8,n1,n2,n3,n4,n5,n6,n7,n8,n9,n10,n11,n12,n13,n14,n15,n16,n17,n18,n19,n85⟩,hW8⟩
 have o8:=OldC.same hW8
 have hv5:=hv5.oc o8
 have hv8:=hv8.oc o8
 have hv11:=hv11.oc o8
 have hv18:=hv18.oc o8
 have ca0:=o8.at ca0
 have ca1:=o8.at ca1
 have cb0:=o8.at cb0
 have cb1:=o8.at cb1
 have o8:=o7.trans o8
 clear o7 hW8 s7 m1 m2 m3 m4 m5 m6 m7 m8 m9 m10 m11 m12 m13 m14 m15 m16 m17 m18 m19
 refine Gm.cond (b:=false) (eval_tmp n85) rfl ?_
 refine Gm.skip (Gm.seq ?_)
 obtain⟨a8,k8,rfl⟩:=sl_len3 hv8
 obtain⟨a11,k11,rfl⟩:=sl_len3 hv11
 obtain⟨a18,k18,rfl⟩:=sl_len3 hv18
 obtain⟨vs,hvs,hlen,hel⟩:=hv5
 rw [ex_safe2] at hlen
 obtain⟨b5,o5,k5,rfl,u,cu,hu⟩:∃ b5 o5 k5,v5=.slice (some ⟨b5,o5,none⟩) 4 k5∧∃ u,W8.cell? ⟨b5,o5+2,none⟩=some u∧Sl W8 u 3 (L46.map St.cells):=by
  obtain⟨cap,⟨h1,_⟩ | ⟨b,off,rfl,_,hc⟩⟩:=hvs
  ·have:vs=[]:=by simpa using h1
   rw [this] at hlen;cases hlen
  ·refine⟨b,off,cap,by rw [List.length_map,hlen],?_⟩
   have hu2:vs[2]?=some (vs[2]'(by omega)):=List.getElem?_eq_getElem _
   refine⟨_,?_,hel 2 _ L46 hu2 ex_safe3⟩
   have:=hc 2 0 [vs[2]'(by omega)] _ (by rw [List.getElem?_map,hu2];rfl) rfl
   exact this
 obtain⟨ua,uc,rfl⟩:=sl_len3 hu
 refine Gm.lone (F:=FW) (fun t9 W9=>t9[0]?=some (.bool true)∧OldC W8 W9) rfl rfl trivial FW_ok (by kernel_rfl) (by kernel_rfl) (fun τ=>?_) ?_
 ·refine wpIn_mono (dr10 pa pb b5 o5 k5 k8 k11 k18 a8 a11 a18 t8 ⟨s8,n2,n3,n5,n6,n8,n9,n11,n12,n13,n15,n16,n18⟩ { W8 with tape:=τ } uc ua cu (hu.oc (OldC.same rfl)) (hv8.oc (OldC.same rfl)) (hv11.oc (OldC.same rfl)) (hv18.oc (OldC.same rfl)) ca0 ca1 cb0 cb1) ?_
  rintro e a w' ⟨k1,k2,k3,k4⟩
  exact⟨k1,k2,k3,nx_tape k4⟩
 rintro t9 W9 ⟨h0,o9⟩
 refine Gm.ret Try.func17 (results17 (.bool true) t9 h0) ?_
 exact hcont φ1 W9 Fz1 (o8.trans o9)
end Go.Proofs.Ytedomogjmhommaa
namespace Go.Proofs.Ytedomogjmhommaa
open Go.RowKit Go.Con Go.Conc
local instance dryI88:Lone:=dryL
section
variable {dst:Option Nat} {ty:TypeId} {pos:String} {af:Array Edge} {gd:Option (Nat×Bool)} {x y:Nat}
end
theorem body17_of:Try.f17.body=some b17:=by kernel_rfl
end Go.Proofs.Ytedomogjmhommaa
namespace Go.Proofs.Ytedomogjmhommaa
open Go.RowKit Go.Con Go.Conc
section
variable {F:Fence} {n:Nat} {ops:Array Oper} {C:World→Prop}
theorem yC_u8 {dst:Option Nat} {ty:TypeId} {pos:String} {af:Array Edge} {a:Act} {x:Nat} {v:Int} (h:a.eval (.tmp x)=.int .u8 v) (hv:0≤v∧v≤255):YieldsC F n Try.prog ops C ⟨dst,.convert 5 3 (.tmp x),ty,pos,af,none⟩ (num v) a :=
 yCP rfl (fun _=>rfl) fun z hz=>by
  generalize a.eval=ρ at h ⊢
  simp [execOp,h,go_sem,Go.convert,Try.underlying5,Try.underlying3]
  first | (simp [IntKind.wrap,IntKind.signed,IntKind.bits];omega) | (unfold IntKind.wrap;simp;omega)
end
noncomputable def b6:Code:=match Try.f6.body with | some c=>c | none=>.skip
end Go.Proofs.Ytedomogjmhommaa
namespace Go.Proofs.Ytedomogjmhommaa
open Go.RowKit Go.Shelf
def airAt (d:Dry) (picks:List Int) (k:Nat):Int:=match d.steps[k]? with | some x=>x.lo+pick picks k % (x.hi-x.lo+1) | none=>0
def airP (d:Dry) (picks:List Int):List Int:=(List.range d.steps.length).map (airAt d picks)
def stepP (m:Int) (picks:List Int) (x:Stp) (i:Nat) (h:Int):Int:=if mayB m x h (h+pick picks (10+i) % 3-1)=true then h+pick picks (10+i) % 3-1 else h
def heatP (d:Dry) (picks:List Int):Nat→Int
 | 0=>d.start.h
 | k+1=>match d.steps[k]? with | some x=>stepP d.heats.length picks x k (heatP d picks k) | none=>heatP d picks k
def planP (d:Dry) (picks:List Int):List Int:=(List.range d.steps.length).map fun k=>heatP d picks (k+1)
theorem airP_len (d:Dry) (picks:List Int):(airP d picks).length=d.steps.length:=by simp [airP]
theorem planP_len (d:Dry) (picks:List Int):(planP d picks).length=d.steps.length:=by simp [planP]
theorem airP_at {d:Dry} {picks:List Int} {k:Nat} (h:k<d.steps.length):(airP d picks)[k]?=some (airAt d picks k):=by simp [airP,h]
theorem planP_at {d:Dry} {picks:List Int} {k:Nat} (h:k<d.steps.length):(planP d picks)[k]?=some (heatP d picks (k+1)):=by simp [planP,h]
theorem airAt_eq {d:Dry} {picks:List Int} {k:Nat} {x:Stp} (h:d.steps[k]?=some x):airAt d picks k=x.lo+pick picks k % (x.hi-x.lo+1):=by unfold airAt;rw [h]
theorem heatP_succ {d:Dry} {picks:List Int} {k:Nat} {x:Stp} (h:d.steps[k]?=some x):heatP d picks (k+1)=stepP d.heats.length picks x k (heatP d picks k):=by rw [heatP,h]
theorem airAt_in {d:Dry} (hO:d.Ok) {picks:List Int} {k:Nat} {x:Stp} (h:d.steps[k]?=some x):x.lo≤airAt d picks k∧airAt d picks k≤x.hi:=by
 rw [airAt_eq h]
 have h1:=(hO.st x (List.mem_of_getElem? h)).1
 have h2:=Int.emod_nonneg (pick picks k) (show x.hi-x.lo+1≠0 by omega)
 have h3:=Int.emod_lt_of_pos (pick picks k) (show 0<x.hi-x.lo+1 by omega)
 omega
theorem mayB_refl {m:Int} {x:Stp} {h:Int} (hh:0≤h∧h≤m-1):mayB m x h h=true:=by
 unfold mayB
 rw [decide_eq_true hh,decide_eq_true rfl];rfl
theorem mayB_bd {m:Int} {x:Stp} {was h:Int} (hm:mayB m x was h=true):0≤h∧h≤m-1:=by
 unfold mayB at hm
 rw [Bool.and_eq_true] at hm
 exact of_decide_eq_true hm.1
theorem stepP_may {m:Int} {picks:List Int} {x:Stp} {i:Nat} {h:Int} (hh:0≤h∧h≤m-1):mayB m x h (stepP m picks x i h)=true:=by
 unfold stepP
 split
 ·assumption
 ·exact mayB_refl hh
theorem heatP_bd {d:Dry} (hO:d.Ok) (picks:List Int):∀ k,0≤heatP d picks k∧heatP d picks k≤(d.heats.length:Int)-1
 | 0=>(stF_ok.1 hO.start).h
 | k+1=>by
  have ih:=heatP_bd hO picks k
  cases hx:d.steps[k]? with
  | none=>rw [heatP,hx];exact ih
  | some x=>rw [heatP_succ hx];exact mayB_bd (stepP_may ih)
theorem planP_bd {d:Dry} (hO:d.Ok) (picks:List Int):∀ h∈planP d picks,0≤h∧h≤(d.heats.length:Int)-1:=by
 intro h hm
 obtain⟨k,_,rfl⟩:=List.mem_map.1 hm
 exact heatP_bd hO picks _
theorem planP_go {d:Dry} (hO:d.Ok) (picks:List Int):∀ (j k:Nat),j+k=d.steps.length→planGo d (d.steps.drop k) (heatP d picks k) ((planP d picks).drop k)=0
 | 0,k,e=>by
  rw [show (planP d picks).drop k=[] from List.drop_eq_nil_of_le (by rw [planP_len];omega)]
  cases d.steps.drop k<;>rfl
 | j+1,k,e=>by
  have hk:k<d.steps.length:=by omega
  have hx:d.steps[k]?=some d.steps[k]:=List.getElem?_eq_getElem hk
  rw [planGo_at hx (planP_at hk),if_neg (by rw [Decidable.not_not];exact heatP_bd hO picks _),heatP_succ hx,if_neg (by rw [stepP_may (heatP_bd hO picks _)];decide),← heatP_succ hx]
  exact planP_go hO picks j (k+1) (by omega)
theorem planP_pl {d:Dry} (hO:d.Ok) (picks:List Int):plF d (planP d picks)=0:=by
 unfold plF
 rw [if_neg (by rw [planP_len];simp)]
 exact planP_go hO picks _ 0 rfl
theorem planP_ok {d:Dry} (hO:d.Ok) (hF:dryF d=0) (picks:List Int):planF d (planP d picks)=0:=by
 unfold planF
 rw [if_neg (by rw [hF];simp)]
 exact planP_pl hO picks
theorem airF_of {d:Dry} {a:List Int} (h:a∈airsL d.steps):airF d a=0:=by
 obtain⟨h1,h2⟩:=airs_mem.1 h
 unfold airF
 rw [if_neg (by simp [h1]),if_neg]
 rw [Bool.not_eq_false,List.all_eq_true]
 intro p hp
 obtain⟨i,hi,rfl⟩:=List.mem_iff_getElem.1 hp
 rw [List.length_zip] at hi
 rw [List.getElem_zip]
 have:=damps_mem (h2 i _ _ (List.getElem?_eq_getElem (by omega)) (List.getElem?_eq_getElem (by omega)))
 exact decide_eq_true this
theorem airP_mem {d:Dry} (hO:d.Ok) (picks:List Int):airP d picks∈airsL d.steps:=by
 refine airs_mem.2 ⟨airP_len d picks,fun i x y hx hy=>?_⟩
 have hi:=(List.getElem?_eq_some_iff.1 hx).1
 rw [airP_at hi,Option.some.injEq] at hy
 rw [← hy]
 exact damps_of (airAt_in hO hx)
theorem follow_of {d:Dry} {plan a:List Int} (hp:planF d plan=0) (ha:a∈airsL d.steps):followF d plan a=(followS d d.start plan a,0):=by
 unfold followF
 rw [if_neg (by rw [hp];simp),if_neg (by rw [airF_of ha];simp)]
theorem followS_at (d:Dry):∀ (s:St) (hs aa:List Int) (k:Nat) (h a:Int),hs[k]?=some h→aa[k]?=some a→(followS d s hs aa)[k]?=some (stAt d s hs aa (k+1))
 | s,[],_,k,h,a,hh,_=>by simp at hh
 | s,h0 :: hs,[],k,h,a,_,ha=>by simp at ha
 | s,h0 :: hs,a0 :: aa,0,h,a,hh,ha=>by simp [followS,stAt]
 | s,h0 :: hs,a0 :: aa,k+1,h,a,hh,ha=>by
  simp at hh ha
  simpa [followS,stAt] using followS_at d (nextS d (heatAt d h0.toNat) s h0 a0) hs aa k h a hh ha
end Go.Proofs.Ytedomogjmhommaa
namespace Go.Proofs.Ytedomogjmhommaa
open Go.RowKit Go.Shelf
def seenAt (L:List St) (errs:List Int) (k:Nat):Sn:=match L[k]?,errs[k]? with | some s,some e=>⟨k,max 0 (s.w-e),min 5000 (s.w+e / 2)⟩ | _,_=>⟨0,0,0⟩
def seenP (L:List St) (errs:List Int):List Sn:=(List.range (min errs.length L.length)).map (seenAt L errs)
theorem seenP_len (L:List St) (errs:List Int):(seenP L errs).length=min errs.length L.length:=by simp [seenP]
theorem seenAt_eq {L:List St} {errs:List Int} {k:Nat} {s:St} {e:Int} (h:L[k]?=some s) (h2:errs[k]?=some e):seenAt L errs k=⟨k,max 0 (s.w-e),min 5000 (s.w+e / 2)⟩:=by unfold seenAt;rw [h,h2]
theorem seenP_at {L:List St} {errs:List Int} {k:Nat} (h:k<min errs.length L.length):(seenP L errs)[k]?=some (seenAt L errs k):=by simp [seenP,h]
theorem seen_each {L:List St} {errs:List Int} {n:Nat} (hL:∀ s∈L,s.Ok n) (he:∀ e∈errs,0≤e∧e≤255):∀ x∈seenP L errs,0≤x.step∧x.step<L.length∧insB (x.lo,x.hi) 0 5000=true∧agreeE L x=true:=by
 intro x hx
 obtain⟨k,hk,rfl⟩:=List.mem_map.1 hx
 rw [List.mem_range] at hk
 have h1:L[k]?=some (L[k]'(by omega)):=List.getElem?_eq_getElem _
 have h2:errs[k]?=some (errs[k]'(by omega)):=List.getElem?_eq_getElem _
 rw [seenAt_eq h1 h2]
 have b1:=(hL _ (List.mem_of_getElem? h1)).w
 have b2:=he _ (List.mem_of_getElem? h2)
 refine⟨by dsimp only;omega,by dsimp only;omega,decide_eq_true (by dsimp only;omega),?_⟩
 unfold agreeE
 dsimp only
 rw [Int.toNat_natCast,h1]
 exact decide_eq_true (by omega)
theorem orF_zero:∀ l:List Int,(∀ x∈l,x=0)→orF l=0
 | [],_=>rfl
 | x :: l,h=>by
  have:=h x (List.mem_cons_self ..)
  subst this
  have ih:=orF_zero l fun y hy=>h y (List.mem_cons_of_mem _ hy)
  simp [orF,ih]
theorem seenF_zero {d:Dry} {xs:List Sn} (hl:xs.length≤8) (h:∀ x∈xs,0≤x.step∧x.step<d.steps.length∧insB (x.lo,x.hi) 0 5000=true):seenF d xs=0:=by
 unfold seenF
 rw [if_neg (by omega)]
 refine orF_zero _ fun y hy=>?_
 obtain⟨x,hx,rfl⟩:=List.mem_map.1 hy
 obtain⟨h1,h2,h3⟩:=h x hx
 unfold seenE
 rw [if_neg (by rw [Decidable.not_not];omega),if_neg (by rw [h3];decide)]
structure Hull (n:Nat) (G:List (List Int)) (D:List (Int×Int)):Prop where
 len:D.length=n
 lo:∀ (i:Nat) (p:Int×Int),D[i]?=some p→∃ a∈G,a[i]?=some p.1
 hi:∀ (i:Nat) (p:Int×Int),D[i]?=some p→∃ a∈G,a[i]?=some p.2
 all:∀ (i:Nat) (p:Int×Int),D[i]?=some p→∀ a∈G,∀ y,a[i]?=some y→p.1≤y∧y≤p.2
theorem Hull.one {n:Nat} {a:List Int} (h:a.length=n):Hull n [a] (a.map fun x=>(x,x)):=by
 refine⟨by simp [h],fun i p hp=>?_,fun i p hp=>?_,fun i p hp b hb y hy=>?_⟩
 ·rw [List.getElem?_map] at hp
  obtain⟨z,hz,rfl⟩:=Option.map_eq_some_iff.1 hp
  exact⟨a,List.mem_singleton.2 rfl,hz⟩
 ·rw [List.getElem?_map] at hp
  obtain⟨z,hz,rfl⟩:=Option.map_eq_some_iff.1 hp
  exact⟨a,List.mem_singleton.2 rfl,hz⟩
 ·rw [List.getElem?_map] at hp
  obtain⟨z,hz,rfl⟩:=Option.map_eq_some_iff.1 hp
  rw [List.mem_singleton.1 hb,hz,Option.some.injEq] at hy
  subst hy
  exact⟨Int.le_refl _,Int.le_refl _⟩
theorem Hull.step {n:Nat} {G:List (List Int)} {D:List (Int×Int)} (h:Hull n G D) {a:List Int} (ha:a.length=n):Hull n (G++[a]) (List.zipWith (fun p x=>(min p.1 x,max p.2 x)) D a):=by
 have hz:∀ (i:Nat) (q:Int×Int),(List.zipWith (fun (p:Int×Int) (x:Int)=>(min p.1 x,max p.2 x)) D a)[i]?=some q→∃ p x,D[i]?=some p∧a[i]?=some x∧q=(min p.1 x,max p.2 x):=by
  intro i q hq
  rw [List.getElem?_zipWith] at hq
  cases h1:D[i]? with
  | none=>rw [h1] at hq;simp at hq
  | some p =>
   cases h2:a[i]? with
   | none=>rw [h1,h2] at hq;simp at hq
   | some x=>rw [h1,h2] at hq;simp at hq;exact⟨p,x,rfl,rfl,hq.symm⟩
 refine⟨by simp [h.len,ha],fun i q hq=>?_,fun i q hq=>?_,fun i q hq b hb y hy=>?_⟩
 ·obtain⟨p,x,hp,hx,rfl⟩:=hz i q hq
  obtain⟨b,hb,e⟩:=h.lo i p hp
  by_cases hc:p.1≤x
  ·exact⟨b,List.mem_append_left _ hb,by rw [e];simp;omega⟩
  ·exact⟨a,by simp,by rw [hx];simp;omega⟩
 ·obtain⟨p,x,hp,hx,rfl⟩:=hz i q hq
  obtain⟨b,hb,e⟩:=h.hi i p hp
  by_cases hc:x≤p.2
  ·exact⟨b,List.mem_append_left _ hb,by rw [e];simp;omega⟩
  ·exact⟨a,by simp,by rw [hx];simp;omega⟩
 ·obtain⟨p,x,hp,hx,rfl⟩:=hz i q hq
  rcases List.mem_append.1 hb with hb | hb
  ·have:=h.all i p hp b hb y hy
   dsimp only
   omega
  ·rw [List.mem_singleton.1 hb,hx,Option.some.injEq] at hy
   subst hy
   dsimp only
   omega
theorem hull_fold {n:Nat}:∀ (F G:List (List Int)) (D:List (Int×Int)),(∀ a∈F,a.length=n)→Hull n G D→∃ D',F.foldl stepD (some D)=some D'∧Hull n (G++F) D'
 | [],G,D,_,h=>⟨D,rfl,by rw [List.append_nil];exact h⟩
 | a :: F,G,D,hF,h=>by
  have h1:=h.step (hF a (List.mem_cons_self ..))
  obtain⟨D',e,h2⟩:=hull_fold F (G++[a]) _ (fun b hb=>hF b (List.mem_cons_of_mem _ hb)) h1
  refine⟨D',e,?_⟩
  rw [List.append_assoc] at h2
  exact h2
theorem hull_of {n:Nat} {F:List (List Int)} (hF:∀ a∈F,a.length=n) (hne:F≠[]):∃ D,F.foldl stepD none=some D∧Hull n F D:=by
 cases F with
 | nil=>exact absurd rfl hne
 | cons a F=>exact hull_fold F [a] _ (fun b hb=>hF b (List.mem_cons_of_mem _ hb)) (Hull.one (hF a (List.mem_cons_self ..)))
theorem damps_hull {d:Dry} {plan air:List Int} {seen:List Sn} (hp:planF d plan=0) (hs:seenF d seen=0) (ha:air∈airsL d.steps) (hg:agreesS (followS d d.start plan air) seen=true) :
  ∃ D,dampsF d plan seen=(D,0)∧Hull d.steps.length ((airsL d.steps).filter fun a=>agreesS (followS d d.start plan a) seen) D:=by
 have hm:air∈(airsL d.steps).filter fun a=>agreesS (followS d d.start plan a) seen:=List.mem_filter.2 ⟨ha,hg⟩
 obtain⟨D,e,h⟩:=hull_of (n:=d.steps.length) (F:=(airsL d.steps).filter fun a=>agreesS (followS d d.start plan a) seen) (fun a h=>(airs_mem.1 (List.mem_filter.1 h).1).1) (List.ne_nil_of_mem hm)
 refine⟨D,?_,h⟩
 unfold dampsF
 rw [if_neg (by rw [hp];simp),if_neg (by rw [hs];simp)]
 unfold dampsS
 rw [e]
 rfl
theorem agrees_take {l:List St} {xs:List Sn} (k:Nat) (h:agreesS l xs=true):agreesS l (xs.take k)=true:=by
 unfold agreesS at h ⊢
 rw [List.all_eq_true] at h ⊢
 exact fun x hx=>h x (List.mem_of_mem_take hx)
theorem seen_law {d:Dry} (hO:d.Ok) {plan air errs:List Int} (hp:planF d plan=0) (hP:PA d plan air) (hpl:plan.length=d.steps.length) (ha:air∈airsL d.steps) (he:∀ e∈errs,0≤e∧e≤255) (k:Nat) :
  ∃ A B,dampsF d plan (seenP (followS d d.start plan air) errs)=(A,0)∧dampsF d plan ((seenP (followS d d.start plan air) errs).take k)=(B,0)∧A.length=d.steps.length∧B.length=d.steps.length ∧
   (∀ (i:Nat) (p:Int×Int) (y:Int),A[i]?=some p→air[i]?=some y→p.1≤y∧y≤p.2)∧∀ (i:Nat) (p q:Int×Int),A[i]?=some p→B[i]?=some q→q.1≤p.1∧p.2≤q.2:=by
 have hll:=followS_len d d.start plan air hP.len
 have hL:∀ s∈followS d d.start plan air,s.Ok d.heats.length:=by
  intro s hs
  obtain⟨i,hi⟩:=List.mem_iff_getElem?.1 hs
  have hil:=(List.getElem?_eq_some_iff.1 hi).1
  have h1:plan[i]?=some (plan[i]'(by omega)):=List.getElem?_eq_getElem _
  have h2:air[i]?=some (air[i]'(by have:=hP.len;omega)):=List.getElem?_eq_getElem _
  rw [followS_at d d.start plan air i _ _ h1 h2,Option.some.injEq] at hi
  rw [← hi]
  exact stAt_ok hO hP (stF_ok.1 hO.start) (i+1) (by omega)
 have hx:=seen_each hL he
 have hs5:=hO.s5
 have hlen:=seenP_len (followS d d.start plan air) errs
 have hag:agreesS (followS d d.start plan air) (seenP (followS d d.start plan air) errs)=true:=by
  unfold agreesS
  rw [List.all_eq_true]
  exact fun x h=>(hx x h).2.2.2
 have hs1:seenF d (seenP (followS d d.start plan air) errs)=0:=seenF_zero (by omega) fun x h=>by
  have:=hx x h
  exact⟨this.1,by omega,this.2.2.1⟩
 have hs2:seenF d ((seenP (followS d d.start plan air) errs).take k)=0:=seenF_zero (by rw [List.length_take];omega) fun x h=>by
  have:=hx x (List.mem_of_mem_take h)
  exact⟨this.1,by omega,this.2.2.1⟩
 obtain⟨A,e1,h1⟩:=damps_hull hp hs1 ha hag
 obtain⟨B,e2,h2⟩:=damps_hull hp hs2 ha (agrees_take k hag)
 refine⟨A,B,e1,e2,h1.len,h2.len,fun i p y hi hy=>h1.all i p hi air (List.mem_filter.2 ⟨ha,hag⟩) y hy,fun i p q hi hq=>?_⟩
 obtain⟨a,hm,e⟩:=h1.lo i p hi
 obtain⟨b,hm2,e'⟩:=h1.hi i p hi
 have m1:=List.mem_filter.1 hm
 have m2:=List.mem_filter.1 hm2
 exact⟨(h2.all i q hq a (List.mem_filter.2 ⟨m1.1,agrees_take k m1.2⟩) _ e).1,(h2.all i q hq b (List.mem_filter.2 ⟨m2.1,agrees_take k m2.2⟩) _ e').2⟩
end Go.Proofs.Ytedomogjmhommaa
