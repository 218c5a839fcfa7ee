import Derived.Test.YtedomogjmhommaaC47
import Derived.Test.YtedomogjmhommaaC49
import Derived.Test.YtedomogjmhommaaChecked
import Derived.Test.YtedomogjmhommaaRows
import Derived.ProofKit
import Derived.LaidMore
import Derived.OpenShut
import Derived.Stop.Joined
import Derived.Conc.LeavingOf
import Derived.Conc.Holds
import Derived.Carry
set_option linter.all false
set_option maxRecDepth 100000
set_option maxHeartbeats 8000000
namespace Go.Proofs.Ytedomogjmhommaa
open Go.RowKit
theorem keeps37_any (d:Dry) (r:R2) (k:Nat) (x:Stp) (s:St) (w:World) (hd:DrySl w d r) (hk:d.steps[k]?=some x) :
 CallsIn FW 0 Try.prog 37 #[d.val r,num k,s.val] w fun e w'=>e=.returned (.bool (keepsB x s))∧Nx w w':=by
 obtain⟨rh,rs⟩:=r
 obtain⟨ha,hcap,rfl⟩:=hd.heats.cases
 obtain⟨sa,scap,rfl⟩:=hd.steps.cases
 have hkl:k<d.steps.length:=(List.getElem?_eq_some_iff.1 hk).1
 have hs:=hd.sl
 obtain⟨b,off,rfl,hbl,hcl⟩:=hd.steps.get (by simp;omega)
 rw [List.length_map,List.length_map] at *
 have E0:∀ i v,(Stp.cells x)[i]?=some v→w.cell? ⟨b,off+k * 6+i,none⟩=some v:=fun i v h=>Sl.at hcl (Nx.refl w) hbl hk i h
 have j1:=fun (w1:World)=>in58_any s.w x.wlo x.whi w1
 clear hd hcl
 obtain⟨kb,hkb⟩:∃ kb,keepsB x s=kb:=⟨_,rfl⟩
 rw [hkb]
 have HKB:=Lib.hid hkb
 clear hkb hk
 gi_enter Try.func37,Try.ntmps37
 gi_upto_region 1 with fail
 generalize hW:(w.alloc _).alloc _=W
 obtain⟨nW,sW,g0,g1⟩:=al2 hW
 have kW:∀ i v,(Stp.cells x)[i]?=some v→W.cell? ⟨b,off+k * 6+i,none⟩=some v:=fun i v h=>(nW.cell (p:=⟨b,_,none⟩) (by exact hbl)).trans (E0 i v h)
 have e0:W.cell? ⟨b,off+k * 6,none⟩=some (num x.lo):=kW 0 _ rfl
 have e1:=kW 1 (num x.hi) rfl
 have e2:=kW 2 (.bool x.tended) rfl
 have e3:=kW 3 (num x.wlo) rfl
 have e4:=kW 4 (num x.whi) rfl
 have e5:=kW 5 (num x.col) rfl
 have c6:W.cell? ⟨w.heap.size,6,none⟩=some (.slice (some ⟨b,off,none⟩) d.steps.length scap):=row_cell g0 rfl
 have s0:W.cell? ⟨w.heap.size+1,0,none⟩=some (num s.w):=row_cell g1 rfl
 have s1:W.cell? ⟨w.heap.size+1,1,none⟩=some (num s.c):=row_cell g1 rfl
 clear hW kW E0
 gi_upto_region 2 with fail
 generalize hV:W.alloc _=V
 obtain⟨nV,sV,g2⟩:=al1 hV
 rw [sW] at g2
 have s0:=(nV.cell (p:=⟨w.heap.size+1,0,none⟩) (by show _<_;simp only;omega)).trans s0
 have s1:=(nV.cell (p:=⟨w.heap.size+1,1,none⟩) (by show _<_;simp only;omega)).trans s1
 have t3:V.cell? ⟨w.heap.size+2,3,none⟩=some (num x.wlo):=row_cell g2 rfl
 have t4:V.cell? ⟨w.heap.size+2,4,none⟩=some (num x.whi):=row_cell g2 rfl
 have t5:V.cell? ⟨w.heap.size+2,5,none⟩=some (num x.col):=row_cell g2 rfl
 have nV:=nW.trans nV
 clear hV e0 e1 e2 e3 e4 e5 c6 g0 g1 g2
 by_cases h:x.wlo≤s.w∧s.w≤x.whi
 ·have b1:=decide_eq_true h
  have HK:Hid (kb=decide (s.c≥x.col)):=by show _=_;rw [← HKB.out];unfold keepsB;rw [b1];rfl
  clear h
  gi_wp2_with (first | ((gi_at_call 58;refine CallsIn.mono (by (with_reducible exact j1 _)) ?_;rintro e w1 ⟨rfl,hw1⟩;replace hw1:=hw1.symm;subst hw1)) | gi_in)
  all_goals (go_ret;exact⟨by rw [HK.out]<;>rfl,nV⟩)
 ·have b1:=decide_eq_false h
  have HK:Hid (kb=false):=by show _=_;rw [← HKB.out];unfold keepsB;rw [b1];rfl
  clear h
  gi_wp2_with (first | ((gi_at_call 58;refine CallsIn.mono (by (with_reducible exact j1 _)) ?_;rintro e w1 ⟨rfl,hw1⟩;replace hw1:=hw1.symm;subst hw1)) | gi_in)
  all_goals (go_ret;exact⟨by rw [HK.out]<;>rfl,nV⟩)
end Go.Proofs.Ytedomogjmhommaa
namespace Go.Con
open Go Go.Conc
section
variable [Lone] {P:Program} {E D:Nat→Prop}
variable {maps:Bool} {Fz Arg:Nat→Prop} {W0:World} {ρ:Rn} {own A:Nat→Prop} {fr:Frame} {cs:List Frame} {W W' : World}
end
theorem Rch.not {W:World} {n:Nat} {roots X:Nat→Prop} {b:Nat} (hn:n≤b) (hr:¬ roots b) (hx:¬ X b):¬ Rch W n roots X b:=by
 intro h
 cases h with
 | glob h=>omega
 | root h=>exact hr h
 | cell _ _ _ _ h=>exact hx h
 | entry _ _ _ _ _ h=>exact hx h
end Go.Con
namespace Go.Proofs.Ytedomogjmhommaa
open Go.RowKit Go.Con Go.Conc
noncomputable def b9:Code:=match Try.f9.body with | some c=>c | none=>.skip
end Go.Proofs.Ytedomogjmhommaa
namespace Go.Proofs.Ytedomogjmhommaa
open Go.RowKit Go.Con Go.Conc
local instance dryI85:Lone:=dryL
theorem nx_tape {w w' : World} {τ:Tape} (n:Nx { w with tape:=τ } w'):OldC w w':=.heap n.size fun b hb=>n.block b hb
theorem EW.tape {w:World} {p1:Nat} {r:R2} {τ:Tape} (h:EW w p1 r):EW { w with tape:=τ } p1 r:=h.oc (OldC.same rfl)
theorem dries_go (E Fz Arg:Nat→Prop) (W0:World) (Q:(Nat→Prop)→(Nat→Prop)→Goroutine→World→Prop) (φ:Ph) (c0:Frame) (cs:List Frame) (W:World) (t:Array Value) (hs:t.size=146)
  (hcont:∀ (φ1:Ph) (W1:World) (Fz1:Nat→Prop),OldC W W1→GoM Try.prog true E Fz1 Arg W0 Q φ1 [] (c0.finish (.bool true)) cs W1) :
  GoM Try.prog true E Fz Arg W0 Q φ [] (Fr 17 t [.code b17]) (c0 :: cs) W:=by
 rw [b17_eq]
 refine Gm.seq ?_
 refine Gm.lone (F:=FW) (fun t1 W1=>t1.size=146∧W1.heap=W.heap) rfl rfl trivial FW_ok (by kernel_rfl) (by kernel_rfl) (fun τ=>?_) ?_
 ·refine wpIn_mono (dr0 t hs { W with tape:=τ }) ?_
  rintro e a w' ⟨k1,k2,k3,rfl⟩
  exact⟨k1,k2,k3,rfl⟩
 rintro t0 Wa ⟨s0,hWa⟩
 have oa:OldC W Wa:=OldC.same hWa
 clear hs hWa
 refine Gm.seq ?_
 refine Gm.lone (F:=FW) (fun t1 W1=>(∃ p1 r,(t1.size=146∧t1[1]?=some (ptr p1))∧EW W1 p1 r)∧OldC Wa W1) rfl rfl trivial FW_ok (by kernel_rfl) (by kernel_rfl) (fun τ=>?_) ?_
 ·refine wpIn_mono (dr1 t0 s0 { Wa with tape:=τ }) ?_
  rintro e a w' ⟨k1,k2,p1,r,k3,k4,k5⟩
  exact⟨k1,k2,⟨p1,r,k3,k4⟩,nx_tape k5⟩
 rintro t1 W1 ⟨⟨p1,r,⟨s1,m1⟩,hE⟩,o1⟩
 have o1:=oa.trans o1
 clear oa s0
 refine Gm.seq ?_
 refine Gm.lone (F:=FW) (fun t2 W2=>(t2.size=146∧t2[1]?=some (ptr p1)∧t2[2]?=some (num 2)∧t2[3]?=some (.bool true)∧t2[4]?=some (num 0))∧OldC W1 W2) rfl rfl trivial FW_ok (by kernel_rfl) (by kernel_rfl) (fun τ=>?_) ?_
 ·refine wpIn_mono (dr2 p1 r t1 s1 m1 { W1 with tape:=τ } hE.tape) ?_
  rintro e a w' ⟨k1,k2,k3,k4⟩
  exact⟨k1,k2,k3,nx_tape k4⟩
 rintro t2 W2 ⟨⟨s2,n1,n2,n3,n4⟩,o2⟩
 have hE2:=hE.oc o2
 have o2:=o1.trans o2
 clear o1 hE s1 m1
 refine Gm.seq ?_
 refine Gm.lone (F:=FW) (fun t3 W3=>∃ v5,(t3.size=146∧t3[1]?=some (ptr p1)∧t3[2]?=some (num 2)∧t3[3]?=some (.bool true)∧t3[4]?=some (num 0)∧t3[5]?=some v5∧t3[6]?=some (.bool true)∧t3[7]?=some (num 0))∧OldC W2 W3∧SetsSl W3 v5 (safeF exD).1) rfl rfl trivial FW_ok (by kernel_rfl) (by kernel_rfl) (fun τ=>?_) ?_
 ·refine wpIn_mono (dr3 p1 r t2 s2 n1 n2 n3 n4 { W2 with tape:=τ } hE2.tape) ?_
  rintro e a w' ⟨k1,k2,v5,k3,k4,k5⟩
  exact⟨k1,k2,v5,k3,nx_tape k4,k5⟩
 rintro t3 W3 ⟨v5,⟨s3,m1,m2,m3,m4,m5,m6,m7⟩,o3,hv5⟩
 have hE3:=hE2.oc o3
 have o3:=o2.trans o3
 clear o2 hE2 s2 n1 n2 n3 n4
 refine Gm.seq ?_
 rw [x17_4_eq]
 refine Gm.region ?_
 rw [show List.range ops17_4.size=[0,1,2,3,4,5,6,7,8] by kernel_rfl]
 refine Gm.op (o:=⟨some 35,.load 27 (.tmp 1),_,_,_,none⟩) (exD.val r) W3 rfl rfl (by kernel_rfl) rfl (load27_run _ (eval_tmp m1) hE3.box) id ?_
 refine Gm.enter (o:=⟨some 36,.call { callee:=.value (.func 23),args:=#[.tmp 35],argTypes:=#[27] },_,_,_,none⟩) (c:={ callee:=.value (.func 23),args:=#[.tmp 35],argTypes:=#[27] }) (g:=23) (fn:=Try.f23) (body:=b23) rfl rfl rfl rfl (by kernel_rfl) Try.func23 body23_of (by kernel_rfl) ?_
 obtain⟨ha,hcap,q1⟩:=hE3.sl.heats.cases
 obtain⟨sa,scap,q2⟩:=hE3.sl.steps.cases
 rw [List.length_map] at q1 q2
 obtain⟨rh,rs⟩:=r
 dsimp only at q1 q2
 subst q1 q2
 have e35:(Fr 17 (putD t3 (some 35) (exD.val ⟨.slice ha exD.heats.length hcap,.slice sa exD.steps.length scap⟩)) []).eval (.tmp 35)=exD.val ⟨.slice ha exD.heats.length hcap,.slice sa exD.steps.length scap⟩:=eval_tmp (by simp [putD,s3])
 refine blind_go E Fz Arg W0 Q φ _ (c0 :: cs) W3 exD ha sa hcap scap hE3.sl _ ?_ ?_ fun φ1 W4 Fz1 v8 o4 hv8=>?_
 ·simp [Try.ntmps23]
 ·simp [e35]
 rw [blind_ex] at hv8 ⊢
 rw [Fr_finish rfl]
 dsimp only
 change GoM Try.prog true E Fz1 Arg W0 Q φ1 [] (Fr 17 (putD (putD t3 (some 35) _) (some 36) (.tuple #[v8,.bool true,num 0])) _) (c0 :: cs) W4
 have hE4:=hE3.oc o4
 have hv5:=hv5.oc o4
 have o4:=o3.trans o4
 clear o3 hE3 e35
 refine Gm.op (o:=⟨some 34,.move (.tmp 36),_,_,_,none⟩) (.tuple #[v8,.bool true,num 0]) W4 rfl rfl (by kernel_rfl) rfl (mv_run _ (eval_tmp (by simp [putD,s3]))) id ?_
 refine Gm.op (o:=⟨some 37,.extract (.tmp 34) 0,_,_,_,none⟩) v8 W4 rfl rfl (by kernel_rfl) rfl (ext0_run (v:=.bool true) (z:=num 0) _ (eval_tmp (by simp [putD,s3]))) id ?_
 refine Gm.op (o:=⟨some 38,.extract (.tmp 34) 1,_,_,_,none⟩) (.bool true) W4 rfl rfl (by kernel_rfl) rfl (ext1_run (u:=v8) (z:=num 0) _ (eval_tmp (by simp [putD,s3]))) id ?_
 refine Gm.op (o:=⟨some 39,.extract (.tmp 34) 2,_,_,_,none⟩) (num 0) W4 rfl rfl (by kernel_rfl) rfl (ext2_run (u:=v8) (v:=.bool true) _ (eval_tmp (by simp [putD,s3]))) id ?_
 refine Gm.op (o:=⟨some 8,.assign (.tmp 37),_,_,_,none⟩) v8 W4 rfl rfl (by kernel_rfl) rfl (as_run _ (eval_tmp (by simp [putD,s3]))) id ?_
 refine Gm.op (o:=⟨some 9,.assign (.tmp 38),_,_,_,none⟩) (.bool true) W4 rfl rfl (by kernel_rfl) rfl (as_run _ (eval_tmp (by simp [putD,s3]))) id ?_
 refine Gm.op (o:=⟨some 10,.assign (.tmp 39),_,_,_,none⟩) (num 0) W4 rfl rfl (by kernel_rfl) rfl (as_run _ (eval_tmp (by simp [putD,s3]))) id ?_
 refine Gm.regionEnd ?_
 generalize ht4:putD _ (some 10) (num 0)=t4
 have s4:t4.size=146:=by rw [← ht4];simp [putD,s3]
 have n1:t4[1]?=some (ptr p1):=by rw [← ht4];simp [putD,m1]
 have n2:t4[2]?=some (num 2):=by rw [← ht4];simp [putD,m2]
 have n3:t4[3]?=some (.bool true):=by rw [← ht4];simp [putD,m3]
 have n4:t4[4]?=some (num 0):=by rw [← ht4];simp [putD,m4]
 have n5:t4[5]?=some v5:=by rw [← ht4];simp [putD,m5]
 have n6:t4[6]?=some (.bool true):=by rw [← ht4];simp [putD,m6]
 have n7:t4[7]?=some (num 0):=by rw [← ht4];simp [putD,m7]
 have n8:t4[8]?=some v8:=by rw [← ht4];simp [putD,s3]
 have n9:t4[9]?=some (.bool true):=by rw [← ht4];simp [putD,s3]
 have n10:t4[10]?=some (num 0):=by rw [← ht4];simp [putD,s3]
 clear ht4 s3 m1 m2 m3 m4 m5 m6 m7
 generalize (⟨.slice ha exD.heats.length hcap,.slice sa exD.steps.length scap⟩:R2)=r at hE4
 refine Gm.seq ?_
 refine Gm.lone (F:=FW) (fun t5 W5=>∃ v11,(t5.size=146∧t5[1]?=some (ptr p1)∧t5[2]?=some (num 2)∧t5[3]?=some (.bool true)∧t5[4]?=some (num 0)∧t5[5]?=some v5∧t5[6]?=some (.bool true)∧t5[7]?=some (num 0)∧t5[8]?=some v8∧t5[9]?=some (.bool true)∧t5[10]?=some (num 0)∧t5[11]?=some v11∧t5[12]?=some (num 1)∧t5[13]?=some (.bool true)∧t5[14]?=some (num 0))∧OldC W4 W5∧Sl W5 v11 1 (([0,0,0]:List Int).map one)) rfl rfl trivial FW_ok (by kernel_rfl) (by kernel_rfl) (fun τ=>?_) ?_
 ·refine wpIn_mono (dr5 p1 v5 v8 r t4 s4 n1 n2 n3 n4 n5 n6 n7 n8 n9 n10 { W4 with tape:=τ } hE4.tape) ?_
  rintro e a w' ⟨k1,k2,v11,k3,k4,k5⟩
  exact⟨k1,k2,v11,k3,nx_tape k4,k5⟩
 rintro t5 W5 ⟨v11,⟨s5,m1,m2,m3,m4,m5,m6,m7,m8,m9,m10,m11,m12,m13,m14⟩,o5,hv11⟩
 have hE5:=hE4.oc o5
 have hv5:=hv5.oc o5
 have hv8:=hv8.oc o5
 have o5:=o4.trans o5
 clear o4 hE4 s4 n1 n2 n3 n4 n5 n6 n7 n8 n9 n10
 refine Gm.seq ?_
 refine Gm.lone (F:=FW) (fun t6 W6=>∃ pa pb,(t6.size=146∧t6[1]?=some (ptr p1)∧t6[2]?=some (num 2)∧t6[3]?=some (.bool true)∧t6[4]?=some (num 0)∧t6[5]?=some v5∧t6[6]?=some (.bool true)∧t6[7]?=some (num 0)∧t6[8]?=some v8∧t6[9]?=some (.bool true)∧t6[10]?=some (num 0)∧t6[11]?=some v11∧t6[12]?=some (num 1)∧t6[13]?=some (.bool true)∧t6[14]?=some (num 0)∧t6[15]?=some (ptr pa)∧t6[16]?=some (ptr pb)∧t6[17]?=some (num 0))∧OldC W5 W6∧W6.heap[pa]?=some (.cells #[num 720,num 825] 45 (0,0))∧W6.heap[pb]?=some (.cells #[num 20,num 20] 45 (0,0))) rfl rfl trivial FW_ok (by kernel_rfl) (by kernel_rfl) (fun τ=>?_) ?_
 ·refine wpIn_mono (dr6 p1 v5 v8 v11 r t5 s5 m1 m2 m3 m4 m5 m6 m7 m8 m9 m10 m11 m12 m13 m14 { W5 with tape:=τ } hE5.tape) ?_
  rintro e a w' ⟨k1,k2,pa,pb,k3,k4,k5,k6⟩
  exact⟨k1,k2,pa,pb,k3,nx_tape k4,k5,k6⟩
 rintro t6 W6 ⟨pa,pb,⟨s6,n1,n2,n3,n4,n5,n6,n7,n8,n9,n10,n11,n12,n13,n14,n15,n16,n17⟩,o6,ga,gb⟩
 have hE6:=hE5.oc o6
 have hv5:=hv5.oc o6
 have hv8:=hv8.oc o6
 have hv11:=hv11.oc o6
 have ca0:W6.cell? ⟨pa,0,none⟩=some (num 720):=row_cell ga rfl
 have ca1:W6.cell? ⟨pa,1,none⟩=some (num 825):=row_cell ga rfl
 have cb0:W6.cell? ⟨pb,0,none⟩=some (num 20):=row_cell gb rfl
 have cb1:W6.cell? ⟨pb,1,none⟩=some (num 20):=row_cell gb rfl
 have o6:=o5.trans o6
 clear o5 hE5 s5 m1 m2 m3 m4 m5 m6 m7 m8 m9 m10 m11 m12 m13 m14 ga gb
 refine Gm.seq ?_
 refine Gm.lone (F:=FW) (fun t7 W7=>∃ v18,(t7.size=146∧t7[1]?=some (ptr p1)∧t7[2]?=some (num 2)∧t7[3]?=some (.bool true)∧t7[4]?=some (num 0)∧t7[5]?=some v5∧t7[6]?=some (.bool true)∧t7[7]?=some (num 0)∧t7[8]?=some v8∧t7[9]?=some (.bool true)∧t7[10]?=some (num 0)∧t7[11]?=some v11∧t7[12]?=some (num 1)∧t7[13]?=some (.bool true)∧t7[14]?=some (num 0)∧t7[15]?=some (ptr pa)∧t7[16]?=some (ptr pb)∧t7[17]?=some (num 0)∧t7[18]?=some v18∧t7[19]?=some (num 0))∧OldC W6 W7∧Sl W7 v18 2 (L32.map spc)) rfl rfl trivial FW_ok (by kernel_rfl) (by kernel_rfl) (fun τ=>?_) ?_
 ·refine wpIn_mono (dr7 p1 pa pb v5 v8 v11 r t6 s6 n1 n2 n3 n4 n5 n6 n7 n8 n9 n10 n11 n12 n13 n14 n15 n16 n17 { W6 with tape:=τ } hE6.tape) ?_
  rintro e a w' ⟨k1,k2,v18,k3,k4,k5⟩
  exact⟨k1,k2,v18,k3,nx_tape k4,k5⟩
 rintro t7 W7 ⟨v18,⟨s7,m1,m2,m3,m4,m5,m6,m7,m8,m9,m10,m11,m12,m13,m14,m15,m16,m17,m18,m19⟩,o7,hv18⟩
 have hv5:=hv5.oc o7
 have hv8:=hv8.oc o7
 have hv11:=hv11.oc o7
 have ca0:=o7.at ca0
 have ca1:=o7.at ca1
 have cb0:=o7.at cb0
 have cb1:=o7.at cb1
 have o7:=o6.trans o7
 clear o6 hE6 s6 n1 n2 n3 n4 n5 n6 n7 n8 n9 n10 n11 n12 n13 n14 n15 n16 n17
 refine Gm.seq (Gm.seq ?_)
 refine Gm.lone (F:=FW) (fun t8 W8=>P8 t8 p1 pa pb v5 v8 v11 v18∧W8.heap=W7.heap) rfl rfl trivial FW_ok (by kernel_rfl) (by kernel_rfl) (fun τ=>?_) ?_
 ·refine wpIn_mono (dr8 p1 pa pb v5 v8 v11 v18 t7 s7 m1 m2 m3 m4 m5 m6 m7 m8 m9 m10 m11 m12 m13 m14 m15 m16 m17 m18 m19 { W7 with tape:=τ }) ?_
  rintro e a w' ⟨k1,k2,k3,rfl⟩
  exact⟨k1,k2,k3,rfl⟩
 rintro t8 W8 ⟨⟨s8,n1,n2,n3,n4,n5,n6,n7,n8,n9,n10,n11,n12,n13,n14,n15,n16,n17,n18,n19,n85⟩,hW8⟩
 have o8:=OldC.same hW8
 have hv5:=hv5.oc o8
 have hv8:=hv8.oc o8
 have hv11:=hv11.oc o8
 have hv18:=hv18.oc o8
 have ca0:=o8.at ca0
 have ca1:=o8.at ca1
 have cb0:=o8.at cb0
 have cb1:=o8.at cb1
 have o8:=o7.trans o8
 clear o7 hW8 s7 m1 m2 m3 m4 m5 m6 m7 m8 m9 m10 m11 m12 m13 m14 m15 m16 m17 m18 m19
 refine Gm.cond (b:=false) (eval_tmp n85) rfl ?_
 refine Gm.skip (Gm.seq ?_)
 obtain⟨a8,k8,rfl⟩:=sl_len3 hv8
 obtain⟨a11,k11,rfl⟩:=sl_len3 hv11
 obtain⟨a18,k18,rfl⟩:=sl_len3 hv18
 obtain⟨vs,hvs,hlen,hel⟩:=hv5
 rw [ex_safe2] at hlen
 obtain⟨b5,o5,k5,rfl,u,cu,hu⟩:∃ b5 o5 k5,v5=.slice (some ⟨b5,o5,none⟩) 4 k5∧∃ u,W8.cell? ⟨b5,o5+2,none⟩=some u∧Sl W8 u 3 (L46.map St.cells):=by
  obtain⟨cap,⟨h1,_⟩ | ⟨b,off,rfl,_,hc⟩⟩:=hvs
  ·have:vs=[]:=by simpa using h1
   rw [this] at hlen;cases hlen
  ·refine⟨b,off,cap,by rw [List.length_map,hlen],?_⟩
   have hu2:vs[2]?=some (vs[2]'(by omega)):=List.getElem?_eq_getElem _
   refine⟨_,?_,hel 2 _ L46 hu2 ex_safe3⟩
   have:=hc 2 0 [vs[2]'(by omega)] _ (by rw [List.getElem?_map,hu2];rfl) rfl
   exact this
 obtain⟨ua,uc,rfl⟩:=sl_len3 hu
 refine Gm.lone (F:=FW) (fun t9 W9=>t9[0]?=some (.bool true)∧OldC W8 W9) rfl rfl trivial FW_ok (by kernel_rfl) (by kernel_rfl) (fun τ=>?_) ?_
 ·refine wpIn_mono (dr10 pa pb b5 o5 k5 k8 k11 k18 a8 a11 a18 t8 ⟨s8,n2,n3,n5,n6,n8,n9,n11,n12,n13,n15,n16,n18⟩ { W8 with tape:=τ } uc ua cu (hu.oc (OldC.same rfl)) (hv8.oc (OldC.same rfl)) (hv11.oc (OldC.same rfl)) (hv18.oc (OldC.same rfl)) ca0 ca1 cb0 cb1) ?_
  rintro e a w' ⟨k1,k2,k3,k4⟩
  exact⟨k1,k2,k3,nx_tape k4⟩
 rintro t9 W9 ⟨h0,o9⟩
 refine Gm.ret Try.func17 (results17 (.bool true) t9 h0) ?_
 exact hcont φ1 W9 Fz1 (o8.trans o9)
end Go.Proofs.Ytedomogjmhommaa
namespace Go.Proofs.Ytedomogjmhommaa
open Go.RowKit Go.Con Go.Conc
local instance dryI88:Lone:=dryL
theorem wanted_guard {ops:Array Oper} {o:Oper} {i d:Nat} {b:Bool} {t:Array Value} (hg:o.guard=some (i,b)) (hd:(ops[i]?).bind (·.dst)=some d) (hv:t[d]?=some (.bool b)):Region.wanted o (yielded ops t)=true:=by
 unfold Region.wanted yielded
 simp [hg,hd,hv]
section
variable {dst:Option Nat} {ty:TypeId} {pos:String} {af:Array Edge} {gd:Option (Nat×Bool)} {x y:Nat}
theorem pick_run (e:Operand→Value) {w:World} {v c:Value} (h:e (.tmp x)=.bool true) (h2:e (.tmp y)=v) (τ:Tape):(execOp e ⟨dst,.pick (.tmp x) (.tmp y) (.const c),ty,pos,af,gd⟩).run Try.prog { w with tape:=τ }=.ok (.value v) { w with tape:=τ }:=by
 simp [execOp,go_sem,h,h2]
end
theorem body17_of:Try.f17.body=some b17:=by kernel_rfl
end Go.Proofs.Ytedomogjmhommaa
namespace Go.Proofs.Ytedomogjmhommaa
open Go.RowKit Go.Con Go.Conc Go.ChangeShapes Go.WideShapes Go.ChangeAt
local instance dryI89:Lone:=dryL
def Kind (W:World) (v:Value):Prop:=∀ a n c,v=.slice (some a) n c→∃ cs e fz,W.heap[a.block]?=some (.cells cs e fz)
abbrev three (x:Int×Int×Int):List Value:=[num x.1,num x.2.1,num x.2.2]
theorem add_none (b off k:Nat):(⟨b,off,none⟩:Addr).add k=⟨b,off+k,none⟩:=by
 unfold Addr.add
 split
 ·rename_i h;subst h;rfl
 ·rfl
theorem list_of {α:Type} {p:Nat→α→Prop}:∀ n:Nat,(∀ i,i<n→∃ z,p i z)→∃ l:List α,l.length=n∧∀ i z,l[i]?=some z→p i z
 | 0,_=>⟨[],rfl,fun i z h=>by simp at h⟩
 | n+1,h=>by
  obtain⟨l,h1,h2⟩:=list_of n fun i hi=>h i (by omega)
  obtain⟨z,hz⟩:=h n (by omega)
  refine⟨l++[z],by simp [h1],fun i y hy=>?_⟩
  rcases Nat.lt_or_ge i l.length with hi | hi
  ·rw [List.getElem?_append_left hi] at hy
   exact h2 i y hy
  ·rw [List.getElem?_append_right hi] at hy
   have h0:i-l.length=0:=by
    have:=(List.getElem?_eq_some_iff.1 hy).1
    simp at this;omega
   rw [h0] at hy
   simp at hy
   have:i=n:=by omega
   subst this;subst hy;exact hz
section
variable {H:Type} {enc:TypeId×Value→H} {W:World}
noncomputable abbrev trodW (enc:TypeId×Value→H) (W:World):=DataW.trod enc Try.prog W 0 (fun _=>true) true
def Fits (t:TypeId) (d:DataW H):Prop:=∀ n∈d.weights Try.prog t,n≤reachBytes
theorem weightsAll_mem {e:TypeId} {n:Nat}:∀ {ds:List (DataW H)} {d:DataW H},d∈ds→n∈d.weights Try.prog e→n∈DataW.weightsAll Try.prog e ds
 | x :: ds,d,hd,hn=>by
  unfold DataW.weightsAll
  rcases List.mem_cons.1 hd with rfl | hd
  ·exact List.mem_append_left _ hn
  ·exact List.mem_append_right _ (weightsAll_mem hd hn)
theorem sl_open {α:Type} {en:α→List Value} {ok:α→Prop} {t e:TypeId} {fuel:Nat} {v:Value} {x:DataW H×List MemPlace} (ht:Try.prog.underlying t=some (.slice e)) (hbe:1≤Try.prog.bytesOf e)
  (hE:∀ n cs' y,trodW enc W n e cs'=some y→Fits e y.1→∃ z:α,cs'=en z∧ok z) (h:trodW enc W fuel t [v]=some x) (hfit:Fits t x.1) (hv:Cell.okWide Try.prog W .any 0 t v) :
  ∃ l:List α,Sl W v (Try.prog.cellsOf e) (l.map en)∧Kind W v∧l.length≤reachBytes∧∀ z∈l,ok z:=by
 rcases DataW.trod_slice ht h with ⟨h1,_⟩ | ⟨a,len,cap,elems,rest,n,_,h1,hxx,_,hl,hm,hlen,hel,_,_⟩
 ·simp only [List.cons.injEq,and_true] at h1
  subst h1
  exact⟨[],⟨0,.inl ⟨rfl,rfl⟩⟩,fun a n k e=>(by cases e),Nat.zero_le _,fun z hz=>by cases hz⟩
 ·simp only [List.cons.injEq,and_true] at h1
  subst h1
  subst hxx
  have hwt:(DataW.slice (elems.map (·.1)) (rest.map (·.1)):DataW H).weights Try.prog t=((elems.map (·.1)).length+(rest.map (·.1)).length) * Try.prog.bytesOf e :: (DataW.weightsAll Try.prog e (elems.map (·.1))++DataW.weightsAll Try.prog e (rest.map (·.1))):=by
   unfold DataW.weights
   rw [ht]
  unfold Fits at hfit
  dsimp only at hfit
  rw [hwt] at hfit
  have hlb:len≤reachBytes:=by
   have h1:=hfit _ (List.mem_cons_self ..)
   rw [List.length_map,List.length_map,hlen] at h1
   refine Nat.le_trans ?_ h1
   refine Nat.le_trans (Nat.le_add_right len rest.length) ?_
   exact Nat.le_mul_of_pos_right _ hbe
  have hef:∀ y∈elems,Fits e y.1:=fun y hy m hm=>hfit m (List.mem_cons_of_mem _ (List.mem_append_left _ (weightsAll_mem (List.mem_map_of_mem hy) hm)))
  simp only [Cell.okWide,ht,Cell.ok] at hv
  obtain⟨_,_,_,hs,row,cells,hsh,_⟩:=hv
  obtain⟨b,off,spot⟩:=a
  dsimp only at hs hsh
  subst hs
  have hcells:∃ cs e fz,W.heap[b]?=some (.cells cs e fz):=by
   unfold World.shape? at hsh
   split at hsh
   ·rename_i c e f hc;exact⟨_,_,_,hc⟩
   ·cases hsh
  obtain⟨l,hl1,hl2⟩:=list_of (p:=fun i (z:α)=>ok z∧∀ k y,(en z)[k]?=some y→W.cell? ⟨b,off+i * Try.prog.cellsOf e+k,none⟩=some y) len fun i hi=>by
   have h2:=hel i hi
   rw [List.getElem?_eq_getElem (by omega)] at h2
   obtain⟨cs',h3,h4⟩:=Option.bind_eq_some_iff.1 h2
   obtain⟨z,rfl,hz⟩:=hE _ _ _ h4 (hef _ (List.getElem_mem _))
   obtain⟨_,hn,hc⟩:=World.cells?_some h3
   refine⟨z,hz,fun k y hk=>?_⟩
   have hkl:=(List.getElem?_eq_some_iff.1 hk).1
   have:=hc k (by omega)
   rw [add_none,add_none,hk] at this
   exact this
  have hlt:b<W.heap.size:=by
   obtain⟨_,_,_,hc⟩:=hcells
   exact (Array.getElem?_eq_some_iff.1 hc).1
  refine⟨l,⟨cap,.inr ⟨b,off,by rw [List.length_map,hl1],hlt,fun j k z y hj hk=>?_⟩⟩,fun a n k e=>?_,by omega,fun z hz=>?_⟩
  ·rw [List.getElem?_map] at hj
   obtain⟨z',hz',rfl⟩:=Option.map_eq_some_iff.1 hj
   exact (hl2 j z' hz').2 k y hk
  ·cases e;exact hcells
  ·obtain⟨i,hi⟩:=List.mem_iff_getElem?.1 hz
   exact (hl2 i z hi).1
theorem read_num {t:TypeId} (ht:Try.prog.underlying t=some (.int .i64)) {n:Nat} {cs:List Value} {y:DataW H×List MemPlace} (h:trodW enc W n t cs=some y):∃ k:Int,cs=[num k]∧True:=by
 obtain⟨k,h1,_,h3⟩:=DataW.trod_int ht h
 exact⟨k,h1,trivial⟩
theorem read_bool {n:Nat} {cs:List Value} {y:DataW H×List MemPlace} (h:trodW enc W n 4 cs=some y):∃ b:Bool,cs=[.bool b]∧True:=by
 obtain⟨b,h1,_⟩:=DataW.trod_bool Try.underlying4 h
 exact⟨b,h1,trivial⟩
theorem read_two {t:TypeId} {f0 f1:Field} (ht:Try.prog.underlying t=some (.struct #[f0,f1])) (t0:f0.type=3) (t1:f1.type=3) (o0:f0.offset=0) (o1:f1.offset=1) (hc:Try.prog.cellsOf t=2) {n:Nat} {cs:List Value} {y:DataW H×List MemPlace} (h:trodW enc W n t cs=some y) :
  ∃ z:Int×Int,cs=two z∧True:=by
 obtain⟨xs,m,_,_,hl,hx,hf⟩:=DataW.trod_struct ht h
 have c3:Try.prog.cellsOf 3=1:=by kernel_rfl
 rw [hc] at hl
 match cs,hl with
 | [u,v],_ =>
  have h0:=hf 0 f0 rfl
  have h1:=hf 1 f1 rfl
  rw [t0,o0,c3,List.getElem?_eq_getElem (by rw [hx];simp)] at h0
  rw [t1,o1,c3,List.getElem?_eq_getElem (by rw [hx];simp)] at h1
  obtain⟨k,e0,_⟩:=read_num Try.underlying3 h0
  obtain⟨k',e1,_⟩:=read_num Try.underlying3 h1
  simp at e0 e1
  exact⟨(k,k'),by rw [e0,e1],trivial⟩
theorem read_three {t:TypeId} {f0 f1 f2:Field} (ht:Try.prog.underlying t=some (.struct #[f0,f1,f2])) (t0:f0.type=3) (t1:f1.type=3) (t2:f2.type=3) (o0:f0.offset=0) (o1:f1.offset=1) (o2:f2.offset=2) (hc:Try.prog.cellsOf t=3) {n:Nat} {cs:List Value} {y:DataW H×List MemPlace}
  (h:trodW enc W n t cs=some y):∃ z:Int×Int×Int,cs=three z∧True:=by
 obtain⟨xs,m,_,_,hl,hx,hf⟩:=DataW.trod_struct ht h
 have c3:Try.prog.cellsOf 3=1:=by kernel_rfl
 rw [hc] at hl
 match cs,hl with
 | [u,v,s],_ =>
  have h0:=hf 0 f0 rfl
  have h1:=hf 1 f1 rfl
  have h2:=hf 2 f2 rfl
  rw [t0,o0,c3,List.getElem?_eq_getElem (by rw [hx];simp)] at h0
  rw [t1,o1,c3,List.getElem?_eq_getElem (by rw [hx];simp)] at h1
  rw [t2,o2,c3,List.getElem?_eq_getElem (by rw [hx];simp)] at h2
  obtain⟨k,e0,_⟩:=read_num Try.underlying3 h0
  obtain⟨k',e1,_⟩:=read_num Try.underlying3 h1
  obtain⟨k2,e2,_⟩:=read_num Try.underlying3 h2
  simp at e0 e1 e2
  exact⟨(k,k',k2),by rw [e0,e1,e2],trivial⟩
theorem read_step {n:Nat} {cs:List Value} {y:DataW H×List MemPlace} (h:trodW enc W n 59 cs=some y):∃ z:Stp,cs=z.cells∧True:=by
 obtain⟨xs,m,_,_,hl,hx,hf⟩:=DataW.trod_struct Try.underlying59 h
 have c3:Try.prog.cellsOf 3=1:=by kernel_rfl
 have c4:Try.prog.cellsOf 4=1:=by kernel_rfl
 have c45:Try.prog.cellsOf 45=2:=by kernel_rfl
 rw [show Try.prog.cellsOf 59=6 by kernel_rfl] at hl
 match cs,hl with
 | [u0,u1,u2,u3,u4,u5],_ =>
  have h0:=hf 0 ⟨ "Damp",45,0,false,"","",0⟩ rfl
  have h1:=hf 1 ⟨ "Tended",4,2,false,"","",16⟩ rfl
  have h2:=hf 2 ⟨ "Water",45,3,false,"","",24⟩ rfl
  have h3:=hf 3 ⟨ "Colour",3,5,false,"","",40⟩ rfl
  rw [List.getElem?_eq_getElem (by rw [hx];simp)] at h0 h1 h2 h3
  dsimp only at h0 h1 h2 h3
  rw [c45] at h0 h2
  rw [c4] at h1
  rw [c3] at h3
  obtain⟨⟨k0,k1⟩,e0,_⟩:=read_two Try.underlying45 rfl rfl rfl rfl c45 h0
  obtain⟨k2,e1,_⟩:=read_bool h1
  obtain⟨⟨k3,k4⟩,e2,_⟩:=read_two Try.underlying45 rfl rfl rfl rfl c45 h2
  obtain⟨k5,e3,_⟩:=read_num Try.underlying3 h3
  simp at e0 e1 e2 e3
  exact⟨⟨k0,k1,k2,k3,k4,k5⟩,by rw [e0.1,e0.2,e1,e2.1,e2.2,e3],trivial⟩
structure DryIn (W:World) (d:Dry) (r:R2):Prop where
 heats:Sl W r.h 2 (d.heats.map two)
 steps:Sl W r.s 6 (d.steps.map Stp.cells)
 kh:Kind W r.h
 ks:Kind W r.s
 hl:d.heats.length≤140737488355328
 sl:d.steps.length≤140737488355328
theorem dry_open {v:Value} {dd:DataW H} {p:List MemPlace} {base:Nat} (hv:Value.okWide Try.prog W .any base 27 v) (h:DataW.Trod enc Try.prog W 0 (fun _=>true) true 27 v dd p) (hfit:Fits 27 dd) :
  ∃ (d:Dry) (r:R2),v=d.val r∧DryIn W d r:=by
 simp only [Value.okWide,Try.underlying27] at hv
 obtain⟨cs,rfl,hsz,ts,hts,_,hcell⟩:=hv
 rw [show Try.prog.cellTypes Try.prog.depth 27=some [22,3,3,3,3,3,25] by kernel_rfl] at hts
 cases hts
 rw [show Try.prog.cellsOf 27=7 by kernel_rfl] at hsz
 obtain⟨fuel,hf⟩:=h
 simp only [Value.cells] at hf
 obtain⟨xs,m,_,hyy,_,hx,hg⟩:=DataW.trod_struct Try.underlying27 hf
 simp only [Prod.mk.injEq] at hyy
 obtain⟨rfl,rfl⟩:=hyy
 have hwt:(DataW.agg (xs.map (·.1)):DataW H).weights Try.prog 27=DataW.weightsEach Try.prog [22,3,3,24,25] (xs.map (·.1)):=by
  unfold DataW.weights
  rw [Try.underlying27]
  rfl
 unfold Fits at hfit
 rw [hwt] at hfit
 have hx0:∀ (i:Nat) (y:DataW H×List MemPlace) (t:TypeId),xs[i]?=some y→([22,3,3,24,25]:List TypeId)[i]?=some t→Fits t y.1:=fun i y t hy ht m hm=>hfit m (DataW.weights_mem_each ht (by rw [List.getElem?_map,hy];rfl) m hm)
 obtain⟨l⟩:=cs
 simp only [List.size_toArray] at hsz
 match l,hsz with
 | [u0,u1,u2,u3,u4,u5,u6],_ =>
  have c3:Try.prog.cellsOf 3=1:=by kernel_rfl
  have c22:Try.prog.cellsOf 22=1:=by kernel_rfl
  have c24:Try.prog.cellsOf 24=3:=by kernel_rfl
  have c25:Try.prog.cellsOf 25=1:=by kernel_rfl
  have g0:=hg 0 ⟨ "Heats",22,0,false,"","",0⟩ rfl
  have g1:=hg 1 ⟨ "Soak",3,1,false,"","",24⟩ rfl
  have g2:=hg 2 ⟨ "Brittle",3,2,false,"","",32⟩ rfl
  have g3:=hg 3 ⟨ "Start",24,3,false,"","",40⟩ rfl
  have g4:=hg 4 ⟨ "Steps",25,6,false,"","",64⟩ rfl
  rw [List.getElem?_eq_getElem (by rw [hx];simp)] at g0 g1 g2 g3 g4
  dsimp only at g0 g1 g2 g3 g4
  rw [c22] at g0;rw [c3] at g1 g2;rw [c24] at g3;rw [c25] at g4
  simp only [List.drop_succ_cons,List.drop_zero,List.take_succ_cons,List.take_zero] at g0 g1 g2 g3 g4
  have kc:∀ (i:Nat) (y:Value) (t:TypeId),(#[u0,u1,u2,u3,u4,u5,u6]:Array Value)[i]?=some y→([22,3,3,3,3,3,25]:List TypeId)[i]?=some t→i<7→Cell.okWide Try.prog W .any 0 t y:=by
   intro i y t hy ht hi
   obtain⟨t',h1,h2⟩:=hcell i y hy
   have:i % ([22,3,3,3,3,3,25]:List TypeId).length=i:=Nat.mod_eq_of_lt hi
   rw [this,ht] at h1
   cases h1
   exact h2
  obtain⟨lh,a1,a3,a4,a5⟩:=sl_open (en:=two) (ok:=fun _=>True) Try.underlying22 (by decide +kernel) (fun n cs' y h hff=>read_two Try.underlying135 rfl rfl rfl rfl (by kernel_rfl) h) g0 (hx0 0 _ _ (List.getElem?_eq_getElem _) rfl) (kc 0 _ _ rfl rfl (by decide))
  obtain⟨ls,b1,b3,b4,b5⟩:=sl_open (en:=Stp.cells) (ok:=fun _=>True) Try.underlying25 (by decide +kernel) (fun n cs' y h hff=>read_step h) g4 (hx0 4 _ _ (List.getElem?_eq_getElem _) rfl) (kc 6 _ _ rfl rfl (by decide))
  obtain⟨n1,q1,_⟩:=read_num Try.underlying3 g1
  obtain⟨n2,q2,_⟩:=read_num Try.underlying3 g2
  obtain⟨⟨n3,n4,n5⟩,q3,_⟩:=read_three Try.underlying24 rfl rfl rfl rfl rfl rfl c24 g3
  simp only [List.cons.injEq,and_true] at q1 q2 q3
  obtain⟨rfl,rfl,rfl⟩:=q3
  subst q1 q2
  rw [show Try.prog.cellsOf 135=2 by kernel_rfl] at a1
  rw [show Try.prog.cellsOf 59=6 by kernel_rfl] at b1
  exact⟨⟨lh,n1,n2,⟨n3,n4,n5⟩,ls⟩,⟨u0,u6⟩,rfl,a1,b1,a3,b3,Nat.le_trans a4 (by decide),Nat.le_trans b4 (by decide)⟩
end
end Go.Proofs.Ytedomogjmhommaa
