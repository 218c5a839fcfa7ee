/- For every drying, step and state the law DryChooses returns true, does not panic, and leaves what came in as it was. Conditions: none but those of the statement itself. -/
import Derived.Test.YtedomogjmhommaaE05
set_option linter.all false
set_option maxRecDepth 100000
set_option maxHeartbeats 8000000
namespace Go.Proofs.Ytedomogjmhommaa
open Go.RowKit Go.Con Go.Conc
local instance dryI93:Lone:=dryL
noncomputable def ops3_2:Array Oper:=opsOf x3_2
theorem x3_2_eq:x3_2=.region 2 ops3_2 false:=by kernel_rfl
noncomputable def ops3_9:Array Oper:=opsOf x3_9
theorem x3_9_eq:x3_9=.region 9 ops3_9 false:=by kernel_rfl
noncomputable def b22:Code:=match Try.f22.body with | some c=>c | none=>.skip
theorem body22_of:Try.f22.body=some b22:=by kernel_rfl
theorem results3 (v:Value) (t:Array Value) (h:t[6]?=some v) (σ:Rn):ResultsC Try.prog Try.f3 (t.map (ren σ)) (ren σ v):=by
 have:=resultsC_tmp (P:=Try.prog) (fn:=Try.f3) (t:=6) rfl (t.map (ren σ))
 simp only [Array.getD_eq_getD_getElem?,Array.getElem?_map,h,Option.map_some,Option.getD_some] at this
 exact this
section
variable {dst:Option Nat} {ty:TypeId} {pos:String} {af:Array Edge} {gd:Option (Nat×Bool)} {x y:Nat}
theorem eq4_run (e:Operand→Value) {w:World} {n:Bool} (h:e (.tmp x)=.bool n) (h2:e (.tmp y)=.bool n) (τ:Tape):(execOp e ⟨dst,.binOp .eql 4 (.tmp x) (.tmp y) 4,ty,pos,af,gd⟩).run Try.prog { w with tape:=τ }=.ok (.value (.bool true)) { w with tape:=τ }:=by
 simp [execOp,go_sem,h,h2]
end
theorem safe_small (d:Dry):(safeF d).1.length≤1000000000∧(∀ l∈(safeF d).1,l.length≤1000000000)∧∀ l∈(safeF d).1,∀ s∈l,StI s:=by
 unfold safeF
 by_cases h:dryF d=0
 ·rw [if_neg (fun h1=>h1 h)]
  by_cases h0:chooseS d d.steps d.start<0
  ·rw [if_pos h0]
   exact⟨Nat.zero_le _,fun l hl=>absurd hl (List.not_mem_nil),fun l hl=>absurd hl (List.not_mem_nil)⟩
  ·rw [if_neg h0]
   have hO:d.Ok:=dryF_ok h
   have h5:=hO.s5
   have h4:=hO.h4
   refine⟨?_,fun l hl=>?_,fun l hl s hs=>?_⟩
   ·simp only [List.length_map,List.length_range]
    omega
   ·obtain⟨i,hi,rfl⟩:=List.mem_map.1 hl
    have:=setAt_len5 hO (i:=i) (by have:=List.mem_range.1 hi;omega)
    omega
   ·obtain⟨i,hi,rfl⟩:=List.mem_map.1 hl
    have hk:=(set_safe hO (by omega) i (by have:=List.mem_range.1 hi;omega) s hs).1
    obtain⟨⟨a1,a2⟩,⟨b1,b2⟩,c1,c2⟩:=hk
    exact⟨⟨by omega,by omega⟩,⟨by omega,by omega⟩,⟨by omega,by omega⟩⟩
 ·rw [if_pos h]
  exact⟨Nat.zero_le _,fun l hl=>absurd hl (List.not_mem_nil),fun l hl=>absurd hl (List.not_mem_nil)⟩
theorem chooses_go (E Fz Arg:Nat→Prop) (W0:World) (Post:Value→World→Prop) (φ:Ph) (W:World) (d:Dry) (ha sa:Option Addr) (hcap scap:Nat) (step:Int) (s:St) (hst : -9223372036854775808≤step∧step≤9223372036854775807)
  (hh:Sl W (.slice ha d.heats.length hcap) 2 (d.heats.map two)) (hss:Sl W (.slice sa d.steps.length scap) 6 (d.steps.map Stp.cells)) (hl:d.heats.length≤140737488355328) (sl:d.steps.length≤140737488355328)
  (t:Array Value) (hs:t.size=75) (h0:t[0]?=some (d.val ⟨.slice ha d.heats.length hcap,.slice sa d.steps.length scap⟩)) (h1:t[1]?=some (num step)) (h2:t[2]?=some s.val)
  (hPost:∀ Fz1 ρ D own A fr W1 W',Here Try.prog true E Fz1 Arg W0 ρ D own A fr [] W1 W'→Post (ren ρ (.bool true)) W') :
  GoM Try.prog true E Fz Arg W0 (AtEnd Try.prog Post) φ [] (Fr 3 t [.code b3]) [] W:=by
 rw [b3_eq]
 refine Gm.seq ?_
 refine Gm.lone (F:=FW) (fun t1 W1=>(t1.size=75∧t1[1]?=some (num step)∧t1[3]?=some (ptr W.heap.size)∧t1[5]?=some (ptr (W.heap.size+1)))∧W1.heap=((W.alloc (.cells (d.cellsA ⟨.slice ha d.heats.length hcap,.slice sa d.steps.length scap⟩) 27)).alloc (.cells #[num s.w,num s.c,num s.h] 24)).heap) rfl rfl trivial FW_ok (by kernel_rfl) (by kernel_rfl) (fun τ=>?_) ?_
 ·refine wpIn_mono (f3_0 d ha sa d.heats.length hcap d.steps.length scap step s t hs h0 h1 h2 { W with tape:=τ }) ?_
  rintro e a w' ⟨k1,k2,k3,rfl⟩
  exact⟨k1,k2,k3,rfl⟩
 rintro t1 W1 ⟨⟨s1,m1,m3,m5⟩,hW1⟩
 obtain⟨nA,zA,gA,gB⟩:=al2 (w:=W) (o1:=.cells (d.cellsA ⟨.slice ha d.heats.length hcap,.slice sa d.steps.length scap⟩) 27 (0,0)) (o2:=.cells #[num s.w,num s.c,num s.h] 24 (0,0)) rfl
 have oA:OldC ((W.alloc (.cells (d.cellsA ⟨.slice ha d.heats.length hcap,.slice sa d.steps.length scap⟩) 27)).alloc (.cells #[num s.w,num s.c,num s.h] 24)) W1:=OldC.same hW1
 have o1:OldC W W1:=(OldC.nx nA).trans oA
 have hB:DBox W1 W.heap.size d ⟨.slice ha d.heats.length hcap,.slice sa d.steps.length scap⟩:=⟨by rw [hW1,zA];omega,fun i v hv=>oA.at (row_cell gA hv)⟩
 have q0:W1.cell? ⟨W.heap.size+1,0,none⟩=some (num s.w):=oA.at (row_cell gB rfl)
 have q1:W1.cell? ⟨W.heap.size+1,1,none⟩=some (num s.c):=oA.at (row_cell gB rfl)
 have q2:W1.cell? ⟨W.heap.size+1,2,none⟩=some (num s.h):=oA.at (row_cell gB rfl)
 have hh1:=hh.oc o1
 have hss1:=hss.oc o1
 clear nA zA gA gB oA o1 hW1 hh hss hs h0 h1 h2
 generalize W.heap.size+1=p2 at *
 generalize W.heap.size=p1 at m3 hB
 refine Gm.seq (Gm.seq ?_)
 refine Gm.lone (F:=FW) (fun t2 W2=>(t2.size=75∧t2[1]?=some (num step)∧t2[3]?=some (ptr p1)∧t2[5]?=some (ptr p2)∧t2[16]?=some (.bool (greatD d)))∧OldC W1 W2) rfl rfl trivial FW_ok (by kernel_rfl) (by kernel_rfl) (fun τ=>?_) ?_
 ·refine wpIn_mono (f3_1 d ⟨.slice ha d.heats.length hcap,.slice sa d.steps.length scap⟩ p1 p2 step t1 s1 m1 m3 m5 { W1 with tape:=τ } (hB.oc (OldC.same rfl)) (hh1.oc (OldC.same rfl)) (hss1.oc (OldC.same rfl)) hl sl) ?_
  rintro e a w' ⟨k1,k2,k3,k4⟩
  exact⟨k1,k2,k3,nx_tape k4⟩
 rintro t2 W2 ⟨⟨s2,n1,n3,n5,n16⟩,o2⟩
 by_cases hg:greatD d=true
 ·rw [hg] at n16
  refine Gm.cond (b:=true) (eval_tmp n16) rfl ?_
  refine Gm.seq ?_
  rw [x3_2_eq]
  refine Gm.region ?_
  rw [show List.range ops3_2.size=[0,1] by kernel_rfl]
  refine Gm.enter (o:=⟨some 17,.call { callee:=.value (.func 17),args:=#[],argTypes:=#[] },_,_,_,none⟩) (c:={ callee:=.value (.func 17),args:=#[],argTypes:=#[] }) (g:=17) (fn:=Try.f17) (body:=b17) rfl rfl rfl rfl (by kernel_rfl) Try.func17 body17_of (by kernel_rfl) ?_
  refine dries_go E Fz Arg W0 _ φ _ [] W2 _ ?_ fun φ1 W3 Fz1 o3=>?_
  ·simp [Try.ntmps17]
  rw [Fr_finish rfl]
  change GoM Try.prog true E Fz1 Arg W0 _ φ1 [] (Fr 3 (putD t2 (some 17) (.bool true)) _) [] W3
  refine Gm.op (o:=⟨some 6,.assign (.tmp 17),_,_,_,none⟩) (.bool true) W3 rfl rfl (by kernel_rfl) rfl (as_run _ (eval_tmp (by simp [putD,s2]))) id ?_
  refine Gm.regionEnd ?_
  refine Gm.done Try.func3 (by kernel_rfl) (results3 (.bool true) _ (by simp [putD,s2])) ?_
  exact fun ρ D own A fr W' h=>hPost _ ρ D own A fr _ W' h
 ·have hg' : greatD d=false:=by simpa using hg
  rw [hg'] at n16
  have hgl:d.heats.length≤40∧d.steps.length≤40:=by
   unfold greatD at hg'
   simp only [Bool.or_eq_false_iff,decide_eq_false_iff_not,Nat.not_lt] at hg'
   exact hg'
  refine Gm.cond (b:=false) (eval_tmp n16) rfl ?_
  refine Gm.skip (Gm.seq ?_)
  have hB2:=hB.oc o2
  have hd2:DrySl W2 d ⟨.slice ha d.heats.length hcap,.slice sa d.steps.length scap⟩:=⟨hh1.oc o2,hss1.oc o2,by omega,by omega⟩
  have q0:=o2.at q0
  have q1:=o2.at q1
  have q2:=o2.at q2
  clear hB hh1 hss1 o2 hg hg' n16 s1 m1 m3 m5
  generalize hr:(⟨.slice ha d.heats.length hcap,.slice sa d.steps.length scap⟩:R2)=r at *
  obtain⟨c,hc⟩:∃ c,chooseF d step s=c:=⟨_,rfl⟩
  refine Gm.lone (F:=FW) (fun t3 W3=>(t3.size=75∧t3[1]?=some (num step)∧t3[3]?=some (ptr p1)∧t3[5]?=some (ptr p2)∧t3[7]?=some (num c.1)∧t3[8]?=some (.bool c.2.1)∧t3[9]?=some (num c.2.2))∧OldC W2 W3) rfl rfl trivial FW_ok (by kernel_rfl) (by kernel_rfl) (fun τ=>?_) ?_
  ·refine wpIn_mono (f3_3 d r p1 p2 step s c t2 s2 n1 n3 n5 { W2 with tape:=τ } (hB2.oc (OldC.same rfl)) (hd2.oc (OldC.same rfl)) q0 q1 q2 hst hc) ?_
   rintro e a w' ⟨k1,k2,k3,k4⟩
   exact⟨k1,k2,k3,nx_tape k4⟩
  rintro t3 W3 ⟨⟨s3,m1,m3,m5,m7,m8,m9⟩,o3⟩
  have hB3:=hB2.oc o3
  have hd3:=hd2.oc o3
  have q0:=o3.at q0
  have q1:=o3.at q1
  have q2:=o3.at q2
  clear hB2 hd2 o3 s2 n1 n3 n5
  refine Gm.seq ?_
  refine Gm.lone (F:=FW) (fun t4 W4=>(t4.size=75∧t4[1]?=some (num step)∧t4[3]?=some (ptr p1)∧t4[5]?=some (ptr p2)∧t4[7]?=some (num c.1)∧t4[8]?=some (.bool c.2.1)∧t4[9]?=some (num c.2.2)∧t4[10]?=some (num c.1)∧t4[11]?=some (.bool c.2.1)∧t4[12]?=some (num c.2.2))∧OldC W3 W4) rfl rfl trivial FW_ok (by kernel_rfl) (by kernel_rfl) (fun τ=>?_) ?_
  ·refine wpIn_mono (f3_4 d r p1 p2 step s c t3 s3 m1 m3 m5 m7 m8 m9 { W3 with tape:=τ } (hB3.oc (OldC.same rfl)) (hd3.oc (OldC.same rfl)) q0 q1 q2 hst hc) ?_
   rintro e a w' ⟨k1,k2,k3,k4⟩
   exact⟨k1,k2,k3,nx_tape k4⟩
  rintro t4 W4 ⟨⟨s4,n1,n3,n5,n7,n8,n9,n10,n11,n12⟩,o4⟩
  have hB4:=hB3.oc o4
  have hd4:=hd3.oc o4
  clear hB3 hd3 o4 q0 q1 q2 s3 m1 m3 m5 m7 m8 m9
  refine Gm.seq (Gm.seq ?_)
  refine Gm.lone (F:=FW) (fun t5 W5=>(t5.size=75∧t5[1]?=some (num step)∧t5[3]?=some (ptr p1)∧t5[5]?=some (ptr p2)∧t5[46]?=some (.bool false))∧OldC W4 W5) rfl rfl trivial FW_ok (by kernel_rfl) (by kernel_rfl) (fun τ=>?_) ?_
  ·refine wpIn_mono (f3_5 p1 p2 step c t4 s4 n1 n3 n5 n7 n8 n9 n10 n11 n12 { W4 with tape:=τ }) ?_
   rintro e a w' ⟨k1,k2,k3,rfl⟩
   exact⟨k1,k2,k3,OldC.same rfl⟩
  rintro t5 W5 ⟨⟨s5,m1,m3,m5,m46⟩,o5⟩
  have hB5:=hB4.oc o5
  have hd5:=hd4.oc o5
  clear hB4 hd4 o5 s4 n1 n3 n5 n7 n8 n9 n10 n11 n12 hc c
  refine Gm.cond (b:=false) (eval_tmp m46) rfl ?_
  refine Gm.skip (Gm.seq ?_)
  have hsm:=safe_small d
  obtain⟨g,hgf⟩:∃ g,safeF d=g:=⟨_,rfl⟩
  rw [hgf] at hsm
  refine Gm.lone (F:=FW) (fun t6 W6=>∃ v,(t6.size=75∧t6[1]?=some (num step)∧t6[3]?=some (ptr p1)∧t6[5]?=some (ptr p2)∧t6[13]?=some v∧t6[8]?=some (.bool g.2.1)∧t6[9]?=some (num g.2.2))∧OldC W5 W6∧SetsSl W6 v g.1) rfl rfl trivial FW_ok (by kernel_rfl) (by kernel_rfl) (fun τ=>?_) ?_
  ·refine wpIn_mono (f3_7 d r p1 p2 step undef g t5 s5 m1 m3 m5 { W5 with tape:=τ } (hB5.oc (OldC.same rfl)) (hd5.oc (OldC.same rfl)) hgf) ?_
   rintro e a w' ⟨k1,k2,v,k3,k4,k5⟩
   exact⟨k1,k2,v,k3,nx_tape k4,k5⟩
  rintro t6 W6 ⟨v13,⟨s6,n1,n3,n5,n13,n8,n9⟩,o6,hv13⟩
  have hB6:=hB5.oc o6
  have hd6:=hd5.oc o6
  clear hB5 hd5 o6 s5 m1 m3 m5 m46
  refine Gm.seq ?_
  refine Gm.lone (F:=FW) (fun t7 W7=>∃ v,(t7.size=75∧t7[13]?=some v13∧t7[8]?=some (.bool g.2.1)∧t7[9]?=some (num g.2.2)∧t7[14]?=some v∧t7[11]?=some (.bool g.2.1)∧t7[12]?=some (num g.2.2))∧OldC W6 W7∧SetsSl W7 v g.1) rfl rfl trivial FW_ok (by kernel_rfl) (by kernel_rfl) (fun τ=>?_) ?_
  ·refine wpIn_mono (f3_8 d r p1 p2 step v13 g t6 s6 n1 n3 n5 n13 n8 n9 { W6 with tape:=τ } (hB6.oc (OldC.same rfl)) (hd6.oc (OldC.same rfl)) hgf) ?_
   rintro e a w' ⟨k1,k2,v,⟨i0,i1,i3,i5,i13,i8,i9,i14,i11,i12⟩,k4,k5⟩
   exact⟨k1,k2,v,⟨i0,i13,i8,i9,i14,i11,i12⟩,nx_tape k4,k5⟩
  rintro t7 W7 ⟨v14,⟨s7,m13,m8,m9,m14,m11,m12⟩,o7,hv14⟩
  have hv13:=hv13.oc o7
  clear hB6 hd6 o7 s6 n1 n3 n5 n13 n8 n9
  refine Gm.seq ?_
  rw [x3_9_eq]
  refine Gm.regionSeq (fun x=>OldC W7 x) (fun i=>([v13,v14,.bool true,.bool true,.bool g.2.1,.bool g.2.1,.bool true,.bool true,.bool true,num g.2.2,num g.2.2,.bool true,.bool true,.bool true,.bool true,.bool true,.bool true]:List Value).getD i undef) (by rw [s7];kernel_rfl) (OldC.refl _) ?_ ?_
  ·intro i hi t W Fz φ rest hC hsz hgot hold hk
   rw [show ops3_9.size=17 by kernel_rfl] at hi
   match i,hi with
   | 0,_ =>
    have e0:t[13]?=some (v13):=(hold 13 (by kernel_rfl)).trans m13
    exact Gm.op (v13) W rfl rfl (by kernel_rfl) rfl (mv_run _ (eval_tmp e0)) id (hk W Fz φ hC)
   | 1,_ =>
    have e0:t[14]?=some (v14):=(hold 14 (by kernel_rfl)).trans m14
    exact Gm.op (v14) W rfl rfl (by kernel_rfl) rfl (mv_run _ (eval_tmp e0)) id (hk W Fz φ hC)
   | 2,_ =>
    have e0:t[59]?=some v13:=hgot 0 59 (by kernel_rfl) (by kernel_rfl)
    have e1:t[60]?=some v14:=hgot 1 60 (by kernel_rfl) (by kernel_rfl)
    refine Gm.call (F:=FW) (n:=0) (j:=4) (o:=⟨some 61,.call { callee:=.value (.func 22),args:=#[.tmp 59,.tmp 60],argTypes:=#[33,33] },_,_,_,none⟩) (c:={ callee:=.value (.func 22),args:=#[.tmp 59,.tmp 60],argTypes:=#[33,33] }) (R:=fun v W'=>v=.bool true∧OldC W W') (args:=#[v13,v14]) rfl FW_ok rfl rfl rfl rfl (by kernel_rfl) Try.func22 body22_of (by kernel_rfl) (by kernel_rfl) (FW_ok 22 trivial (by kernel_rfl)) rfl ?_ (fun τ=>?_) ?_
    ·simp only [List.map_toArray,List.map_cons,List.map_nil,show (Fr 3 t []).eval (.tmp 59)=v13 from eval_tmp e0,show (Fr 3 t []).eval (.tmp 60)=v14 from eval_tmp e1]
    ·exact one_back (same22_any v13 v14 g.1 { W with tape:=τ } (hv13.oc (hC.trans (OldC.same rfl))) (hv14.oc (hC.trans (OldC.same rfl))) hsm.1 hsm.2.1 hsm.2.2)
    ·rintro v W' ⟨rfl,o⟩
     exact hk W' Fz φ (hC.trans o)
   | 3,_ =>
    have e0:t[61]?=some (.bool true):=hgot 2 61 (by kernel_rfl) (by kernel_rfl)
    exact Gm.op (.bool true) W rfl rfl (by kernel_rfl) rfl (mv_run _ (eval_tmp e0)) id (hk W Fz φ hC)
   | 4,_ =>
    have eg:t[62]?=some (.bool true):=hgot 3 62 (by kernel_rfl) (by kernel_rfl)
    have e0:t[8]?=some (.bool g.2.1):=(hold 8 (by kernel_rfl)).trans m8
    exact Gm.op (.bool g.2.1) W rfl (wanted_guard (i:=3) (b:=true) (d:=62) rfl rfl eg) (by kernel_rfl) rfl (mv_run _ (eval_tmp e0)) id (hk W Fz φ hC)
   | 5,_ =>
    have eg:t[62]?=some (.bool true):=hgot 3 62 (by kernel_rfl) (by kernel_rfl)
    have e0:t[11]?=some (.bool g.2.1):=(hold 11 (by kernel_rfl)).trans m11
    exact Gm.op (.bool g.2.1) W rfl (wanted_guard (i:=3) (b:=true) (d:=62) rfl rfl eg) (by kernel_rfl) rfl (mv_run _ (eval_tmp e0)) id (hk W Fz φ hC)
   | 6,_ =>
    have eg:t[62]?=some (.bool true):=hgot 3 62 (by kernel_rfl) (by kernel_rfl)
    have ea:t[63]?=some (.bool g.2.1):=hgot 4 63 (by kernel_rfl) (by kernel_rfl)
    have eb:t[64]?=some (.bool g.2.1):=hgot 5 64 (by kernel_rfl) (by kernel_rfl)
    exact Gm.op (.bool true) W rfl (wanted_guard (i:=3) (b:=true) (d:=62) rfl rfl eg) (by kernel_rfl) rfl (eq4_run _ (eval_tmp ea) (eval_tmp eb)) id (hk W Fz φ hC)
   | 7,_ =>
    have ea:t[62]?=some (.bool true):=hgot 3 62 (by kernel_rfl) (by kernel_rfl)
    have eb:t[65]?=some (.bool true):=hgot 6 65 (by kernel_rfl) (by kernel_rfl)
    exact Gm.op (.bool true) W rfl rfl (by kernel_rfl) rfl (pick_run _ (eval_tmp ea) (eval_tmp eb)) id (hk W Fz φ hC)
   | 8,_ =>
    have e0:t[66]?=some (.bool true):=hgot 7 66 (by kernel_rfl) (by kernel_rfl)
    exact Gm.op (.bool true) W rfl rfl (by kernel_rfl) rfl (mv_run _ (eval_tmp e0)) id (hk W Fz φ hC)
   | 9,_ =>
    have eg:t[67]?=some (.bool true):=hgot 8 67 (by kernel_rfl) (by kernel_rfl)
    have e0:t[9]?=some (num g.2.2):=(hold 9 (by kernel_rfl)).trans m9
    exact Gm.op (num g.2.2) W rfl (wanted_guard (i:=8) (b:=true) (d:=67) rfl rfl eg) (by kernel_rfl) rfl (mv_run _ (eval_tmp e0)) id (hk W Fz φ hC)
   | 10,_ =>
    have eg:t[67]?=some (.bool true):=hgot 8 67 (by kernel_rfl) (by kernel_rfl)
    have e0:t[12]?=some (num g.2.2):=(hold 12 (by kernel_rfl)).trans m12
    exact Gm.op (num g.2.2) W rfl (wanted_guard (i:=8) (b:=true) (d:=67) rfl rfl eg) (by kernel_rfl) rfl (mv_run _ (eval_tmp e0)) id (hk W Fz φ hC)
   | 11,_ =>
    have eg:t[67]?=some (.bool true):=hgot 8 67 (by kernel_rfl) (by kernel_rfl)
    have ea:t[68]?=some (num g.2.2):=hgot 9 68 (by kernel_rfl) (by kernel_rfl)
    have eb:t[69]?=some (num g.2.2):=hgot 10 69 (by kernel_rfl) (by kernel_rfl)
    exact Gm.op (.bool true) W rfl (wanted_guard (i:=8) (b:=true) (d:=67) rfl rfl eg) (by kernel_rfl) rfl (eq30_run _ (eval_tmp ea) (eval_tmp eb)) id (hk W Fz φ hC)
   | 12,_ =>
    have ea:t[67]?=some (.bool true):=hgot 8 67 (by kernel_rfl) (by kernel_rfl)
    have eb:t[70]?=some (.bool true):=hgot 11 70 (by kernel_rfl) (by kernel_rfl)
    exact Gm.op (.bool true) W rfl rfl (by kernel_rfl) rfl (pick_run _ (eval_tmp ea) (eval_tmp eb)) id (hk W Fz φ hC)
   | 13,_ =>
    have e0:t[71]?=some (.bool true):=hgot 12 71 (by kernel_rfl) (by kernel_rfl)
    exact Gm.op (.bool true) W rfl rfl (by kernel_rfl) rfl (mv_run _ (eval_tmp e0)) id (hk W Fz φ hC)
   | 14,_ =>
    have e8:t[72]?=some (.bool true):=hgot 13 72 (by kernel_rfl) (by kernel_rfl)
    refine Gm.enter (o:=⟨some 73,.call { callee:=.value (.func 17),args:=#[],argTypes:=#[] },_,_,_,some (13,true)⟩) (c:={ callee:=.value (.func 17),args:=#[],argTypes:=#[] }) (g:=17) (fn:=Try.f17) (body:=b17) rfl (wanted_guard (i:=13) (b:=true) (d:=72) rfl rfl e8) rfl rfl (by kernel_rfl) Try.func17 body17_of (by kernel_rfl) ?_
    refine dries_go E Fz Arg W0 _ φ _ [] W _ (by simp [Try.ntmps17]) fun φ1 W5 Fz1 o5=>?_
    rw [Fr_finish rfl]
    exact hk W5 Fz1 φ1 (hC.trans o5)
   | 15,_ =>
    have ea:t[72]?=some (.bool true):=hgot 13 72 (by kernel_rfl) (by kernel_rfl)
    have eb:t[73]?=some (.bool true):=hgot 14 73 (by kernel_rfl) (by kernel_rfl)
    exact Gm.op (.bool true) W rfl rfl (by kernel_rfl) rfl (pick_run _ (eval_tmp ea) (eval_tmp eb)) id (hk W Fz φ hC)
   | 16,_ =>
    have e7:t[74]?=some (.bool true):=hgot 15 74 (by kernel_rfl) (by kernel_rfl)
    exact Gm.op (.bool true) W rfl rfl (by kernel_rfl) rfl (as_run _ (eval_tmp e7)) id (hk W Fz φ hC)
   | n+17,h=>exact absurd h (by omega)
  ·intro t W Fz φ hC hsz hgot hold
   have e6:t[6]?=some (.bool true):=hgot 16 6 (by kernel_rfl)
   refine Gm.done Try.func3 (by kernel_rfl) (results3 (.bool true) _ e6) ?_
   exact fun ρ D own A fr W' h=>hPost _ ρ D own A fr _ W' h
end Go.Proofs.Ytedomogjmhommaa
namespace Go.Proofs.Ytedomogjmhommaa
open Go.RowKit Go.Con Go.Conc Go.ChangeShapes Go.WideShapes Go.ChangeAt
local instance dryI94:Lone:=dryL
theorem body3_of:Try.f3.body=some b3:=by kernel_rfl
theorem wf_range {n:Int} (h:(Lit.int .i64 n).wf=true) : -9223372036854775808≤n∧n≤9223372036854775807:=by
 have:=bounds_i64 h
 omega
theorem state_open {H:Type} {enc:TypeId×Value→H} {W:World} {v:Value} {dd:DataW H} {p:List MemPlace} {base:Nat} (hv:Value.okWide Try.prog W .any base 24 v) (h:DataW.Trod enc Try.prog W 0 (fun _=>true) true 24 v dd p):∃ s:St,v=s.val:=by
 simp only [Value.okWide,Try.underlying24] at hv
 obtain⟨cs,rfl,hsz,ts,hts,_,hcell⟩:=hv
 rw [show Try.prog.cellsOf 24=3 by kernel_rfl] at hsz
 obtain⟨fuel,hf⟩:=h
 simp only [Value.cells] at hf
 obtain⟨⟨a,b,c⟩,q,_⟩:=read_three Try.underlying24 rfl rfl rfl rfl rfl rfl (by kernel_rfl) hf
 obtain⟨l⟩:=cs
 simp only at q
 subst q
 exact⟨⟨a,b,c⟩,rfl⟩
theorem chooses_fin (d:Dry) (r:R2) (step:Int) (s:St) (hst : -9223372036854775808≤step∧step≤9223372036854775807) (W:World) (hd:DryIn W d r) :
  Con.Fin Try.prog (fun u W'=>u=.bool true∧Con.Left W W') (solo (G (Frame.enter Try.prog 3 #[d.val r,num step,s.val] .normal) []) W) #[]:=by
 refine law_fin Try.func3 body3_of (fun v hv=>?_) fun c Post hPost=>?_
 ·simp only [List.mem_cons,List.not_mem_nil,or_false] at hv
  rcases hv with rfl | rfl | rfl
  ·exact hd.same
  ·exact Alk.num _
  ·refine Alk.agg fun v hv=>?_
   simp only [List.mem_cons,List.not_mem_nil,or_false] at hv
   rcases hv with rfl | rfl | rfl<;>exact Alk.num _
 ·obtain⟨rh,rs⟩:=r
  obtain⟨ha,hcap,q1⟩:=hd.heats.cases
  obtain⟨sa,scap,q2⟩:=hd.steps.cases
  dsimp only at q1 q2
  rw [List.length_map] at q1 q2
  subst q1 q2
  have he:=hd.entry (c:=c)
  exact chooses_go _ _ _ _ Post _ _ d ha sa hcap scap step s hst he.heats he.steps hd.hl hd.sl _ (by simp [Try.ntmps3]) (by simp) (by simp) (by simp) hPost
theorem chooses_lifted (os:Os) (started:os.Started) (H:Type) (enc:TypeId×Value→H) :
  ReturnsInLeavingWide {} Try.checked os 3 .any (Rows.dryChoosesSpec.pre6 enc Try.prog Try.f3 [] false) (Rows.dryChoosesSpec.post enc Try.prog Try.f3 false true false false):=by
 refine returnsInLeavingWide_of_change_sized (C:=Try.checked) own_knob started Try.func3
  (ChangeSpec.witness6 (enc:=enc) (C:=Try.checked) false ⟨#[],#[.agg #[.slice none 0 0,.int .i64 0,.int .i64 0,.int .i64 0,.int .i64 0,.int .i64 0,.slice none 0 0],.int .i64 0,.agg #[.int .i64 0,.int .i64 0,.int .i64 0]],[]⟩ 8 (by kernel_rfl) (by kernel_rfl) (by kernel_rfl) (by kernel_rfl)) ?_
 intro W base args ds gs before hval0 hW _ hsz _
 have hval:∀ (j:Nat) t v,Try.f3.params[j]?=some t→args[j]?=some v→Value.okWide Try.prog W .any base t v:=hval0
 have hW':=hW
 obtain⟨p,q,hA0,hV,rfl,hfz,hnd⟩:=hW
 have hA:DataW.TrodAll enc Try.prog W 0 (fun _=>true) true Try.f3.params.toList args.toList ds p:=hA0
 rw [Try.params3] at hA hval
 obtain⟨v0,v1,v2,d0,d1,d2,p0,p1,p2,rfl,rfl,rfl,h0,h1,h2⟩:=trodAll_three hA
 obtain⟨rfl,rfl⟩:=trodVars_none hV
 have hfit:∀ (j:Nat) (t:TypeId) (dd:DataW H),Try.f3.params.toList[j]?=some t→[d0,d1,d2][j]?=some dd→Fits t dd:=fun j t dd ht hdd n hn=>by
  have:=List.all_eq_true.1 hsz n (DataW.weights_mem_each (P:=Try.prog) (j:=j) (t:=t) (d:=dd) (by
   have:(Try.f3.params.toList++[])[j]?=some t:=by rw [List.append_nil];exact ht
   exact this) (by
   have:([d0,d1,d2]++[])[j]?=some dd:=by rw [List.append_nil];exact hdd
   exact this) n hn)
  simpa using this
 have hp3q:Try.f3.params.toList=[27,3,24]:=by rw [Try.params3]
 rw [hp3q] at hfit
 obtain⟨d,r,rfl,hd⟩:=dry_open (hval 0 27 v0 rfl rfl) h0 (hfit 0 27 d0 rfl rfl)
 obtain⟨step,rfl,hd1,hp1,hwf⟩:=open_int Try.underlying3 (hval 1 3 v1 rfl rfl) h1
 obtain⟨s,rfl⟩:=state_open (hval 2 24 v2 rfl rfl) h2
 clear hA0 hval0
 simp only [List.append_nil] at hW'
 have hlt:∀ x∈p0++(p1++(p2++[])),x.block<W.heap.size:=fun x hx=>by
  have:=hW'.lt x (by simpa using hx)
  simpa using this
 refine fin_post (chooses_fin d r step s (wf_range hwf) W hd) fun W' hl=>?_
 have ha:=trodAll_mk3 (left_trod (by kernel_rfl) (of_decide_eq_true (by kernel_rfl)) h0 hl fun x hx=>hlt x (by simp [hx])) (left_trod (by kernel_rfl) (of_decide_eq_true (by kernel_rfl)) h1 hl fun x hx=>hlt x (by simp [hx])) (left_trod (by kernel_rfl) (of_decide_eq_true (by kernel_rfl)) h2 hl fun x hx=>hlt x (by simp [hx]))
 rw [List.append_assoc] at hW'
 exact⟨[d0,d1,d2],[],p0++(p1++p2),[],_,[],hW',trodAll_mk1 (shut_bool Try.underlying4 _),ha,rfl,left_kept hl _,fun h=>by cases h⟩
theorem chooses_holds:Rows.DryChoosesSaid :=
 OpenClaim.holds_of_wide_leaving 3 Try.f3 rfl rfl rfl rfl rfl rfl rfl ⟨rfl,rfl,rfl,rfl,rfl⟩ rfl rfl rfl rfl rfl (by kernel_rfl) Try.func3 (by kernel_rfl)
  (of_decide_eq_true (by kernel_rfl)) (by unfold Func.isWrapper;first | (rw [if_pos (by decide +kernel)];kernel_rfl) | (rw [if_neg (by decide +kernel)];exact⟨rfl,rfl⟩))
  (fun os started H enc _=>chooses_lifted os started H enc)
end Go.Proofs.Ytedomogjmhommaa
