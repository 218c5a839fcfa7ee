/- For every drying, picks, state and step the law DryEasier returns true, does not panic, and leaves what came in as it was. Conditions: none but those of the statement itself. -/
import Derived.Test.YtedomogjmhommaaR04
set_option linter.all false
set_option maxRecDepth 100000
set_option maxHeartbeats 8000000
namespace Go.Proofs.Ytedomogjmhommaa
open Go.RowKit Go.Con Go.Conc Go.Shelf
local instance dryI131:Lone:=dryL
noncomputable def ops8_2:Array Oper:=opsOf x8_2
theorem x8_2_eq:x8_2=.region 2 ops8_2 false:=by kernel_rfl
noncomputable def ops8_6:Array Oper:=opsOf x8_6
theorem x8_6_eq:x8_6=.region 6 ops8_6 false:=by kernel_rfl
noncomputable def ops8_14:Array Oper:=opsOf x8_14
theorem x8_14_eq:x8_14=.region 14 ops8_14 false:=by kernel_rfl
theorem easier_go (E Fz Arg:Nat→Prop) (W0:World) (Post:Value→World→Prop) (φ:Ph) (W:World) (d:Dry) (ha sa:Option Addr) (hcap scap:Nat) (u:Value) (picks:List Int) (s:St) (at1:Int)
  (hh:Sl W (.slice ha d.heats.length hcap) 2 (d.heats.map two)) (hss:Sl W (.slice sa d.steps.length scap) 6 (d.steps.map Stp.cells)) (hl:d.heats.length≤140737488355328) (sl:d.steps.length≤140737488355328)
  (hu:Sl W u 1 (picks.map fun x=>[u16 x])) (hpx:∀ x∈picks,0≤x∧x≤65535) (hpl:picks.length≤140737488355328) (ha1:0≤at1∧at1≤255)
  (t:Array Value) (hs:t.size=133) (h0:t[0]?=some (d.val ⟨.slice ha d.heats.length hcap,.slice sa d.steps.length scap⟩)) (h1:t[1]?=some (u)) (h2:t[2]?=some (s.val)) (h3:t[3]?=some (.int .u8 at1))
  (hPost:∀ Fz1 ρ D own A fr W1 W',Here Try.prog true E Fz1 Arg W0 ρ D own A fr [] W1 W'→Post (ren ρ (.bool true)) W') :
  GoM Try.prog true E Fz Arg W0 (AtEnd Try.prog Post) φ [] (Fr 8 t [.code b8]) [] W:=by
 rw [b8_eq]
 refine Gm.seq ?_
 refine Gm.lone (F:=FW) (fun tt WW=>(tt.size=133∧tt[1]?=some (u)∧tt[3]?=some (.int .u8 at1)∧tt[4]?=some (ptr W.heap.size)∧tt[6]?=some (ptr (W.heap.size+1)))∧WW.heap=((W.alloc (.cells (d.cellsA ⟨.slice ha d.heats.length hcap,.slice sa d.steps.length scap⟩) 27)).alloc (.cells #[num s.w,num s.c,num s.h] 24)).heap) rfl rfl trivial FW_ok (by kernel_rfl) (by kernel_rfl) (fun τ=>?_) ?_
 ·refine wpIn_mono (f8_0 d ha sa d.heats.length hcap d.steps.length scap u s at1 t hs h0 h1 h2 h3 { W with tape:=τ }) ?_
  rintro e a w' ⟨k1,k2,i0,rfl⟩
  exact⟨k1,k2,i0,rfl⟩
 rintro t1 W1 ⟨⟨s1,m1_1,m1_3,m1_4,m1_6⟩,hW1⟩
 obtain⟨nA,zA,gA,gB⟩:=al2 (w:=W) (o1:=.cells (d.cellsA ⟨.slice ha d.heats.length hcap,.slice sa d.steps.length scap⟩) 27 (0,0)) (o2:=.cells #[num s.w,num s.c,num s.h] 24 (0,0)) rfl
 have oA:OldC ((W.alloc (.cells (d.cellsA ⟨.slice ha d.heats.length hcap,.slice sa d.steps.length scap⟩) 27)).alloc (.cells #[num s.w,num s.c,num s.h] 24)) W1:=OldC.same hW1
 have o1:OldC W W1:=(OldC.nx nA).trans oA
 have hB:DBox W1 W.heap.size d ⟨.slice ha d.heats.length hcap,.slice sa d.steps.length scap⟩:=⟨by rw [hW1,zA];omega,fun i v hv=>oA.at (row_cell gA hv)⟩
 have q0:W1.cell? ⟨W.heap.size+1,0,none⟩=some (num s.w):=oA.at (row_cell gB rfl)
 have q1:W1.cell? ⟨W.heap.size+1,1,none⟩=some (num s.c):=oA.at (row_cell gB rfl)
 have q2:W1.cell? ⟨W.heap.size+1,2,none⟩=some (num s.h):=oA.at (row_cell gB rfl)
 have hh:=hh.oc o1
 have hss:=hss.oc o1
 have hu:=hu.oc o1
 clear nA zA gA gB oA o1 hW1 hs h0 h1 h2 h3
 generalize W.heap.size+1=p2 at *
 generalize W.heap.size=p1 at m1_4 hB
 refine Gm.seq ?_
 refine Gm.seq ?_
 refine Gm.lone (F:=FW) (fun tt WW=>(tt.size=133∧tt[1]?=some (u)∧tt[3]?=some (.int .u8 at1)∧tt[4]?=some (ptr p1)∧tt[6]?=some (ptr p2)∧tt[30]?=some (.bool (out11 d)))∧OldC W1 WW) rfl rfl trivial FW_ok (by kernel_rfl) (by kernel_rfl) (fun τ=>?_) ?_
 ·refine wpIn_mono (f8_1 d ⟨.slice ha d.heats.length hcap,.slice sa d.steps.length scap⟩ p1 p2 u at1 t1 s1 m1_1 m1_3 m1_4 m1_6 { W1 with tape:=τ } (hB.oc (OldC.same rfl)) (hh.oc (OldC.same rfl)) (hss.oc (OldC.same rfl)) hl sl) ?_
  rintro e a w' ⟨k1,k2,k3,k4⟩
  exact⟨k1,k2,k3,nx_tape k4⟩
 rintro t2 W2 ⟨⟨s2,m2_1,m2_3,m2_4,m2_6,m2_30⟩,o2⟩
 have hB:=hB.oc o2
 have hh:=hh.oc o2
 have hss:=hss.oc o2
 have hu:=hu.oc o2
 have q0:=o2.at q0
 have q1:=o2.at q1
 have q2:=o2.at q2
 clear o2
 clear s1 m1_1 m1_3 m1_4 m1_6
 by_cases hg:out11 d=true
 ·rw [hg] at m2_30
  refine Gm.cond (b:=true) (eval_tmp m2_30) rfl ?_
  refine Gm.seq ?_
  rw [x8_2_eq]
  refine Gm.region ?_
  rw [show List.range ops8_2.size=[0,1] by kernel_rfl]
  refine Gm.enter (o:=⟨some 31,.call { callee:=.value (.func 17),args:=#[],argTypes:=#[] },_,_,_,none⟩) (c:={ callee:=.value (.func 17),args:=#[],argTypes:=#[] }) (g:=17) (fn:=Try.f17) (body:=b17) rfl rfl rfl rfl (by kernel_rfl) Try.func17 body17_of (by kernel_rfl) ?_
  refine dries_go E Fz Arg W0 _ φ _ [] W2 _ ?_ fun φ1 Wz Fz1 oz=>?_
  ·simp [Try.ntmps17]
  rw [Fr_finish rfl]
  change GoM Try.prog true E Fz1 Arg W0 _ φ1 [] (Fr 8 (putD t2 (some 31) (.bool true)) _) [] Wz
  refine Gm.op (o:=⟨some 8,.assign (.tmp 31),_,_,_,none⟩) (.bool true) Wz rfl rfl (by kernel_rfl) rfl (as_run _ (eval_tmp (by simp [putD,s2]))) id ?_
  refine Gm.regionEnd ?_
  refine Gm.done Try.func8 (by kernel_rfl) (results8 (.bool true) _ (by simp [putD,s2])) ?_
  exact fun ρ D own A fr W' h=>hPost _ ρ D own A fr _ W' h
 have hg' : out11 d=false:=by simpa using hg
 rw [hg'] at m2_30
 have hof:greatD d=false∧dryF d=0:=by
  unfold out11 at hg'
  simp only [Bool.or_eq_false_iff,decide_eq_false_iff_not,Decidable.not_not,ne_eq] at hg'
  exact hg'
 obtain⟨hgr,hF0⟩:=hof
 have hgl:d.heats.length≤40∧d.steps.length≤40:=by
  unfold greatD at hgr
  simp only [Bool.or_eq_false_iff,decide_eq_false_iff_not,Nat.not_lt] at hgr
  exact hgr
 have hO:=dryF_ok hF0
 refine Gm.cond (b:=false) (eval_tmp m2_30) rfl ?_
 refine Gm.skip ?_
 have hd:DrySl W2 d ⟨.slice ha d.heats.length hcap,.slice sa d.steps.length scap⟩:=⟨hh,hss,by omega,by omega⟩
 clear hh hss hg hg' m2_30 hgr
 generalize hr:(⟨.slice ha d.heats.length hcap,.slice sa d.steps.length scap⟩:R2)=r at *
 clear hr
 obtain⟨hF2,hs0,hs02,hb0,hab,hbl,hch⟩:=easier_law hO hF0 hpx
 have hs5:=hO.s5
 have hel:=easP_len d picks
 have hol:(easP d picks).heats.length=d.heats.length:=rfl
 refine Gm.seq ?_
 refine Gm.lone (F:=FW) (fun tt WW=>∃ po vs,(tt.size=133∧tt[3]?=some (.int .u8 at1)∧tt[4]?=some (ptr p1)∧tt[6]?=some (ptr p2)∧tt[9]?=some (ptr po))∧OldC W2 WW∧DBox WW po (easP d picks) ⟨r.h,vs⟩∧Sl WW vs 6 ((easP d picks).steps.map Stp.cells)) rfl rfl trivial FW_ok (by kernel_rfl) (by kernel_rfl) (fun τ=>?_) ?_
 ·refine wpIn_mono (f8_3 d r p1 p2 u at1 t2 s2 m2_1 m2_3 m2_4 m2_6 { W2 with tape:=τ } (hB.oc (OldC.same rfl)) (hd.oc (OldC.same rfl)) hO picks (hu.oc (OldC.same rfl)) hpx hpl) ?_
  rintro e a w' ⟨k1,k2,po,vs,k3,k4,y0,y1⟩
  exact⟨k1,k2,po,vs,k3,nx_tape k4,y0,y1⟩
 rintro t3 W3 ⟨po,vs,⟨s3,m3_3,m3_4,m3_6,m3_9⟩,o3,hBo,hso⟩
 have hB:=hB.oc o3
 have hd:=hd.oc o3
 have q0:=o3.at q0
 have q1:=o3.at q1
 have q2:=o3.at q2
 clear o3
 clear s2 m2_1 m2_3 m2_4 m2_6
 clear hu hpl
 have hdo:DrySl W3 (easP d picks) ⟨r.h,vs⟩:=⟨hd.heats,hso,hd.hl,by rw [hel];exact hd.sl⟩
 clear hso
 generalize easP d picks=o at *
 generalize (⟨r.h,vs⟩:R2)=ro at *
 obtain⟨sf,hsf⟩:∃ sf,safeF d=sf:=⟨_,rfl⟩
 obtain⟨sg,hsg⟩:∃ sg,safeF o=sg:=⟨_,rfl⟩
 rw [hsf] at hs0 hab
 rw [hsg] at hs02 hab
 refine Gm.seq ?_
 refine Gm.lone (F:=FW) (fun tt WW=>(tt.size=133∧tt[3]?=some (.int .u8 at1)∧tt[4]?=some (ptr p1)∧tt[6]?=some (ptr p2)∧tt[9]?=some (ptr po)∧tt[11]?=some (.bool sf.2.1)∧tt[12]?=some (num sf.2.2))∧OldC W3 WW) rfl rfl trivial FW_ok (by kernel_rfl) (by kernel_rfl) (fun τ=>?_) ?_
 ·refine wpIn_mono (f8_4 d r p1 p2 po at1 sf t3 s3 m3_3 m3_4 m3_6 m3_9 { W3 with tape:=τ } (hB.oc (OldC.same rfl)) (hd.oc (OldC.same rfl)) hsf) ?_
  rintro e a w' ⟨k1,k2,k3,k4⟩
  exact⟨k1,k2,k3,nx_tape k4⟩
 rintro t4 W4 ⟨⟨s4,m4_3,m4_4,m4_6,m4_9,m4_11,m4_12⟩,o4⟩
 have hB:=hB.oc o4
 have hd:=hd.oc o4
 have hBo:=hBo.oc o4
 have hdo:=hdo.oc o4
 have q0:=o4.at q0
 have q1:=o4.at q1
 have q2:=o4.at q2
 clear o4
 clear s3 m3_3 m3_4 m3_6 m3_9
 rw [hs0] at m4_12
 refine Gm.seq ?_
 refine Gm.lone (F:=FW) (fun tt WW=>(tt.size=133∧tt[3]?=some (.int .u8 at1)∧tt[4]?=some (ptr p1)∧tt[6]?=some (ptr p2)∧tt[9]?=some (ptr po)∧tt[11]?=some (.bool sf.2.1)∧tt[12]?=some (num 0)∧tt[14]?=some (.bool sg.2.1)∧tt[15]?=some (num sg.2.2))∧OldC W4 WW) rfl rfl trivial FW_ok (by kernel_rfl) (by kernel_rfl) (fun τ=>?_) ?_
 ·refine wpIn_mono (f8_5 o ro p1 p2 po at1 sf.2.1 sg t4 s4 m4_3 m4_4 m4_6 m4_9 m4_11 m4_12 { W4 with tape:=τ } (hBo.oc (OldC.same rfl)) (hdo.oc (OldC.same rfl)) hsg) ?_
  rintro e a w' ⟨k1,k2,k3,k4⟩
  exact⟨k1,k2,k3,nx_tape k4⟩
 rintro t5 W5 ⟨⟨s5,m5_3,m5_4,m5_6,m5_9,m5_11,m5_12,m5_14,m5_15⟩,o5⟩
 have hB:=hB.oc o5
 have hd:=hd.oc o5
 have hBo:=hBo.oc o5
 have hdo:=hdo.oc o5
 have q0:=o5.at q0
 have q1:=o5.at q1
 have q2:=o5.at q2
 clear o5
 clear s4 m4_3 m4_4 m4_6 m4_9 m4_11 m4_12
 rw [hs02] at m5_15
 refine Gm.seq ?_
 rw [x8_6_eq]
 refine Gm.region ?_
 rw [show List.range ops8_6.size=[0,1,2,3,4,5,6,7,8] by kernel_rfl]
 refine Gm.op (o:=⟨some 48,.load 27 (.tmp 4),_,_,_,none⟩) (d.val r) W5 rfl rfl (by kernel_rfl) rfl (load27_run _ (eval_tmp m5_4) hB) id ?_
 refine Gm.enter (o:=⟨some 49,.call { callee:=.value (.func 23),args:=#[.tmp 48],argTypes:=#[27] },_,_,_,none⟩) (c:={ callee:=.value (.func 23),args:=#[.tmp 48],argTypes:=#[27] }) (g:=23) (fn:=Try.f23) (body:=b23) rfl rfl rfl rfl (by kernel_rfl) Try.func23 body23_of (by kernel_rfl) ?_
 obtain⟨bha,bhcap,q1⟩:=hd.heats.cases
 obtain⟨bsa,bscap,q2⟩:=hd.steps.cases
 rw [List.length_map] at q1 q2
 obtain⟨rh,rs⟩:=r
 dsimp only at q1 q2
 subst q1 q2
 have e35:(Fr 8 (putD t5 (some 48) (d.val ⟨.slice bha d.heats.length bhcap,.slice bsa d.steps.length bscap⟩)) []).eval (.tmp 48)=d.val ⟨.slice bha d.heats.length bhcap,.slice bsa d.steps.length bscap⟩:=eval_tmp (by simp [putD,s5])
 refine blind_go E Fz Arg W0 _ φ _ [] W5 d bha bsa bhcap bscap hd _ ?_ ?_ fun φ1 W6 Fz1 vb o6 hvb=>?_
 ·simp [Try.ntmps23]
 ·simp [e35]
 rw [Fr_finish rfl]
 dsimp only
 clear e35
 generalize (⟨.slice bha d.heats.length bhcap,.slice bsa d.steps.length bscap⟩:R2)=r at *
 obtain⟨bf,hbf⟩:∃ bf,blindF d=bf:=⟨_,rfl⟩
 rw [hbf] at hvb ⊢
 change GoM Try.prog true E Fz1 Arg W0 _ φ1 [] (Fr 8 (putD (putD t5 (some 48) _) (some 49) (.tuple #[vb,.bool bf.2.1,num bf.2.2])) _) [] W6
 refine Gm.op (o:=⟨some 47,.move (.tmp 49),_,_,_,none⟩) (.tuple #[vb,.bool bf.2.1,num bf.2.2]) W6 rfl rfl (by kernel_rfl) rfl (mv_run _ (eval_tmp (by simp [putD,s5]))) id ?_
 refine Gm.op (o:=⟨some 50,.extract (.tmp 47) 0,_,_,_,none⟩) vb W6 rfl rfl (by kernel_rfl) rfl (ext0_run (v:=.bool bf.2.1) (z:=num bf.2.2) _ (eval_tmp (by simp [putD,s5]))) id ?_
 refine Gm.op (o:=⟨some 51,.extract (.tmp 47) 1,_,_,_,none⟩) (.bool bf.2.1) W6 rfl rfl (by kernel_rfl) rfl (ext1_run (u:=vb) (z:=num bf.2.2) _ (eval_tmp (by simp [putD,s5]))) id ?_
 refine Gm.op (o:=⟨some 52,.extract (.tmp 47) 2,_,_,_,none⟩) (num bf.2.2) W6 rfl rfl (by kernel_rfl) rfl (ext2_run (u:=vb) (v:=.bool bf.2.1) _ (eval_tmp (by simp [putD,s5]))) id ?_
 refine Gm.op (o:=⟨some 16,.assign (.tmp 50),_,_,_,none⟩) vb W6 rfl rfl (by kernel_rfl) rfl (as_run _ (eval_tmp (by simp [putD,s5]))) id ?_
 refine Gm.op (o:=⟨some 17,.assign (.tmp 51),_,_,_,none⟩) (.bool bf.2.1) W6 rfl rfl (by kernel_rfl) rfl (as_run _ (eval_tmp (by simp [putD,s5]))) id ?_
 refine Gm.op (o:=⟨some 18,.assign (.tmp 52),_,_,_,none⟩) (num bf.2.2) W6 rfl rfl (by kernel_rfl) rfl (as_run _ (eval_tmp (by simp [putD,s5]))) id ?_
 refine Gm.regionEnd ?_
 generalize ht4:putD _ (some 18) (num bf.2.2)=t6
 have s6:t6.size=133:=by rw [← ht4];simp [putD,s5]
 have m6_3:t6[3]?=some (.int .u8 at1):=by rw [← ht4];simp [putD,m5_3]
 have m6_4:t6[4]?=some (ptr p1):=by rw [← ht4];simp [putD,m5_4]
 have m6_6:t6[6]?=some (ptr p2):=by rw [← ht4];simp [putD,m5_6]
 have m6_9:t6[9]?=some (ptr po):=by rw [← ht4];simp [putD,m5_9]
 have m6_11:t6[11]?=some (.bool sf.2.1):=by rw [← ht4];simp [putD,m5_11]
 have m6_12:t6[12]?=some (num 0):=by rw [← ht4];simp [putD,m5_12]
 have m6_14:t6[14]?=some (.bool sg.2.1):=by rw [← ht4];simp [putD,m5_14]
 have m6_15:t6[15]?=some (num 0):=by rw [← ht4];simp [putD,m5_15]
 have m6_16:t6[16]?=some vb:=by rw [← ht4];simp [putD,s5]
 have m6_17:t6[17]?=some (.bool bf.2.1):=by rw [← ht4];simp [putD,s5]
 have m6_18:t6[18]?=some (num bf.2.2):=by rw [← ht4];simp [putD,s5]
 clear ht4
 clear s5 m5_3 m5_4 m5_6 m5_9 m5_11 m5_12 m5_14 m5_15
 have hB:=hB.oc o6
 have hd:=hd.oc o6
 have hBo:=hBo.oc o6
 have hdo:=hdo.oc o6
 have q0:=o6.at q0
 have q1:=o6.at q1
 have q2:=o6.at q2
 clear o6
 rw [hbf] at hb0 hbl
 rw [hb0] at m6_18
 obtain⟨plan,bb,bz⟩:=bf
 dsimp only at hb0 m6_16 m6_17 hvb hbl
 have hpl5:bb=true→plan.length≤1000000000:=fun e=>by
  have:=hbl e
  have hq:planF o plan=0:=by
   unfold spoilF at this
   split at this
   ·rename_i h
    simp only [Prod.mk.injEq,true_and] at this
    exact absurd this h
   ·rename_i h
    exact Decidable.not_not.1 h
  have:=(planF_ok hq).2.1
  omega
 have hpl6:plan.length≤1000000000:=by
  have:=blind_len d d.steps [d.start] d.start.h
  have e:(blindF d).1.length≤d.steps.length:=by
   unfold blindF
   split
   ·exact Nat.zero_le _
   ·split
    ·exact Nat.zero_le _
    ·exact this
  rw [hbf] at e
  dsimp only at e
  omega
 clear hpl5
 refine Gm.seq ?_
 refine Gm.lone (F:=FW) (fun tt WW=>(tt.size=133∧tt[3]?=some (.int .u8 at1)∧tt[4]?=some (ptr p1)∧tt[6]?=some (ptr p2)∧tt[9]?=some (ptr po)∧tt[16]?=some (vb)∧tt[17]?=some (.bool bb))∧OldC W6 WW) rfl rfl trivial FW_ok (by kernel_rfl) (by kernel_rfl) (fun τ=>?_) ?_
 ·refine wpIn_mono (f8_7 p1 p2 po at1 vb sf.2.1 sg.2.1 bb t6 s6 m6_3 m6_4 m6_6 m6_9 m6_11 m6_12 m6_14 m6_15 m6_16 m6_17 m6_18 { W6 with tape:=τ } hab) ?_
  rintro e a w' ⟨k1,k2,k3,rfl⟩
  exact⟨k1,k2,k3,OldC.same rfl⟩
 rintro t7 W7 ⟨⟨s7,m7_3,m7_4,m7_6,m7_9,m7_16,m7_17⟩,o7⟩
 have hB:=hB.oc o7
 have hd:=hd.oc o7
 have hBo:=hBo.oc o7
 have hdo:=hdo.oc o7
 have q0:=o7.at q0
 have q1:=o7.at q1
 have q2:=o7.at q2
 have hvb:=hvb.oc o7
 clear o7
 clear s6 m6_3 m6_4 m6_6 m6_9 m6_11 m6_12 m6_14 m6_15 m6_16 m6_17 m6_18
 refine Gm.seq ?_
 refine Gm.lone (F:=FW) (fun tt WW=>(tt.size=133∧tt[3]?=some (.int .u8 at1)∧tt[4]?=some (ptr p1)∧tt[6]?=some (ptr p2)∧tt[9]?=some (ptr po))∧OldC W7 WW) rfl rfl trivial FW_ok (by kernel_rfl) (by kernel_rfl) (fun τ=>?_) ?_
 ·refine wpIn_mono (f8_9 o ro p1 p2 po at1 vb bb plan t7 s7 m7_3 m7_4 m7_6 m7_9 m7_16 m7_17 { W7 with tape:=τ } (hBo.oc (OldC.same rfl)) (hdo.oc (OldC.same rfl)) (hvb.oc (OldC.same rfl)) hpl6 hbl) ?_
  rintro e a w' ⟨k1,k2,k3,k4⟩
  exact⟨k1,k2,k3,nx_tape k4⟩
 rintro t9 W9 ⟨⟨s9,m9_3,m9_4,m9_6,m9_9⟩,o9⟩
 have hB:=hB.oc o9
 have hd:=hd.oc o9
 have hBo:=hBo.oc o9
 have hdo:=hdo.oc o9
 have q0:=o9.at q0
 have q1:=o9.at q1
 have q2:=o9.at q2
 clear o9
 clear s7 m7_3 m7_4 m7_6 m7_9 m7_16 m7_17
 refine Gm.seq ?_
 refine Gm.seq ?_
 refine Gm.lone (F:=FW) (fun tt WW=>(tt.size=133∧tt[3]?=some (.int .u8 at1)∧tt[4]?=some (ptr p1)∧tt[6]?=some (ptr p2)∧tt[9]?=some (ptr po)∧tt[93]?=some (.bool (out8 d s)))∧OldC W9 WW) rfl rfl trivial FW_ok (by kernel_rfl) (by kernel_rfl) (fun τ=>?_) ?_
 ·refine wpIn_mono (f8_13 d r p1 p2 po at1 s t9 s9 m9_3 m9_4 m9_6 m9_9 { W9 with tape:=τ } (hB.oc (OldC.same rfl)) (hd.oc (OldC.same rfl)) q0 q1 q2) ?_
  rintro e a w' ⟨k1,k2,k3,k4⟩
  exact⟨k1,k2,k3,nx_tape k4⟩
 rintro t13 W13 ⟨⟨s13,m13_3,m13_4,m13_6,m13_9,m13_93⟩,o13⟩
 have hB:=hB.oc o13
 have hd:=hd.oc o13
 have hBo:=hBo.oc o13
 have hdo:=hdo.oc o13
 have q0:=o13.at q0
 have q1:=o13.at q1
 have q2:=o13.at q2
 clear o13
 clear s9 m9_3 m9_4 m9_6 m9_9
 by_cases hg:out8 d s=true
 ·rw [hg] at m13_93
  refine Gm.cond (b:=true) (eval_tmp m13_93) rfl ?_
  refine Gm.seq ?_
  rw [x8_14_eq]
  refine Gm.region ?_
  rw [show List.range ops8_14.size=[0,1] by kernel_rfl]
  refine Gm.enter (o:=⟨some 94,.call { callee:=.value (.func 17),args:=#[],argTypes:=#[] },_,_,_,none⟩) (c:={ callee:=.value (.func 17),args:=#[],argTypes:=#[] }) (g:=17) (fn:=Try.f17) (body:=b17) rfl rfl rfl rfl (by kernel_rfl) Try.func17 body17_of (by kernel_rfl) ?_
  refine dries_go E _ Arg W0 _ _ _ [] W13 _ ?_ fun φ1 Wz Fz1 oz=>?_
  ·simp [Try.ntmps17]
  rw [Fr_finish rfl]
  change GoM Try.prog true E Fz1 Arg W0 _ φ1 [] (Fr 8 (putD t13 (some 94) (.bool true)) _) [] Wz
  refine Gm.op (o:=⟨some 8,.assign (.tmp 94),_,_,_,none⟩) (.bool true) Wz rfl rfl (by kernel_rfl) rfl (as_run _ (eval_tmp (by simp [putD,s13]))) id ?_
  refine Gm.regionEnd ?_
  refine Gm.done Try.func8 (by kernel_rfl) (results8 (.bool true) _ (by simp [putD,s13])) ?_
  exact fun ρ D own A fr W' h=>hPost _ ρ D own A fr _ W' h
 have hg' : out8 d s=false:=by simpa using hg
 rw [hg'] at m13_93
 unfold out8 at hg'
 simp only [Bool.or_eq_false_iff,decide_eq_false_iff_not,Decidable.not_not,ne_eq] at hg'
 obtain⟨hp0,hS0⟩:=hg'
 refine Gm.cond (b:=false) (eval_tmp m13_93) rfl ?_
 refine Gm.skip ?_
 clear m13_93 hg
 refine Gm.seq ?_
 refine Gm.lone (F:=FW) (fun tt WW=>(tt.size=133∧tt[4]?=some (ptr p1)∧tt[6]?=some (ptr p2)∧tt[9]?=some (ptr po)∧tt[23]?=some (num (at1 % d.steps.length)))∧OldC W13 WW) rfl rfl trivial FW_ok (by kernel_rfl) (by kernel_rfl) (fun τ=>?_) ?_
 ·refine wpIn_mono (f8_15 d r p1 p2 po at1 t13 s13 m13_3 m13_4 m13_6 m13_9 { W13 with tape:=τ } (hB.oc (OldC.same rfl)) (hd.oc (OldC.same rfl)) (by omega) ha1) ?_
  rintro e a w' ⟨k1,k2,k3,k4⟩
  exact⟨k1,k2,k3,nx_tape k4⟩
 rintro t15 W15 ⟨⟨s15,m15_4,m15_6,m15_9,m15_23⟩,o15⟩
 have hB:=hB.oc o15
 have hd:=hd.oc o15
 have hBo:=hBo.oc o15
 have hdo:=hdo.oc o15
 have q0:=o15.at q0
 have q1:=o15.at q1
 have q2:=o15.at q2
 clear o15
 clear s13 m13_3 m13_4 m13_6 m13_9
 obtain⟨i,hi⟩:∃ i:Nat,at1 % (d.steps.length:Int)=i:=⟨(at1 % (d.steps.length:Int)).toNat,by have:=Int.emod_nonneg at1 (b:=(d.steps.length:Int)) (by omega);omega⟩
 have hil:i<d.steps.length:=by have:=Int.emod_lt_of_pos at1 (b:=(d.steps.length:Int)) (by omega);omega
 rw [hi] at m15_23
 obtain⟨hc1,hc2,hc3⟩:=hch i s hil hS0
 obtain⟨c,hc⟩:∃ c,chooseF d i s=c:=⟨_,rfl⟩
 obtain⟨c',hc'⟩:∃ c,chooseF o i s=c:=⟨_,rfl⟩
 rw [hc] at hc1 hc3
 rw [hc'] at hc2 hc3
 refine Gm.seq ?_
 refine Gm.lone (F:=FW) (fun tt WW=>(tt.size=133∧tt[6]?=some (ptr p2)∧tt[9]?=some (ptr po)∧tt[23]?=some (num i)∧tt[11]?=some (.bool c.2.1)∧tt[12]?=some (num c.2.2))∧OldC W15 WW) rfl rfl trivial FW_ok (by kernel_rfl) (by kernel_rfl) (fun τ=>?_) ?_
 ·refine wpIn_mono (f8_16 d r p1 p2 po i s c t15 s15 m15_6 m15_9 m15_23 m15_4 { W15 with tape:=τ } (hB.oc (OldC.same rfl)) (hd.oc (OldC.same rfl)) q0 q1 q2 (by omega) hc) ?_
  rintro e a w' ⟨k1,k2,k3,k4⟩
  exact⟨k1,k2,k3,nx_tape k4⟩
 rintro t16 W16 ⟨⟨s16,m16_6,m16_9,m16_23,m16_11,m16_12⟩,o16⟩
 have hBo:=hBo.oc o16
 have hdo:=hdo.oc o16
 have q0:=o16.at q0
 have q1:=o16.at q1
 have q2:=o16.at q2
 clear o16
 clear s15 m15_6 m15_9 m15_23 m15_4
 rw [hc1] at m16_12
 refine Gm.seq ?_
 refine Gm.lone (F:=FW) (fun tt WW=>(tt.size=133∧tt[11]?=some (.bool c.2.1)∧tt[12]?=some (num 0)∧tt[14]?=some (.bool c'.2.1)∧tt[15]?=some (num c'.2.2))∧OldC W16 WW) rfl rfl trivial FW_ok (by kernel_rfl) (by kernel_rfl) (fun τ=>?_) ?_
 ·refine wpIn_mono (f8_17 o ro p2 po i s c.2.1 c' t16 s16 m16_6 m16_9 m16_23 m16_11 m16_12 { W16 with tape:=τ } (hBo.oc (OldC.same rfl)) (hdo.oc (OldC.same rfl)) q0 q1 q2 (by omega) hc') ?_
  rintro e a w' ⟨k1,k2,k3,k4⟩
  exact⟨k1,k2,k3,nx_tape k4⟩
 rintro t17 W17 ⟨⟨s17,m17_11,m17_12,m17_14,m17_15⟩,o17⟩
 clear o17
 clear s16 m16_6 m16_9 m16_23 m16_11 m16_12
 rw [hc2] at m17_15
 refine Gm.seq ?_
 cases hx:c.2.1 with
 | false =>
  rw [hx] at m17_11
  exact easier_end1 E _ Arg W0 Post _ W17 c'.2.1 t17 s17 m17_12 m17_15 m17_11 m17_14 hPost
 | true =>
  rw [hx] at m17_11
  rw [hc3 hx] at m17_14
  exact easier_end2 E _ Arg W0 Post _ W17 t17 s17 m17_12 m17_15 m17_11 m17_14 hPost
end Go.Proofs.Ytedomogjmhommaa
namespace Go.Proofs.Ytedomogjmhommaa
open Go.RowKit Go.Con Go.Conc Go.ChangeShapes Go.WideShapes Go.ChangeAt
local instance dryI109:Lone:=dryL
section
variable {H:Type} {enc:TypeId×Value→H} {W:World}
theorem read_u16 {n:Nat} {cs:List Value} {y:DataW H×List MemPlace} (h:trodW enc W n 154 cs=some y):∃ k:Int,cs=[u16 k]∧(0≤k∧k≤65535):=by
 obtain⟨k,h1,_,h3⟩:=DataW.trod_int Try.underlying154 h
 simp only [Lit.wf,Bool.and_eq_true,decide_eq_true_eq] at h3
 exact⟨k,h1,h3⟩
theorem picks_open {v:Value} {dd:DataW H} {p:List MemPlace} {base:Nat} (hv:Value.okWide Try.prog W .any base 62 v) (h:DataW.Trod enc Try.prog W 0 (fun _=>true) true 62 v dd p) (hfit:Fits 62 dd) :
  ∃ l:List Int,Sl W v 1 (l.map fun x=>[u16 x])∧Kind W v∧l.length≤140737488355328∧∀ x∈l,0≤x∧x≤65535:=by
 obtain⟨fuel,hf⟩:=h
 have hv' : Cell.okWide Try.prog W .any 0 62 v:=by
  simp only [Value.okWide,Try.underlying62] at hv
  exact hv
 have hc:v.cells.toList=[v]:=by
  simp only [Cell.okWide,Try.underlying62,Cell.ok] at hv'
  cases v<;>first | rfl | (exact absurd hv' (by simp))
 rw [hc] at hf
 obtain⟨l,a1,a3,a4,a5⟩:=sl_open (en:=fun x=>[u16 x]) (ok:=fun x=>0≤x∧x≤65535) Try.underlying62 (by decide +kernel) (fun n cs' y h hff=>read_u16 h) hf hfit hv'
 rw [show Try.prog.cellsOf 154=1 by kernel_rfl] at a1
 exact⟨l,a1,a3,Nat.le_trans a4 (by decide),a5⟩
end
theorem inv_u16 {ix:Value→Nat} (n:Int):inv Try.prog ix (u16 n)=u16 n:=by simp [inv]
theorem picks_entry {c:Nat→Value} {W:World} {v:Value} {xs:List Int} (h:Sl W v 1 (xs.map fun x=>[u16 x])):Sl (entryW Try.prog c (CD W) W) v 1 (xs.map fun x=>[u16 x]):=by
 refine h.entry ?_
 intro l hl x hx
 obtain⟨z,_,rfl⟩:=List.mem_map.1 hl
 simp only [List.mem_singleton] at hx
 subst hx
 exact inv_u16 _
end Go.Proofs.Ytedomogjmhommaa
namespace Go.Proofs.Ytedomogjmhommaa
open Go.RowKit Go.Con Go.Conc Go.ChangeShapes Go.WideShapes Go.ChangeAt
local instance dryI94:Lone:=dryL
theorem state_open {H:Type} {enc:TypeId×Value→H} {W:World} {v:Value} {dd:DataW H} {p:List MemPlace} {base:Nat} (hv:Value.okWide Try.prog W .any base 24 v) (h:DataW.Trod enc Try.prog W 0 (fun _=>true) true 24 v dd p):∃ s:St,v=s.val:=by
 simp only [Value.okWide,Try.underlying24] at hv
 obtain⟨cs,rfl,hsz,ts,hts,_,hcell⟩:=hv
 rw [show Try.prog.cellsOf 24=3 by kernel_rfl] at hsz
 obtain⟨fuel,hf⟩:=h
 simp only [Value.cells] at hf
 obtain⟨⟨a,b,c⟩,q,_⟩:=read_three Try.underlying24 rfl rfl rfl rfl rfl rfl (by kernel_rfl) hf
 obtain⟨l⟩:=cs
 simp only at q
 subst q
 exact⟨⟨a,b,c⟩,rfl⟩
end Go.Proofs.Ytedomogjmhommaa
namespace Go.Proofs.Ytedomogjmhommaa
open Go.RowKit Go.Con Go.Conc Go.ChangeShapes Go.WideShapes Go.ChangeAt
local instance dryI110:Lone:=dryL
theorem alk_u8 {W:World} {E:Nat→Prop} (n:Int):Alk W E (.int .u8 n):=⟨fun c=>by simp [ren],by simp [ren]⟩
end Go.Proofs.Ytedomogjmhommaa
namespace Go.Proofs.Ytedomogjmhommaa
open Go.RowKit Go.Con Go.Conc Go.ChangeShapes Go.WideShapes Go.ChangeAt
local instance dryIr8:Lone:=dryL
theorem body8_of:Try.f8.body=some b8:=by kernel_rfl
theorem easier_fin (d:Dry) (r:R2) (u1:Value) (l1:List Int) (s2:St) (n3:Int) (W:World) (hd:DryIn W d r) (a1:Sl W u1 1 (l1.map fun x=>[u16 x])) (b1:Kind W u1) (c1:l1.length≤140737488355328) (e1:∀ x∈l1,0≤x∧x≤65535) (a3:0≤n3∧n3≤255) :
  Con.Fin Try.prog (fun u W'=>u=.bool true∧Con.Left W W') (solo (G (Frame.enter Try.prog 8 #[d.val r,u1,s2.val,.int .u8 n3] .normal) []) W) #[]:=by
 refine law_fin Try.func8 body8_of (fun v hv=>?_) fun c Post hPost=>?_
 ·simp only [List.mem_cons,List.not_mem_nil,or_false] at hv
  rcases hv with rfl | rfl | rfl | rfl
  ·exact hd.same
  ·exact Alk.slice a1.isSlice b1
  ·refine Alk.agg fun v hv=>?_
   simp only [List.mem_cons,List.not_mem_nil,or_false] at hv
   rcases hv with rfl | rfl | rfl<;>exact Alk.num _
  ·exact alk_u8 _
 ·obtain⟨rh,rs⟩:=r
  obtain⟨ha,hcap,q1⟩:=hd.heats.cases
  obtain⟨sa,scap,q2⟩:=hd.steps.cases
  dsimp only at q1 q2
  rw [List.length_map] at q1 q2
  subst q1 q2
  have he:=hd.entry (c:=c)
  exact easier_go _ _ _ _ Post _ _ d ha sa hcap scap u1 l1 s2 n3 he.heats he.steps hd.hl hd.sl (picks_entry a1) e1 c1  a3 _ (by simp [Try.ntmps8]) (by simp) (by simp) (by simp) (by simp) hPost
theorem easier_lifted (os:Os) (started:os.Started) (H:Type) (enc:TypeId×Value→H) :
  ReturnsInLeavingWide {} Try.checked os 8 .any (Rows.dryEasierSpec.pre6 enc Try.prog Try.f8 [] false) (Rows.dryEasierSpec.post enc Try.prog Try.f8 false true false false):=by
 refine returnsInLeavingWide_of_change_sized (C:=Try.checked) own_knob started Try.func8
  (ChangeSpec.witness6 (enc:=enc) (C:=Try.checked) false ⟨#[],#[.agg #[.slice none 0 0,.int .i64 0,.int .i64 0,.int .i64 0,.int .i64 0,.int .i64 0,.slice none 0 0],.slice none 0 0,.agg #[.int .i64 0,.int .i64 0,.int .i64 0],.int .u8 0],[]⟩ 8 (by kernel_rfl) (by kernel_rfl) (by kernel_rfl) (by kernel_rfl)) ?_
 intro W base args ds gs before hval0 hW _ hsz _
 have hval:∀ (j:Nat) t v,Try.f8.params[j]?=some t→args[j]?=some v→Value.okWide Try.prog W .any base t v:=hval0
 have hW':=hW
 obtain⟨p,q,hA0,hV,rfl,hfz,hnd⟩:=hW
 have hA:DataW.TrodAll enc Try.prog W 0 (fun _=>true) true Try.f8.params.toList args.toList ds p:=hA0
 rw [Try.params8] at hA hval
 obtain⟨v0,v1,v2,v3,d0,d1,d2,d3,p0,p1,p2,p3,rfl,rfl,rfl,h0,h1,h2,h3⟩:=trodAll_four hA
 obtain⟨rfl,rfl⟩:=trodVars_none hV
 have hfit:∀ (j:Nat) (t:TypeId) (dd:DataW H),Try.f8.params.toList[j]?=some t→[d0,d1,d2,d3][j]?=some dd→Fits t dd:=fun j t dd ht hdd n hn=>by
  have:=List.all_eq_true.1 hsz n (DataW.weights_mem_each (P:=Try.prog) (j:=j) (t:=t) (d:=dd) (by
   have:(Try.f8.params.toList++[])[j]?=some t:=by rw [List.append_nil];exact ht
   exact this) (by
   have:([d0,d1,d2,d3]++[])[j]?=some dd:=by rw [List.append_nil];exact hdd
   exact this) n hn)
  simpa using this
 have hpq:Try.f8.params.toList=[27,62,24,5]:=by rw [Try.params8]
 rw [hpq] at hfit
 obtain⟨d,r,rfl,hd⟩:=dry_open (hval 0 27 v0 rfl rfl) h0 (hfit 0 27 d0 rfl rfl)
 obtain⟨l1,a1,b1,c1,e1⟩:=picks_open (hval 1 62 v1 rfl rfl) h1 (hfit 1 62 d1 rfl rfl)
 obtain⟨s2,rfl⟩:=state_open (hval 2 24 v2 rfl rfl) h2
 obtain⟨n3,rfl,q3,z3,w3⟩:=open_int Try.underlying5 (hval 3 5 v3 rfl rfl) h3
 clear hA0 hval0
 simp only [List.append_nil] at hW'
 have hlt:∀ x∈p0++(p1++(p2++(p3++([])))),x.block<W.heap.size:=fun x hx=>by
  have:=hW'.lt x (by simpa using hx)
  simpa using this
 refine fin_post (easier_fin d r v1 l1 s2 n3 W hd a1 b1 c1 e1  (bounds_u8 w3)) fun W' hl=>?_
 have ha:=trodAll_mk4 (left_trod (by kernel_rfl) (of_decide_eq_true (by kernel_rfl)) h0 hl fun x hx=>hlt x (by simp [hx])) (left_trod (by kernel_rfl) (of_decide_eq_true (by kernel_rfl)) h1 hl fun x hx=>hlt x (by simp [hx])) (left_trod (by kernel_rfl) (of_decide_eq_true (by kernel_rfl)) h2 hl fun x hx=>hlt x (by simp [hx])) (left_trod (by kernel_rfl) (of_decide_eq_true (by kernel_rfl)) h3 hl fun x hx=>hlt x (by simp [hx]))
 try simp only [List.append_assoc] at hW'
 exact⟨[d0,d1,d2,d3],[],p0++(p1++(p2++p3)),[],_,[],hW',trodAll_mk1 (shut_bool Try.underlying4 _),ha,rfl,left_kept hl _,fun h=>by cases h⟩
theorem easier_holds:Rows.DryEasierSaid :=
 OpenClaim.holds_of_wide_leaving 8 Try.f8 rfl rfl rfl rfl rfl rfl rfl ⟨rfl,rfl,rfl,rfl,rfl⟩ rfl rfl rfl rfl rfl (by kernel_rfl) Try.func8 (by kernel_rfl)
  (of_decide_eq_true (by kernel_rfl)) (by unfold Func.isWrapper;first | (rw [if_pos (by decide +kernel)];kernel_rfl) | (rw [if_neg (by decide +kernel)];exact⟨rfl,rfl⟩))
  (fun os started H enc _=>easier_lifted os started H enc)
end Go.Proofs.Ytedomogjmhommaa
