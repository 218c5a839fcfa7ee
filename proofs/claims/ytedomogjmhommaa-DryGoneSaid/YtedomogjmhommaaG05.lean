/- For every drying, picks and number the law DryGone returns true, does not panic, and leaves what came in as it was. Conditions: none but those of the statement itself. -/
import Derived.Test.YtedomogjmhommaaG04
set_option linter.all false
set_option maxRecDepth 100000
set_option maxHeartbeats 8000000
namespace Go.Proofs.Ytedomogjmhommaa
open Go.RowKit Go.Con Go.Conc Go.Shelf
local instance dryI108:Lone:=dryL
noncomputable def ops11_2:Array Oper:=opsOf x11_2
theorem x11_2_eq:x11_2=.region 2 ops11_2 false:=by kernel_rfl
noncomputable def ops11_31:Array Oper:=opsOf x11_31
theorem x11_31_eq:x11_31=.region 31 ops11_31 false:=by kernel_rfl
theorem results11 (v:Value) (t:Array Value) (h:t[6]?=some v) (σ:Rn):ResultsC Try.prog Try.f11 (t.map (ren σ)) (ren σ v):=by
 have:=resultsC_tmp (P:=Try.prog) (fn:=Try.f11) (t:=6) rfl (t.map (ren σ))
 simp only [Array.getD_eq_getD_getElem?,Array.getElem?_map,h,Option.map_some,Option.getD_some] at this
 exact this
theorem gone_go (E Fz Arg:Nat→Prop) (W0:World) (Post:Value→World→Prop) (φ:Ph) (W:World) (d:Dry) (ha sa:Option Addr) (hcap scap:Nat) (u:Value) (picks:List Int) (by1:Int) (hby:0≤by1∧by1≤255)
  (hh:Sl W (.slice ha d.heats.length hcap) 2 (d.heats.map two)) (hss:Sl W (.slice sa d.steps.length scap) 6 (d.steps.map Stp.cells)) (hl:d.heats.length≤140737488355328) (sl:d.steps.length≤140737488355328)
  (hu:Sl W u 1 (picks.map fun x=>[u16 x])) (hpx:∀ x∈picks,0≤x∧x≤65535) (hpl:picks.length≤140737488355328)
  (t:Array Value) (hs:t.size=215) (h0:t[0]?=some (d.val ⟨.slice ha d.heats.length hcap,.slice sa d.steps.length scap⟩)) (h1:t[1]?=some u) (h2:t[2]?=some (.int .u8 by1))
  (hPost:∀ Fz1 ρ D own A fr W1 W',Here Try.prog true E Fz1 Arg W0 ρ D own A fr [] W1 W'→Post (ren ρ (.bool true)) W') :
  GoM Try.prog true E Fz Arg W0 (AtEnd Try.prog Post) φ [] (Fr 11 t [.code b11]) [] W:=by
 rw [b11_eq]
 refine Gm.seq ?_
 refine Gm.lone (F:=FW) (fun tt WW=>(tt.size=215∧tt[1]?=some (u)∧tt[2]?=some (.int .u8 by1)∧tt[3]?=some (ptr W.heap.size))∧WW.heap=(W.alloc (.cells (d.cellsA ⟨.slice ha d.heats.length hcap,.slice sa d.steps.length scap⟩) 27)).heap) rfl rfl trivial FW_ok (by kernel_rfl) (by kernel_rfl) (fun τ=>?_) ?_
 ·refine wpIn_mono (f11_0 d ha sa d.heats.length hcap d.steps.length scap u by1 t hs h0 h1 h2 { W with tape:=τ }) ?_
  rintro e a w' ⟨k1,k2,i0,rfl⟩
  exact⟨k1,k2,i0,rfl⟩
 rintro t1 W1 ⟨⟨s1,m1_1,m1_2,m1_3⟩,hW1⟩
 have nA:=alloc_nx (Nx.refl W) (.cells (d.cellsA ⟨.slice ha d.heats.length hcap,.slice sa d.steps.length scap⟩) 27 (0,0))
 have oA:OldC (W.alloc (.cells (d.cellsA ⟨.slice ha d.heats.length hcap,.slice sa d.steps.length scap⟩) 27)) W1:=OldC.same hW1
 have o1:OldC W W1:=(OldC.nx nA).trans oA
 have hB:DBox W1 W.heap.size d ⟨.slice ha d.heats.length hcap,.slice sa d.steps.length scap⟩:=⟨by rw [hW1];simp,fun i v hv=>oA.at (row_cell (al1 rfl).2.2 hv)⟩
 have hh1:=hh.oc o1
 have hss1:=hss.oc o1
 have hu:=hu.oc o1
 clear nA oA o1 hW1 hh hss hs h0 h1 h2
 generalize W.heap.size=p1 at m1_3 hB
 refine Gm.seq (Gm.seq ?_)
 refine Gm.lone (F:=FW) (fun t W=>(t.size=215∧t[1]?=some (u)∧t[2]?=some (.int .u8 by1)∧t[3]?=some (ptr p1)∧t[28]?=some (.bool (out11 d)))∧OldC W1 W) rfl rfl trivial FW_ok (by kernel_rfl) (by kernel_rfl) (fun τ=>?_) ?_
 ·refine wpIn_mono (f11_1 d ⟨.slice ha d.heats.length hcap,.slice sa d.steps.length scap⟩ p1 u by1 t1 s1 m1_1 m1_2 m1_3 { W1 with tape:=τ } (hB.oc (OldC.same rfl)) (hh1.oc (OldC.same rfl)) (hss1.oc (OldC.same rfl)) hl sl) ?_
  rintro e a w' ⟨k1,k2,k3,k4⟩
  exact⟨k1,k2,k3,nx_tape k4⟩
 rintro t2 W2 ⟨⟨s2,m2_1,m2_2,m2_3,m2_28⟩,o2⟩
 clear s1 m1_1 m1_2 m1_3
 by_cases hg:out11 d=true
 ·rw [hg] at m2_28
  refine Gm.cond (b:=true) (eval_tmp m2_28) rfl ?_
  refine Gm.seq ?_
  rw [x11_2_eq]
  refine Gm.region ?_
  rw [show List.range ops11_2.size=[0,1] by kernel_rfl]
  refine Gm.enter (o:=⟨some 29,.call { callee:=.value (.func 17),args:=#[],argTypes:=#[] },_,_,_,none⟩) (c:={ callee:=.value (.func 17),args:=#[],argTypes:=#[] }) (g:=17) (fn:=Try.f17) (body:=b17) rfl rfl rfl rfl (by kernel_rfl) Try.func17 body17_of (by kernel_rfl) ?_
  refine dries_go E Fz Arg W0 _ φ _ [] W2 _ ?_ fun φ1 Wz Fz1 oz=>?_
  ·simp [Try.ntmps17]
  rw [Fr_finish rfl]
  change GoM Try.prog true E Fz1 Arg W0 _ φ1 [] (Fr 11 (putD t2 (some 29) (.bool true)) _) [] Wz
  refine Gm.op (o:=⟨some 6,.assign (.tmp 29),_,_,_,none⟩) (.bool true) Wz rfl rfl (by kernel_rfl) rfl (as_run _ (eval_tmp (by simp [putD,s2]))) id ?_
  refine Gm.regionEnd ?_
  refine Gm.done Try.func11 (by kernel_rfl) (results11 (.bool true) _ (by simp [putD,s2])) ?_
  exact fun ρ D own A fr W' h=>hPost _ ρ D own A fr _ W' h
 have hg' : out11 d=false:=by simpa using hg
 rw [hg'] at m2_28
 have hof:greatD d=false∧dryF d=0:=by
  unfold out11 at hg'
  simp only [Bool.or_eq_false_iff,decide_eq_false_iff_not,Decidable.not_not,ne_eq] at hg'
  exact hg'
 obtain⟨hgr,hF0⟩:=hof
 have hgl:d.heats.length≤40∧d.steps.length≤40:=by
  unfold greatD at hgr
  simp only [Bool.or_eq_false_iff,decide_eq_false_iff_not,Nat.not_lt] at hgr
  exact hgr
 have hO:=dryF_ok hF0
 refine Gm.cond (b:=false) (eval_tmp m2_28) rfl ?_
 refine Gm.skip (Gm.seq ?_)
 have hB:=hB.oc o2
 have hd:DrySl W2 d ⟨.slice ha d.heats.length hcap,.slice sa d.steps.length scap⟩:=⟨hh1.oc o2,hss1.oc o2,by omega,by omega⟩
 have hu:=hu.oc o2
 clear hh1 hss1 o2 hg hg' m2_28 hgr
 generalize hr:(⟨.slice ha d.heats.length hcap,.slice sa d.steps.length scap⟩:R2)=r at *
 clear hr
 have hpF:=planP_ok hO hF0 picks
 have hplen:=planP_len d picks
 have hpb:=planP_bd hO picks
 have ham:=airP_mem hO picks
 have hal:=airP_len d picks
 refine Gm.lone (F:=FW) (fun t W=>∃ vp va,(t.size=215∧t[2]?=some (.int .u8 by1)∧t[3]?=some (ptr p1)∧t[7]?=some (vp)∧t[8]?=some (va))∧OldC W2 W∧Sl W vp 1 ((planP d picks).map one)∧Sl W va 1 ((airP d picks).map one)) rfl rfl trivial FW_ok (by kernel_rfl) (by kernel_rfl) (fun τ=>?_) ?_
 ·refine wpIn_mono (f11_3 d r p1 u by1 t2 s2 m2_1 m2_2 m2_3 { W2 with tape:=τ } (hB.oc (OldC.same rfl)) (hd.oc (OldC.same rfl)) hO picks (hu.oc (OldC.same rfl)) hpx hpl) ?_
  rintro e a w' ⟨k1,k2,vp,va,k3,k4,k5,k6⟩
  exact⟨k1,k2,vp,va,k3,nx_tape k4,k5,k6⟩
 rintro t3 W3 ⟨vp,va,⟨s3,m3_2,m3_3,m3_7,m3_8⟩,o3,sp3,sa3⟩
 have hF:PlA W3 d r p1 vp va (planP d picks) (airP d picks):=⟨hB.oc o3,hd.oc o3,sp3,sa3⟩
 clear hB hd hu o3 sp3 sa3 hpx hpl
 clear s2 m2_1 m2_2 m2_3
 generalize planP d picks=plan at *
 generalize airP d picks=air at *
 have hs5:=hO.s5
 have hPA:=airs_pa hO hplen hpb ham
 have hgone:=gone_in ham hpF hplen hpb
 refine Gm.seq ?_
 refine Gm.lone (F:=FW) (fun t W=>∃ ps pb,(t.size=215∧t[2]?=some (.int .u8 by1)∧t[3]?=some (ptr p1)∧t[7]?=some (vp)∧t[8]?=some (va)∧t[9]?=some (ptr ps)∧t[10]?=some (ptr pb)∧t[11]?=some (num (steamF d plan).2.2))∧OldC W3 W∧W.cell? ⟨ps,0,none⟩=some (num (steamF d plan).1.1)∧W.cell? ⟨ps,1,none⟩=some (num (steamF d plan).1.2)∧W.cell? ⟨pb,0,none⟩=some (num (steamF d plan).2.1.1)∧W.cell? ⟨pb,1,none⟩=some (num (steamF d plan).2.1.2)) rfl rfl trivial FW_ok (by kernel_rfl) (by kernel_rfl) (fun τ=>?_) ?_
 ·refine wpIn_mono (f11_4 d r p1 vp va plan air by1 (steamF d plan) t3 s3 m3_2 m3_3 m3_7 m3_8 { W3 with tape:=τ } (hF.oc (OldC.same rfl)) (by omega) rfl) ?_
  rintro e a w' ⟨k1,k2,ps,pb,k3,k4,k5⟩
  exact⟨k1,k2,ps,pb,k3,nx_tape k4,k5⟩
 rintro t4 W4 ⟨ps,pb,⟨s4,m4_2,m4_3,m4_7,m4_8,m4_9,m4_10,m4_11⟩,o4,q0,q1,q2,q3⟩
 have hF:=hF.oc o4
 clear o4
 clear s3 m3_2 m3_3 m3_7 m3_8
 rw [hgone.2.2] at m4_11
 have hfo:=follow_of hpF ham
 refine Gm.seq ?_
 refine Gm.lone (F:=FW) (fun t W=>∃ vl,(t.size=215∧t[2]?=some (.int .u8 by1)∧t[3]?=some (ptr p1)∧t[7]?=some (vp)∧t[8]?=some (va)∧t[9]?=some (ptr ps)∧t[10]?=some (ptr pb)∧t[11]?=some (num 0)∧t[12]?=some (vl)∧t[13]?=some (num 0))∧OldC W4 W∧Sl W vl 3 ((followS d d.start plan air).map St.cells)) rfl rfl trivial FW_ok (by kernel_rfl) (by kernel_rfl) (fun τ=>?_) ?_
 ·refine wpIn_mono (f11_5 d r p1 ps pb vp va plan air by1 _ t4 s4 m4_2 m4_3 m4_7 m4_8 m4_9 m4_10 m4_11 { W4 with tape:=τ } (hF.oc (OldC.same rfl)) (by omega) (by omega) hfo) ?_
  rintro e a w' ⟨k1,k2,vl,k3,k4,k5⟩
  exact⟨k1,k2,vl,k3,nx_tape k4,k5⟩
 rintro t5 W5 ⟨vl,⟨s5,m5_2,m5_3,m5_7,m5_8,m5_9,m5_10,m5_11,m5_12,m5_13⟩,o5,hL⟩
 have hF:=hF.oc o5
 have q0:=o5.at q0
 have q1:=o5.at q1
 have q2:=o5.at q2
 have q3:=o5.at q3
 clear o5
 clear s4 m4_2 m4_3 m4_7 m4_8 m4_9 m4_10 m4_11
 have hLl:=followS_len d d.start plan air hPA.len
 refine Gm.seq ?_
 refine Gm.lone (F:=FW) (fun t W=>(t.size=215∧t[2]?=some (.int .u8 by1)∧t[3]?=some (ptr p1)∧t[7]?=some (vp)∧t[8]?=some (va)∧t[9]?=some (ptr ps)∧t[10]?=some (ptr pb)∧t[11]?=some (num 0)∧t[12]?=some (vl)∧t[13]?=some (num 0))∧OldC W5 W) rfl rfl trivial FW_ok (by kernel_rfl) (by kernel_rfl) (fun τ=>?_) ?_
 ·refine wpIn_mono (f11_6 d r p1 ps pb vp va vl by1 _ t5 s5 m5_2 m5_3 m5_7 m5_8 m5_9 m5_10 m5_11 m5_12 m5_13 { W5 with tape:=τ } (hF.B.oc (OldC.same rfl)) (hF.S.oc (OldC.same rfl)) (hL.oc (OldC.same rfl)) (by omega)) ?_
  rintro e a w' ⟨k1,k2,k3,k4⟩
  exact⟨k1,k2,k3,nx_tape k4⟩
 rintro t6 W6 ⟨⟨s6,m6_2,m6_3,m6_7,m6_8,m6_9,m6_10,m6_11,m6_12,m6_13⟩,o6⟩
 have hF:=hF.oc o6
 have q0:=o6.at q0
 have q1:=o6.at q1
 have q2:=o6.at q2
 have q3:=o6.at q3
 have hL:=hL.oc o6
 clear o6
 clear s5 m5_2 m5_3 m5_7 m5_8 m5_9 m5_10 m5_11 m5_12 m5_13
 refine Gm.seq ?_
 refine Gm.lone (F:=FW) (fun t W=>(t.size=215∧t[2]?=some (.int .u8 by1)∧t[3]?=some (ptr p1)∧t[7]?=some (vp)∧t[8]?=some (va)∧t[9]?=some (ptr ps)∧t[10]?=some (ptr pb)∧t[11]?=some (num 0)∧t[12]?=some (vl)∧t[13]?=some (num 0)∧t[14]?=some (ptr W6.heap.size))∧OldC W6 W∧W.heap[W6.heap.size]?=some (.cells d.start.cells.toArray 24 (0,0))) rfl rfl trivial FW_ok (by kernel_rfl) (by kernel_rfl) (fun τ=>?_) ?_
 ·refine wpIn_mono (f11_8 d r p1 ps pb vp va vl by1 t6 s6 m6_2 m6_3 m6_7 m6_8 m6_9 m6_10 m6_11 m6_12 m6_13 { W6 with tape:=τ } (hF.B.oc (OldC.same rfl))) ?_
  rintro e a w' ⟨k1,k2,k3,k4,k5⟩
  exact⟨k1,k2,k3,(OldC.same (w:=W6) (w':={ W6 with tape:=τ }) rfl).trans k4,k5⟩
 rintro t8 W8 ⟨⟨s8,m8_2,m8_3,m8_7,m8_8,m8_9,m8_10,m8_11,m8_12,m8_13,m8_14⟩,o8,g8⟩
 clear s6 m6_2 m6_3 m6_7 m6_8 m6_9 m6_10 m6_11 m6_12 m6_13
 obtain⟨q,hq⟩:∃ q,W6.heap.size=q:=⟨_,rfl⟩
 rw [hq] at m8_14 g8
 refine Gm.seq ?_
 refine Gm.lone (F:=FW) (fun t W=>(t.size=215∧t[2]?=some (.int .u8 by1)∧t[3]?=some (ptr p1)∧t[7]?=some (vp)∧t[8]?=some (va)∧t[9]?=some (ptr ps)∧t[10]?=some (ptr pb)∧t[12]?=some (vl)∧t[14]?=some (ptr q))∧OldC W6 W∧W.heap[q]?=some (.cells (stAt d d.start plan air plan.length).cells.toArray 24 (0,0))) rfl rfl trivial FW_ok (by kernel_rfl) (by kernel_rfl) (fun τ=>?_) ?_
 ·refine wpIn_mono (f11_9 d r p1 ps pb q vp va vl plan air by1 W6 t8 s8 m8_2 m8_3 m8_7 m8_8 m8_9 m8_10 m8_12 m8_14 { W8 with tape:=τ } hF hL hO hPA (by omega) (o8.trans (OldC.same rfl)) (by omega) g8) ?_
  rintro e a w' ⟨k1,k2,k3,k4,k5⟩
  exact⟨k1,k2,k3,k4,k5⟩
 rintro t9 W9 ⟨⟨s9,m9_2,m9_3,m9_7,m9_8,m9_9,m9_10,m9_12,m9_14⟩,o9,g9⟩
 have hF:=hF.oc o9
 have q0:=o9.at q0
 have q1:=o9.at q1
 have q2:=o9.at q2
 have q3:=o9.at q3
 have hL:=hL.oc o9
 clear o9 o8 g8 hq
 clear s8 m8_2 m8_3 m8_7 m8_8 m8_9 m8_10 m8_11 m8_12 m8_13 m8_14
 have hsO:=stAt_ok hO hPA (stF_ok.1 hO.start) plan.length (Nat.le_refl _)
 have hs0:=stF_ok.1 hO.start
 generalize stAt d d.start plan air plan.length=s at *
 have w0:W9.cell? ⟨q,0,none⟩=some (num s.w):=row_cell g9 rfl
 have w1:W9.cell? ⟨q,1,none⟩=some (num s.c):=row_cell g9 rfl
 clear g9
 refine Gm.seq ?_
 refine Gm.lone (F:=FW) (fun t W=>(t.size=215∧t[2]?=some (.int .u8 by1)∧t[3]?=some (ptr p1)∧t[7]?=some (vp)∧t[8]?=some (va)∧t[9]?=some (ptr ps)∧t[10]?=some (ptr pb)∧t[12]?=some (vl)∧t[16]?=some (num (d.start.w-s.w))∧t[17]?=some (num (d.start.c-s.c)))∧OldC W9 W) rfl rfl trivial FW_ok (by kernel_rfl) (by kernel_rfl) (fun τ=>?_) ?_
 ·refine wpIn_mono (f11_15 d r p1 ps pb q vp va vl by1 s t9 s9 m9_2 m9_3 m9_7 m9_8 m9_9 m9_10 m9_12 m9_14 { W9 with tape:=τ } (hF.B.oc (OldC.same rfl)) w0 w1 hs0.w hs0.c hsO.w hsO.c) ?_
  rintro e a w' ⟨k1,k2,k3,k4⟩
  exact⟨k1,k2,k3,nx_tape k4⟩
 rintro t15 W15 ⟨⟨s15,m15_2,m15_3,m15_7,m15_8,m15_9,m15_10,m15_12,m15_16,m15_17⟩,o15⟩
 have hF:=hF.oc o15
 have q0:=o15.at q0
 have q1:=o15.at q1
 have q2:=o15.at q2
 have q3:=o15.at q3
 have hL:=hL.oc o15
 clear o15 w0 w1
 clear s9 m9_2 m9_3 m9_7 m9_8 m9_9 m9_10 m9_12 m9_14
 refine Gm.seq ?_
 refine Gm.lone (F:=FW) (fun t W=>(t.size=215∧t[2]?=some (.int .u8 by1)∧t[3]?=some (ptr p1)∧t[7]?=some (vp)∧t[8]?=some (va)∧t[12]?=some (vl))∧OldC W15 W) rfl rfl trivial FW_ok (by kernel_rfl) (by kernel_rfl) (fun τ=>?_) ?_
 ·refine wpIn_mono (f11_16 p1 ps pb vp va vl by1 _ _ _ _ _ _ t15 s15 m15_2 m15_3 m15_7 m15_8 m15_9 m15_10 m15_12 m15_16 m15_17 { W15 with tape:=τ } q0 q1 q2 q3 hgone.1 hgone.2.1) ?_
  rintro e a w' ⟨k1,k2,k3,k4⟩
  exact⟨k1,k2,k3,nx_tape k4⟩
 rintro t16 W16 ⟨⟨s16,m16_2,m16_3,m16_7,m16_8,m16_12⟩,o16⟩
 have hF:=hF.oc o16
 have hL:=hL.oc o16
 clear o16 q0 q1 q2 q3
 clear s15 m15_2 m15_3 m15_7 m15_8 m15_9 m15_10 m15_12 m15_16 m15_17
 refine Gm.seq ?_
 refine Gm.lone (F:=FW) (fun t W=>(t.size=215∧t[2]?=some (.int .u8 by1)∧t[3]?=some (ptr p1)∧t[7]?=some (vp)∧t[8]?=some (va)∧t[12]?=some (vl)∧t[18]?=some (.slice none 0 0))∧OldC W16 W) rfl rfl trivial FW_ok (by kernel_rfl) (by kernel_rfl) (fun τ=>?_) ?_
 ·refine wpIn_mono (f11_18 p1 vp va vl by1 t16 s16 m16_2 m16_3 m16_7 m16_8 m16_12 { W16 with tape:=τ }) ?_
  rintro e a w' ⟨k1,k2,k3,rfl⟩
  exact⟨k1,k2,k3,OldC.same rfl⟩
 rintro t18 W18 ⟨⟨s18,m18_2,m18_3,m18_7,m18_8,m18_12,m18_18⟩,o18⟩
 have hF:=hF.oc o18
 have hL:=hL.oc o18
 clear o18
 clear s16 m16_2 m16_3 m16_7 m16_8 m16_12
 refine Gm.seq ?_
 refine Gm.lone (F:=FW) (fun t W=>∃ vd,(t.size=215∧t[3]?=some (ptr p1)∧t[7]?=some (vp)∧t[8]?=some (va)∧t[12]?=some (vl)∧t[18]?=some (vd))∧OldC W18 W∧Sl W vd 1 ((drier d air by1).map one)) rfl rfl trivial FW_ok (by kernel_rfl) (by kernel_rfl) (fun τ=>?_) ?_
 ·refine wpIn_mono (f11_19 d r p1 vp va vl plan air by1 t18 s18 m18_2 m18_3 m18_7 m18_8 m18_12 m18_18 { W18 with tape:=τ } (hF.oc (OldC.same rfl)) hO hal (fun k x a hx hk=>damps_mem ((airs_mem.1 ham).2 k x a hx hk)) hby) ?_
  rintro e a w' ⟨k1,k2,vd,k3,k4,k5⟩
  exact⟨k1,k2,vd,k3,nx_tape k4,k5⟩
 rintro t19 W19 ⟨vd,⟨s19,m19_3,m19_7,m19_8,m19_12,m19_18⟩,o19,hV⟩
 have hF:=hF.oc o19
 have hL:=hL.oc o19
 clear o19
 clear s18 m18_2 m18_3 m18_7 m18_8 m18_12 m18_18
 have hdm:=drier_mem hby.1 ham
 have hfo2:=follow_of hpF hdm
 have hdl:=drier_len d air by1
 have hPA2:=airs_pa hO hplen hpb hdm
 have hKl:=followS_len d d.start plan (drier d air by1) hPA2.len
 refine Gm.seq ?_
 refine Gm.lone (F:=FW) (fun t W=>∃ vk,(t.size=215∧t[3]?=some (ptr p1)∧t[12]?=some (vl)∧t[20]?=some (vk)∧t[11]?=some (num 0))∧OldC W19 W∧Sl W vk 3 ((followS d d.start plan (drier d air by1)).map St.cells)) rfl rfl trivial FW_ok (by kernel_rfl) (by kernel_rfl) (fun τ=>?_) ?_
 ·refine wpIn_mono (f11_23 d r p1 vp va vl vd plan (drier d air by1) _ t19 s19 m19_3 m19_7 m19_8 m19_12 m19_18 { W19 with tape:=τ } (hF.B.oc (OldC.same rfl)) (hF.S.oc (OldC.same rfl)) (hF.p.oc (OldC.same rfl)) (hV.oc (OldC.same rfl)) (by omega) (by omega) hfo2) ?_
  rintro e a w' ⟨k1,k2,vk,k3,k4,k5⟩
  exact⟨k1,k2,vk,k3,nx_tape k4,k5⟩
 rintro t23 W23 ⟨vk,⟨s23,m23_3,m23_12,m23_20,m23_11⟩,o23,hK⟩
 have hL:=hL.oc o23
 clear o23 hF hV
 clear s19 m19_3 m19_7 m19_8 m19_12 m19_18
 refine Gm.seq ?_
 refine Gm.lone (F:=FW) (fun t W=>(t.size=215∧t[12]?=some (vl)∧t[20]?=some (vk))∧OldC W23 W) rfl rfl trivial FW_ok (by kernel_rfl) (by kernel_rfl) (fun τ=>?_) ?_
 ·refine wpIn_mono (f11_24 p1 vl vk _ _ t23 s23 m23_3 m23_12 m23_20 m23_11 { W23 with tape:=τ } (hL.oc (OldC.same rfl)) (hK.oc (OldC.same rfl)) (by omega) (by omega)) ?_
  rintro e a w' ⟨k1,k2,k3,k4⟩
  exact⟨k1,k2,k3,nx_tape k4⟩
 rintro t24 W24 ⟨⟨s24,m24_12,m24_20⟩,o24⟩
 have hL:=hL.oc o24
 have hK:=hK.oc o24
 clear o24
 clear s23 m23_3 m23_12 m23_20 m23_11
 refine Gm.seq ?_
 refine Gm.lone (F:=FW) (fun t W=>t.size=215∧OldC W24 W) rfl rfl trivial FW_ok (by kernel_rfl) (by kernel_rfl) (fun τ=>?_) ?_
 ·refine wpIn_mono (f11_26 vl vk _ _ t24 s24 m24_12 m24_20 { W24 with tape:=τ } (hL.oc (OldC.same rfl)) (hK.oc (OldC.same rfl)) (by omega) (by omega) ?_) ?_
  ·intro i x y hx hy
   have hi:i<plan.length:=by have:=(List.getElem?_eq_some_iff.1 hy).1;omega
   have h1:plan[i]?=some plan[i]:=List.getElem?_eq_getElem hi
   have h2:air[i]?=some (air[i]'(by omega)):=List.getElem?_eq_getElem (by omega)
   have h3:(drier d air by1)[i]?=some ((drier d air by1)[i]'(by omega)):=List.getElem?_eq_getElem (by omega)
   rw [followS_at d d.start plan air i _ _ h1 h2,Option.some.injEq] at hy
   rw [followS_at d d.start plan _ i _ _ h1 h3,Option.some.injEq] at hx
   rw [← hx,← hy]
   exact drier_w hO hby.1 ham hplen hpb (i+1) hi
  rintro e a w' ⟨k1,k2,k3,k4⟩
  exact⟨k1,k2,k3,nx_tape k4⟩
 rintro t26 W26 ⟨s26,o26⟩
 clear o26 hL hK
 refine Gm.seq ?_
 rw [x11_31_eq]
 refine Gm.region ?_
 rw [show List.range ops11_31.size=[0,1] by kernel_rfl]
 refine Gm.enter (o:=⟨some 214,.call { callee:=.value (.func 17),args:=#[],argTypes:=#[] },_,_,_,none⟩) (c:={ callee:=.value (.func 17),args:=#[],argTypes:=#[] }) (g:=17) (fn:=Try.f17) (body:=b17) rfl rfl rfl rfl (by kernel_rfl) Try.func17 body17_of (by kernel_rfl) ?_
 refine dries_go E Fz Arg W0 _ φ _ [] W26 _ ?_ fun φ1 Wz Fz1 oz=>?_
 ·simp [Try.ntmps17]
 rw [Fr_finish rfl]
 change GoM Try.prog true E Fz1 Arg W0 _ φ1 [] (Fr 11 (putD t26 (some 214) (.bool true)) _) [] Wz
 refine Gm.op (o:=⟨some 6,.assign (.tmp 214),_,_,_,none⟩) (.bool true) Wz rfl rfl (by kernel_rfl) rfl (as_run _ (eval_tmp (by simp [putD,s26]))) id ?_
 refine Gm.regionEnd ?_
 refine Gm.done Try.func11 (by kernel_rfl) (results11 (.bool true) _ (by simp [putD,s26])) ?_
 exact fun ρ D own A fr W' h=>hPost _ ρ D own A fr _ W' h
end Go.Proofs.Ytedomogjmhommaa
namespace Go.Proofs.Ytedomogjmhommaa
open Go.RowKit Go.Con Go.Conc Go.ChangeShapes Go.WideShapes Go.ChangeAt
local instance dryI109:Lone:=dryL
section
variable {H:Type} {enc:TypeId×Value→H} {W:World}
theorem read_u16 {n:Nat} {cs:List Value} {y:DataW H×List MemPlace} (h:trodW enc W n 154 cs=some y):∃ k:Int,cs=[u16 k]∧(0≤k∧k≤65535):=by
 obtain⟨k,h1,_,h3⟩:=DataW.trod_int Try.underlying154 h
 simp only [Lit.wf,Bool.and_eq_true,decide_eq_true_eq] at h3
 exact⟨k,h1,h3⟩
theorem picks_open {v:Value} {dd:DataW H} {p:List MemPlace} {base:Nat} (hv:Value.okWide Try.prog W .any base 62 v) (h:DataW.Trod enc Try.prog W 0 (fun _=>true) true 62 v dd p) (hfit:Fits 62 dd) :
  ∃ l:List Int,Sl W v 1 (l.map fun x=>[u16 x])∧Kind W v∧l.length≤140737488355328∧∀ x∈l,0≤x∧x≤65535:=by
 obtain⟨fuel,hf⟩:=h
 have hv' : Cell.okWide Try.prog W .any 0 62 v:=by
  simp only [Value.okWide,Try.underlying62] at hv
  exact hv
 have hc:v.cells.toList=[v]:=by
  simp only [Cell.okWide,Try.underlying62,Cell.ok] at hv'
  cases v<;>first | rfl | (exact absurd hv' (by simp))
 rw [hc] at hf
 obtain⟨l,a1,a3,a4,a5⟩:=sl_open (en:=fun x=>[u16 x]) (ok:=fun x=>0≤x∧x≤65535) Try.underlying62 (by decide +kernel) (fun n cs' y h hff=>read_u16 h) hf hfit hv'
 rw [show Try.prog.cellsOf 154=1 by kernel_rfl] at a1
 exact⟨l,a1,a3,Nat.le_trans a4 (by decide),a5⟩
end
theorem inv_u16 {ix:Value→Nat} (n:Int):inv Try.prog ix (u16 n)=u16 n:=by simp [inv]
theorem picks_entry {c:Nat→Value} {W:World} {v:Value} {xs:List Int} (h:Sl W v 1 (xs.map fun x=>[u16 x])):Sl (entryW Try.prog c (CD W) W) v 1 (xs.map fun x=>[u16 x]):=by
 refine h.entry ?_
 intro l hl x hx
 obtain⟨z,_,rfl⟩:=List.mem_map.1 hl
 simp only [List.mem_singleton] at hx
 subst hx
 exact inv_u16 _
end Go.Proofs.Ytedomogjmhommaa
namespace Go.Proofs.Ytedomogjmhommaa
open Go.RowKit Go.Con Go.Conc Go.ChangeShapes Go.WideShapes Go.ChangeAt
local instance dryI110:Lone:=dryL
theorem body11_of:Try.f11.body=some b11:=by kernel_rfl
theorem alk_u8 {W:World} {E:Nat→Prop} (n:Int):Alk W E (.int .u8 n):=⟨fun c=>by simp [ren],by simp [ren]⟩
theorem gone_fin (d:Dry) (r:R2) (u:Value) (picks:List Int) (by1:Int) (hby:0≤by1∧by1≤255) (W:World) (hd:DryIn W d r) (h1:Sl W u 1 (picks.map fun x=>[u16 x])) (k1:Kind W u) (l1:picks.length≤140737488355328) (x1:∀ x∈picks,0≤x∧x≤65535) :
  Con.Fin Try.prog (fun u W'=>u=.bool true∧Con.Left W W') (solo (G (Frame.enter Try.prog 11 #[d.val r,u,.int .u8 by1] .normal) []) W) #[]:=by
 refine law_fin Try.func11 body11_of (fun v hv=>?_) fun c Post hPost=>?_
 ·simp only [List.mem_cons,List.not_mem_nil,or_false] at hv
  rcases hv with rfl | rfl | rfl
  ·exact hd.same
  ·exact Alk.slice h1.isSlice k1
  ·exact alk_u8 _
 ·obtain⟨rh,rs⟩:=r
  obtain⟨ha,hcap,q1⟩:=hd.heats.cases
  obtain⟨sa,scap,q2⟩:=hd.steps.cases
  dsimp only at q1 q2
  rw [List.length_map] at q1 q2
  subst q1 q2
  have he:=hd.entry (c:=c)
  exact gone_go _ _ _ _ Post _ _ d ha sa hcap scap u picks by1 hby he.heats he.steps hd.hl hd.sl (picks_entry h1) x1 l1 _ (by simp [Try.ntmps11]) (by simp) (by simp) (by simp) hPost
theorem gone_lifted (os:Os) (started:os.Started) (H:Type) (enc:TypeId×Value→H) :
  ReturnsInLeavingWide {} Try.checked os 11 .any (Rows.dryGoneSpec.pre6 enc Try.prog Try.f11 [] false) (Rows.dryGoneSpec.post enc Try.prog Try.f11 false true false false):=by
 refine returnsInLeavingWide_of_change_sized (C:=Try.checked) own_knob started Try.func11
  (ChangeSpec.witness6 (enc:=enc) (C:=Try.checked) false ⟨#[],#[.agg #[.slice none 0 0,.int .i64 0,.int .i64 0,.int .i64 0,.int .i64 0,.int .i64 0,.slice none 0 0],.slice none 0 0,.int .u8 0],[]⟩ 8 (by kernel_rfl) (by kernel_rfl) (by kernel_rfl) (by kernel_rfl)) ?_
 intro W base args ds gs before hval0 hW _ hsz _
 have hval:∀ (j:Nat) t v,Try.f11.params[j]?=some t→args[j]?=some v→Value.okWide Try.prog W .any base t v:=hval0
 have hW':=hW
 obtain⟨p,q,hA0,hV,rfl,hfz,hnd⟩:=hW
 have hA:DataW.TrodAll enc Try.prog W 0 (fun _=>true) true Try.f11.params.toList args.toList ds p:=hA0
 rw [Try.params11] at hA hval
 obtain⟨v0,v1,v2,d0,d1,d2,p0,p1,p2,rfl,rfl,rfl,h0,h1,h2⟩:=trodAll_three hA
 obtain⟨rfl,rfl⟩:=trodVars_none hV
 have hfit:∀ (j:Nat) (t:TypeId) (dd:DataW H),Try.f11.params.toList[j]?=some t→[d0,d1,d2][j]?=some dd→Fits t dd:=fun j t dd ht hdd n hn=>by
  have:=List.all_eq_true.1 hsz n (DataW.weights_mem_each (P:=Try.prog) (j:=j) (t:=t) (d:=dd) (by
   have:(Try.f11.params.toList++[])[j]?=some t:=by rw [List.append_nil];exact ht
   exact this) (by
   have:([d0,d1,d2]++[])[j]?=some dd:=by rw [List.append_nil];exact hdd
   exact this) n hn)
  simpa using this
 have hpq:Try.f11.params.toList=[27,62,5]:=by rw [Try.params11]
 rw [hpq] at hfit
 obtain⟨d,r,rfl,hd⟩:=dry_open (hval 0 27 v0 rfl rfl) h0 (hfit 0 27 d0 rfl rfl)
 obtain⟨picks,hp1,hp2,hp3,hp4⟩:=picks_open (hval 1 62 v1 rfl rfl) h1 (hfit 1 62 d1 rfl rfl)
 obtain⟨by1,rfl,hd2,hq2,hw2⟩:=open_int Try.underlying5 (hval 2 5 v2 rfl rfl) h2
 clear hA0 hval0
 simp only [List.append_nil] at hW'
 have hlt:∀ x∈p0++(p1++(p2++[])),x.block<W.heap.size:=fun x hx=>by
  have:=hW'.lt x (by simpa using hx)
  simpa using this
 refine fin_post (gone_fin d r v1 picks by1 (bounds_u8 hw2) W hd hp1 hp2 hp3 hp4) fun W' hl=>?_
 have ha:=trodAll_mk3 (left_trod (by kernel_rfl) (of_decide_eq_true (by kernel_rfl)) h0 hl fun x hx=>hlt x (by simp [hx])) (left_trod (by kernel_rfl) (of_decide_eq_true (by kernel_rfl)) h1 hl fun x hx=>hlt x (by simp [hx])) (left_trod (by kernel_rfl) (of_decide_eq_true (by kernel_rfl)) h2 hl fun x hx=>hlt x (by simp [hx]))
 rw [List.append_assoc] at hW'
 exact⟨[d0,d1,d2],[],p0++(p1++p2),[],_,[],hW',trodAll_mk1 (shut_bool Try.underlying4 _),ha,rfl,left_kept hl _,fun h=>by cases h⟩
theorem gone_holds:Rows.DryGoneSaid :=
 OpenClaim.holds_of_wide_leaving 11 Try.f11 rfl rfl rfl rfl rfl rfl rfl ⟨rfl,rfl,rfl,rfl,rfl⟩ rfl rfl rfl rfl rfl (by kernel_rfl) Try.func11 (by kernel_rfl)
  (of_decide_eq_true (by kernel_rfl)) (by unfold Func.isWrapper;first | (rw [if_pos (by decide +kernel)];kernel_rfl) | (rw [if_neg (by decide +kernel)];exact⟨rfl,rfl⟩))
  (fun os started H enc _=>gone_lifted os started H enc)
end Go.Proofs.Ytedomogjmhommaa
