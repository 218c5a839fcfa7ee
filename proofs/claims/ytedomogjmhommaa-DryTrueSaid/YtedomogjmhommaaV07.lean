/- For every drying and picks the law DryTrue returns true (Choose for Start agrees with Safe; Proves accepts the sets of Safe; on the way from Start each heat that Choose returns may be chosen, keeps the window and leads into the next set of Safe), does not panic, and leaves what came in as it was. Conditions: none but those of the statement itself. -/
import Derived.Test.YtedomogjmhommaaV06
set_option linter.all false
set_option maxRecDepth 100000
set_option maxHeartbeats 8000000
namespace Go.Proofs.Ytedomogjmhommaa
open Go.RowKit Go.Con Go.Conc Go.Shelf
local instance dryI142:Lone:=dryL
noncomputable def ops14_2:Array Oper:=opsOf x14_2
theorem x14_2_eq:x14_2=.region 2 ops14_2 false:=by kernel_rfl
noncomputable def ops14_12:Array Oper:=opsOf x14_12
theorem x14_12_eq:x14_12=.region 12 ops14_12 false:=by kernel_rfl
theorem true_go (E Fz Arg:Nat→Prop) (W0:World) (Post:Value→World→Prop) (φ:Ph) (W:World) (d:Dry) (ha sa:Option Addr) (hcap scap:Nat) (u:Value) (picks:List Int)
  (hh:Sl W (.slice ha d.heats.length hcap) 2 (d.heats.map two)) (hss:Sl W (.slice sa d.steps.length scap) 6 (d.steps.map Stp.cells)) (hl:d.heats.length≤140737488355328) (sl:d.steps.length≤140737488355328)
  (hu:Sl W u 1 (picks.map fun x=>[u16 x])) (hpx:∀ x∈picks,0≤x∧x≤65535) (hpl:picks.length≤140737488355328)
  (t:Array Value) (hs:t.size=160) (h0:t[0]?=some (d.val ⟨.slice ha d.heats.length hcap,.slice sa d.steps.length scap⟩)) (h1:t[1]?=some (u))
  (hPost:∀ Fz1 ρ D own A fr W1 W',Here Try.prog true E Fz1 Arg W0 ρ D own A fr [] W1 W'→Post (ren ρ (.bool true)) W') :
  GoM Try.prog true E Fz Arg W0 (AtEnd Try.prog Post) φ [] (Fr 14 t [.code b14]) [] W:=by
 rw [b14_eq]
 refine Gm.seq ?_
 refine Gm.lone (F:=FW) (fun tt WW=>(tt.size=160∧tt[1]?=some (u)∧tt[2]?=some (ptr W.heap.size))∧WW.heap=(W.alloc (.cells (d.cellsA ⟨.slice ha d.heats.length hcap,.slice sa d.steps.length scap⟩) 27)).heap) rfl rfl trivial FW_ok (by kernel_rfl) (by kernel_rfl) (fun τ=>?_) ?_
 ·refine wpIn_mono (f14_0 d ha sa d.heats.length hcap d.steps.length scap u t hs h0 h1 { W with tape:=τ }) ?_
  rintro e a w' ⟨k1,k2,i0,rfl⟩
  exact⟨k1,k2,i0,rfl⟩
 rintro t1 W1 ⟨⟨s1,m1_1,m1_2⟩,hW1⟩
 have nA:=alloc_nx (Nx.refl W) (.cells (d.cellsA ⟨.slice ha d.heats.length hcap,.slice sa d.steps.length scap⟩) 27 (0,0))
 have oA:OldC (W.alloc (.cells (d.cellsA ⟨.slice ha d.heats.length hcap,.slice sa d.steps.length scap⟩) 27)) W1:=OldC.same hW1
 have o1:OldC W W1:=(OldC.nx nA).trans oA
 have hB:DBox W1 W.heap.size d ⟨.slice ha d.heats.length hcap,.slice sa d.steps.length scap⟩:=⟨by rw [hW1];simp,fun i v hv=>oA.at (row_cell (al1 rfl).2.2 hv)⟩
 have hh:=hh.oc o1
 have hss:=hss.oc o1
 have hu:=hu.oc o1
 clear nA oA o1 hW1 hs h0 h1
 generalize W.heap.size=p1 at m1_2 hB
 refine Gm.seq ?_
 refine Gm.seq ?_
 refine Gm.lone (F:=FW) (fun tt WW=>(tt.size=160∧tt[1]?=some (u)∧tt[2]?=some (ptr p1)∧tt[23]?=some (.bool (out11 d)))∧OldC W1 WW) rfl rfl trivial FW_ok (by kernel_rfl) (by kernel_rfl) (fun τ=>?_) ?_
 ·refine wpIn_mono (f14_1 d ⟨.slice ha d.heats.length hcap,.slice sa d.steps.length scap⟩ p1 u t1 s1 m1_1 m1_2 { W1 with tape:=τ } (hB.oc (OldC.same rfl)) (hh.oc (OldC.same rfl)) (hss.oc (OldC.same rfl)) hl sl) ?_
  rintro e a w' ⟨k1,k2,k3,k4⟩
  exact⟨k1,k2,k3,nx_tape k4⟩
 rintro t2 W2 ⟨⟨s2,m2_1,m2_2,m2_23⟩,o2⟩
 have hB:=hB.oc o2
 have hh:=hh.oc o2
 have hss:=hss.oc o2
 have hu:=hu.oc o2
 clear o2
 clear s1 m1_1 m1_2
 by_cases hg:out11 d=true
 ·rw [hg] at m2_23
  refine Gm.cond (b:=true) (eval_tmp m2_23) rfl ?_
  refine Gm.seq ?_
  rw [x14_2_eq]
  refine Gm.region ?_
  rw [show List.range ops14_2.size=[0,1] by kernel_rfl]
  refine Gm.enter (o:=⟨some 24,.call { callee:=.value (.func 17),args:=#[],argTypes:=#[] },_,_,_,none⟩) (c:={ callee:=.value (.func 17),args:=#[],argTypes:=#[] }) (g:=17) (fn:=Try.f17) (body:=b17) rfl rfl rfl rfl (by kernel_rfl) Try.func17 body17_of (by kernel_rfl) ?_
  refine dries_go E Fz Arg W0 _ φ _ [] W2 _ ?_ fun φ1 Wz Fz1 oz=>?_
  ·simp [Try.ntmps17]
  rw [Fr_finish rfl]
  change GoM Try.prog true E Fz1 Arg W0 _ φ1 [] (Fr 14 (putD t2 (some 24) (.bool true)) _) [] Wz
  refine Gm.op (o:=⟨some 4,.assign (.tmp 24),_,_,_,none⟩) (.bool true) Wz rfl rfl (by kernel_rfl) rfl (as_run _ (eval_tmp (by simp [putD,s2]))) id ?_
  refine Gm.regionEnd ?_
  refine Gm.done Try.func14 (by kernel_rfl) (results14 (.bool true) _ (by simp [putD,s2])) ?_
  exact fun ρ D own A fr W' h=>hPost _ ρ D own A fr _ W' h
 have hg' : out11 d=false:=by simpa using hg
 rw [hg'] at m2_23
 have hof:greatD d=false∧dryF d=0:=by
  unfold out11 at hg'
  simp only [Bool.or_eq_false_iff,decide_eq_false_iff_not,Decidable.not_not,ne_eq] at hg'
  exact hg'
 obtain⟨hgr,hF0⟩:=hof
 have hgl:d.heats.length≤40∧d.steps.length≤40:=by
  unfold greatD at hgr
  simp only [Bool.or_eq_false_iff,decide_eq_false_iff_not,Nat.not_lt] at hgr
  exact hgr
 have hO:=dryF_ok hF0
 refine Gm.cond (b:=false) (eval_tmp m2_23) rfl ?_
 refine Gm.skip ?_
 have hd:DrySl W2 d ⟨.slice ha d.heats.length hcap,.slice sa d.steps.length scap⟩:=⟨hh,hss,by omega,by omega⟩
 clear hh hss hg hg' m2_23 hgr
 generalize hr:(⟨.slice ha d.heats.length hcap,.slice sa d.steps.length scap⟩:R2)=r at *
 clear hr
 obtain⟨sf,hsf⟩:∃ sf,safeF d=sf:=⟨_,rfl⟩
 have hcs:=safe_cases hF0
 have hst:=fun (h:d.steps.length≠0)=>choose_start hO hF0 h
 rw [hsf] at hcs hst
 refine Gm.seq ?_
 refine Gm.lone (F:=FW) (fun tt WW=>∃ vl,(tt.size=160∧tt[1]?=some (u)∧tt[2]?=some (ptr p1)∧tt[5]?=some (vl)∧tt[6]?=some (.bool sf.2.1)∧tt[7]?=some (num sf.2.2))∧OldC W2 WW∧SetsSl WW vl sf.1) rfl rfl trivial FW_ok (by kernel_rfl) (by kernel_rfl) (fun τ=>?_) ?_
 ·refine wpIn_mono (f14_3 d r p1 u sf t2 s2 m2_1 m2_2 { W2 with tape:=τ } (hB.oc (OldC.same rfl)) (hd.oc (OldC.same rfl)) hsf) ?_
  rintro e a w' ⟨k1,k2,vl,k3,k4,y0⟩
  exact⟨k1,k2,vl,k3,nx_tape k4,y0⟩
 rintro t3 W3 ⟨vl,⟨s3,m3_1,m3_2,m3_5,m3_6,m3_7⟩,o3,hS⟩
 have hB:=hB.oc o3
 have hd:=hd.oc o3
 have hu:=hu.oc o3
 clear o3
 clear s2 m2_1 m2_2
 clear hsf
 have hz:sf.2.2=0:=by rcases hcs with ⟨_,e⟩ | ⟨_,e⟩<;>rw [e]
 have hm:sf.1.length=if sf.2.1=true then d.steps.length+1 else 0:=by rcases hcs with ⟨_,e⟩ | ⟨_,e⟩<;>rw [e]<;>simp
 rw [hz] at m3_7
 obtain⟨la,lcap,e⟩:∃ la lcap,vl=.slice la sf.1.length lcap:=by
  obtain⟨vs,h1,h2,_⟩:=hS
  obtain⟨a,c,e⟩:=h1.cases
  rw [List.length_map,h2] at e
  exact⟨a,c,e⟩
 subst e
 refine Gm.seq ?_
 refine Gm.seq ?_
 refine Gm.lone (F:=FW) (fun tt WW=>(tt.size=160∧tt[1]?=some (u)∧tt[2]?=some (ptr p1)∧tt[5]?=some (.slice la sf.1.length lcap)∧tt[6]?=some (.bool sf.2.1)∧tt[53]?=some (.bool false))∧OldC W3 WW) rfl rfl trivial FW_ok (by kernel_rfl) (by kernel_rfl) (fun τ=>?_) ?_
 ·refine wpIn_mono (f14_4 d r p1 u la sf.1.length lcap sf.2.1 t3 s3 m3_1 m3_2 m3_5 m3_6 m3_7 { W3 with tape:=τ } (hB.oc (OldC.same rfl)) (hd.oc (OldC.same rfl)) hm) ?_
  rintro e a w' ⟨k1,k2,k3,rfl⟩
  exact⟨k1,k2,k3,OldC.same rfl⟩
 rintro t4 W4 ⟨⟨s4,m4_1,m4_2,m4_5,m4_6,m4_53⟩,o4⟩
 have hB:=hB.oc o4
 have hd:=hd.oc o4
 have hu:=hu.oc o4
 have hS:=hS.oc o4
 clear o4
 clear s3 m3_1 m3_2 m3_5 m3_6 m3_7
 refine Gm.cond (b:=false) (eval_tmp m4_53) rfl ?_
 refine Gm.skip ?_
 clear m4_53 hm
 generalize hvl:(Value.slice la sf.1.length lcap)=vl at *
 refine Gm.seq ?_
 refine Gm.seq ?_
 refine Gm.lone (F:=FW) (fun tt WW=>(tt.size=160∧tt[1]?=some (u)∧tt[2]?=some (ptr p1)∧tt[5]?=some (vl)∧tt[6]?=some (.bool sf.2.1)∧tt[57]?=some (.bool (decide (d.steps.length=0))))∧OldC W4 WW) rfl rfl trivial FW_ok (by kernel_rfl) (by kernel_rfl) (fun τ=>?_) ?_
 ·refine wpIn_mono (f14_6 d r p1 u vl sf.2.1 t4 s4 m4_1 m4_2 m4_5 m4_6 { W4 with tape:=τ } (hB.oc (OldC.same rfl)) (hd.oc (OldC.same rfl))) ?_
  rintro e a w' ⟨k1,k2,k3,rfl⟩
  exact⟨k1,k2,k3,OldC.same rfl⟩
 rintro t6 W6 ⟨⟨s6,m6_1,m6_2,m6_5,m6_6,m6_57⟩,o6⟩
 have hB:=hB.oc o6
 have hd:=hd.oc o6
 have hu:=hu.oc o6
 have hS:=hS.oc o6
 clear o6
 clear s4 m4_1 m4_2 m4_5 m4_6
 by_cases hn:d.steps.length=0
 ·rw [decide_eq_true hn] at m6_57
  have hnil:=List.eq_nil_of_length_eq_zero hn
  have hb:sf.2.1=true:=by
   rcases hcs with ⟨h,_⟩ | ⟨_,e⟩
   ·rw [hnil] at h
    exact absurd h (by show ¬ ((0:Int)<0);omega)
   ·rw [e]
  rw [hb] at m6_6
  refine Gm.cond (b:=true) (eval_tmp m6_57) rfl ?_
  refine Gm.seq ?_
  exact true_end7 E _ Arg W0 Post _ W6 t6 s6 m6_6 hPost
 rw [decide_eq_false hn] at m6_57
 refine Gm.cond (b:=false) (eval_tmp m6_57) rfl ?_
 refine Gm.skip ?_
 clear m6_57
 obtain⟨c,hc⟩:∃ c,chooseF d (0:Int) d.start=c:=⟨_,rfl⟩
 obtain⟨hc2,hc1⟩:=hst hn
 rw [hc] at hc1 hc2
 clear hst
 refine Gm.seq ?_
 refine Gm.lone (F:=FW) (fun tt WW=>(tt.size=160∧tt[1]?=some (u)∧tt[2]?=some (ptr p1)∧tt[5]?=some (vl)∧tt[6]?=some (.bool sf.2.1)∧tt[9]?=some (.bool c.2.1)∧tt[7]?=some (num c.2.2))∧OldC W6 WW) rfl rfl trivial FW_ok (by kernel_rfl) (by kernel_rfl) (fun τ=>?_) ?_
 ·refine wpIn_mono (f14_8 d r p1 u vl sf.2.1 c t6 s6 m6_1 m6_2 m6_5 m6_6 { W6 with tape:=τ } (hB.oc (OldC.same rfl)) (hd.oc (OldC.same rfl)) hc) ?_
  rintro e a w' ⟨k1,k2,k3,k4⟩
  exact⟨k1,k2,k3,nx_tape k4⟩
 rintro t8 W8 ⟨⟨s8,m8_1,m8_2,m8_5,m8_6,m8_9,m8_7⟩,o8⟩
 have hB:=hB.oc o8
 have hd:=hd.oc o8
 have hu:=hu.oc o8
 have hS:=hS.oc o8
 clear o8
 clear s6 m6_1 m6_2 m6_5 m6_6
 rw [hc1] at m8_9
 rw [hc2] at m8_7
 clear hc hc1 hc2 c
 refine Gm.seq ?_
 refine Gm.seq ?_
 refine Gm.lone (F:=FW) (fun tt WW=>(tt.size=160∧tt[1]?=some (u)∧tt[2]?=some (ptr p1)∧tt[5]?=some (vl)∧tt[6]?=some (.bool sf.2.1)∧tt[76]?=some (.bool false))∧OldC W8 WW) rfl rfl trivial FW_ok (by kernel_rfl) (by kernel_rfl) (fun τ=>?_) ?_
 ·refine wpIn_mono (f14_9 p1 u vl sf.2.1 t8 s8 m8_1 m8_2 m8_5 m8_6 m8_9 m8_7 { W8 with tape:=τ } ) ?_
  rintro e a w' ⟨k1,k2,k3,rfl⟩
  exact⟨k1,k2,k3,OldC.same rfl⟩
 rintro t9 W9 ⟨⟨s9,m9_1,m9_2,m9_5,m9_6,m9_76⟩,o9⟩
 have hB:=hB.oc o9
 have hd:=hd.oc o9
 have hu:=hu.oc o9
 have hS:=hS.oc o9
 clear o9
 clear s8 m8_1 m8_2 m8_5 m8_6 m8_9 m8_7
 refine Gm.cond (b:=false) (eval_tmp m9_76) rfl ?_
 refine Gm.skip ?_
 clear m9_76
 refine Gm.seq ?_
 refine Gm.seq ?_
 refine Gm.lone (F:=FW) (fun tt WW=>(tt.size=160∧tt[1]?=some (u)∧tt[2]?=some (ptr p1)∧tt[5]?=some (vl)∧tt[6]?=some (.bool sf.2.1)∧tt[78]?=some (.bool !sf.2.1))∧OldC W9 WW) rfl rfl trivial FW_ok (by kernel_rfl) (by kernel_rfl) (fun τ=>?_) ?_
 ·refine wpIn_mono (f14_11 p1 u vl sf.2.1 t9 s9 m9_1 m9_2 m9_5 m9_6 { W9 with tape:=τ } ) ?_
  rintro e a w' ⟨k1,k2,k3,rfl⟩
  exact⟨k1,k2,k3,OldC.same rfl⟩
 rintro t11 W11 ⟨⟨s11,m11_1,m11_2,m11_5,m11_6,m11_78⟩,o11⟩
 have hB:=hB.oc o11
 have hd:=hd.oc o11
 have hu:=hu.oc o11
 have hS:=hS.oc o11
 clear o11
 clear s9 m9_1 m9_2 m9_5 m9_6
 rcases hcs with ⟨_,hsf⟩ | ⟨h0,hsf⟩
 ·rw [hsf] at m11_78
  refine Gm.cond (b:=true) (eval_tmp m11_78) rfl ?_
  refine Gm.seq ?_
  rw [x14_12_eq]
  refine Gm.region ?_
  rw [show List.range ops14_12.size=[0,1] by kernel_rfl]
  refine Gm.enter (o:=⟨some 79,.call { callee:=.value (.func 17),args:=#[],argTypes:=#[] },_,_,_,none⟩) (c:={ callee:=.value (.func 17),args:=#[],argTypes:=#[] }) (g:=17) (fn:=Try.f17) (body:=b17) rfl rfl rfl rfl (by kernel_rfl) Try.func17 body17_of (by kernel_rfl) ?_
  refine dries_go E _ Arg W0 _ _ _ [] W11 _ ?_ fun φ1 Wz Fz1 oz=>?_
  ·simp [Try.ntmps17]
  rw [Fr_finish rfl]
  change GoM Try.prog true E Fz1 Arg W0 _ φ1 [] (Fr 14 (putD t11 (some 79) (.bool true)) _) [] Wz
  refine Gm.op (o:=⟨some 4,.assign (.tmp 79),_,_,_,none⟩) (.bool true) Wz rfl rfl (by kernel_rfl) rfl (as_run _ (eval_tmp (by simp [putD,s11]))) id ?_
  refine Gm.regionEnd ?_
  refine Gm.done Try.func14 (by kernel_rfl) (results14 (.bool true) _ (by simp [putD,s11])) ?_
  exact fun ρ D own A fr W' h=>hPost _ ρ D own A fr _ W' h
 rw [hsf] at m11_78 hS
 refine Gm.cond (b:=false) (eval_tmp m11_78) rfl ?_
 refine Gm.skip ?_
 clear m11_78 m11_6
 refine Gm.seq ?_
 refine Gm.lone (F:=FW) (fun tt WW=>(tt.size=160∧tt[1]?=some (u)∧tt[2]?=some (ptr p1)∧tt[5]?=some (vl)∧tt[10]?=some (.bool true)∧tt[7]?=some (num 0))∧OldC W11 WW) rfl rfl trivial FW_ok (by kernel_rfl) (by kernel_rfl) (fun τ=>?_) ?_
 ·refine wpIn_mono (f14_13 d r p1 u vl _ (true,0) t11 s11 m11_1 m11_2 m11_5 { W11 with tape:=τ } (hB.oc (OldC.same rfl)) (hd.oc (OldC.same rfl)) (hS.oc (OldC.same rfl)) (by simp;omega) (fun l hl=>by obtain⟨i,hi,rfl⟩:=List.mem_map.1 hl;have:=setAt_len5 hO (i:=i) (by have:=List.mem_range.1 hi;omega);omega) (safe_proves hO hF0 h0)) ?_
  rintro e a w' ⟨k1,k2,k3,k4⟩
  exact⟨k1,k2,k3,nx_tape k4⟩
 rintro t13 W13 ⟨⟨s13,m13_1,m13_2,m13_5,m13_10,m13_7⟩,o13⟩
 have hB:=hB.oc o13
 have hd:=hd.oc o13
 have hu:=hu.oc o13
 have hS:=hS.oc o13
 clear o13
 clear s11 m11_1 m11_2 m11_5
 refine Gm.seq ?_
 refine Gm.seq ?_
 refine Gm.lone (F:=FW) (fun tt WW=>(tt.size=160∧tt[1]?=some (u)∧tt[2]?=some (ptr p1)∧tt[5]?=some (vl)∧tt[91]?=some (.bool false))∧OldC W13 WW) rfl rfl trivial FW_ok (by kernel_rfl) (by kernel_rfl) (fun τ=>?_) ?_
 ·refine wpIn_mono (f14_14 p1 u vl t13 s13 m13_1 m13_2 m13_5 m13_10 m13_7 { W13 with tape:=τ } ) ?_
  rintro e a w' ⟨k1,k2,k3,rfl⟩
  exact⟨k1,k2,k3,OldC.same rfl⟩
 rintro t14 W14 ⟨⟨s14,m14_1,m14_2,m14_5,m14_91⟩,o14⟩
 have hB:=hB.oc o14
 have hd:=hd.oc o14
 have hu:=hu.oc o14
 have hS:=hS.oc o14
 clear o14
 clear s13 m13_1 m13_2 m13_5 m13_10 m13_7
 refine Gm.cond (b:=false) (eval_tmp m14_91) rfl ?_
 refine Gm.skip ?_
 clear m14_91
 refine Gm.seq ?_
 refine Gm.lone (F:=FW) (fun tt WW=>∃ va,(tt.size=160∧tt[2]?=some (ptr p1)∧tt[5]?=some (vl)∧tt[11]?=some (va))∧OldC W14 WW∧Sl WW va 1 ((airP d picks).map one)) rfl rfl trivial FW_ok (by kernel_rfl) (by kernel_rfl) (fun τ=>?_) ?_
 ·refine wpIn_mono (f14_16 d r p1 u vl t14 s14 m14_1 m14_2 m14_5 { W14 with tape:=τ } (hB.oc (OldC.same rfl)) (hd.oc (OldC.same rfl)) hO picks (hu.oc (OldC.same rfl)) hpx hpl) ?_
  rintro e a w' ⟨k1,k2,va,k3,k4,y0⟩
  exact⟨k1,k2,va,k3,nx_tape k4,y0⟩
 rintro t16 W16 ⟨va,⟨s16,m16_2,m16_5,m16_11⟩,o16,hA⟩
 have hB:=hB.oc o16
 have hd:=hd.oc o16
 have hS:=hS.oc o16
 clear o16
 clear s14 m14_1 m14_2 m14_5
 clear hu hpl
 have hal:=airP_len d picks
 have hair:=(airs_mem.1 (airP_mem hO picks)).2
 generalize airP d picks=air at *
 refine Gm.seq ?_
 refine Gm.lone (F:=FW) (fun tt WW=>(tt.size=160∧tt[2]?=some (ptr p1)∧tt[5]?=some (vl)∧tt[11]?=some (va)∧tt[12]?=some (ptr W16.heap.size))∧OldC W16 WW∧WW.heap[W16.heap.size]?=some (.cells d.start.cells.toArray 24 (0,0))) rfl rfl trivial FW_ok (by kernel_rfl) (by kernel_rfl) (fun τ=>?_) ?_
 ·refine wpIn_mono (f14_17 d r p1 vl va t16 s16 m16_2 m16_5 m16_11 { W16 with tape:=τ } (hB.oc (OldC.same rfl))) ?_
  rintro e a w' ⟨k1,k2,k3,k4,k5⟩
  exact⟨k1,k2,k3,OldC.trans (b:={ W16 with tape:=τ }) (OldC.same rfl) k4,k5⟩
 rintro t17 W17 ⟨⟨s17,m17_2,m17_5,m17_11,m17_12⟩,o17,g17⟩
 clear s16 m16_2 m16_5 m16_11
 refine Gm.seq ?_
 refine Gm.lone (F:=FW) (fun tt WW=>(tt.size=160∧tt[2]?=some (ptr p1)∧tt[5]?=some (vl)∧tt[12]?=some (ptr W16.heap.size))∧∃ s,s∈setAt d d.steps.length∧OldC W16 WW∧WW.heap[W16.heap.size]?=some (.cells s.cells.toArray 24 (0,0))) rfl rfl trivial FW_ok (by kernel_rfl) (by kernel_rfl) (fun τ=>?_) ?_
 ·refine wpIn_mono (f14_18 d r p1 W16.heap.size vl va air W16 t17 s17 m17_2 m17_5 m17_11 m17_12 { W17 with tape:=τ } hB hd hO hF0 h0 hS hA hal hair (Nat.le_refl _) (o17.trans (OldC.same rfl)) g17) ?_
  rintro e a w' ⟨k1,k2,k3,s,hs,k4,k5⟩
  exact⟨k1,k2,k3,s,hs,k4,k5⟩
 rintro t18 W18 ⟨⟨s18,m18_2,m18_5,m18_12⟩,s,hs,o18,g18⟩
 clear s17 m17_2 m17_5 m17_11 m17_12
 clear o17 g17
 have hsO:=(set_safe hO h0 d.steps.length (Nat.le_refl _) s hs).1
 have h4:=hO.h4
 have hxI:∀ t∈setAt d d.steps.length,StI t:=fun t ht=>((set_safe hO h0 d.steps.length (Nat.le_refl _) t ht).1).sti h4.2
 have hlen:=setAt_len5 hO (Nat.le_refl d.steps.length)
 obtain⟨vs,hv1,hvl2,hv3⟩:=hS
 have hvk:vs[d.steps.length]?=some (vs[d.steps.length]'(by rw [hvl2];simp)):=List.getElem?_eq_getElem _
 generalize vs[d.steps.length]'(by rw [hvl2];simp)=vu at hvk
 have hslk:=hv3 d.steps.length vu (setAt d d.steps.length) hvk (setAt_list (Nat.le_refl _))
 obtain⟨la2,lcap2,e2⟩:=hv1.cases
 subst e2
 obtain⟨lb,loff,rfl,hlb,hlc⟩:=hv1.get (by rw [List.length_map,hvl2];simp)
 have lk:W16.cell? ⟨lb,loff+d.steps.length,none⟩=some vu:=by
  have:=hlc d.steps.length 0 [vu] vu (by rw [List.getElem?_map,hvk];rfl) rfl
  simpa using this
 have c6:W16.cell? ⟨p1,6,none⟩=some r.s:=hB.at' 6 _ rfl
 obtain⟨sa,sc,e3⟩:=hd.steps.cases
 rw [List.length_map] at e3
 rw [e3] at c6
 refine Gm.seq ?_
 exact true_end E _ Arg W0 Post _ W18 s p1 W16.heap.size lb loff _ lcap2 d.steps.length sc sa vu (setAt d d.steps.length) t18 s18 m18_2 m18_5 m18_12 (o18.at c6) (by rw [List.length_map,hvl2];simp) (o18.at lk) (row_cell g18 rfl) (row_cell g18 rfl) (row_cell g18 rfl) (hslk.oc o18) (by omega) hxI (hsO.sti h4.2) hs hPost
end Go.Proofs.Ytedomogjmhommaa
namespace Go.Proofs.Ytedomogjmhommaa
open Go.RowKit Go.Con Go.Conc Go.ChangeShapes Go.WideShapes Go.ChangeAt
local instance dryI109:Lone:=dryL
section
variable {H:Type} {enc:TypeId×Value→H} {W:World}
theorem read_u16 {n:Nat} {cs:List Value} {y:DataW H×List MemPlace} (h:trodW enc W n 154 cs=some y):∃ k:Int,cs=[u16 k]∧(0≤k∧k≤65535):=by
 obtain⟨k,h1,_,h3⟩:=DataW.trod_int Try.underlying154 h
 simp only [Lit.wf,Bool.and_eq_true,decide_eq_true_eq] at h3
 exact⟨k,h1,h3⟩
theorem picks_open {v:Value} {dd:DataW H} {p:List MemPlace} {base:Nat} (hv:Value.okWide Try.prog W .any base 62 v) (h:DataW.Trod enc Try.prog W 0 (fun _=>true) true 62 v dd p) (hfit:Fits 62 dd) :
  ∃ l:List Int,Sl W v 1 (l.map fun x=>[u16 x])∧Kind W v∧l.length≤140737488355328∧∀ x∈l,0≤x∧x≤65535:=by
 obtain⟨fuel,hf⟩:=h
 have hv' : Cell.okWide Try.prog W .any 0 62 v:=by
  simp only [Value.okWide,Try.underlying62] at hv
  exact hv
 have hc:v.cells.toList=[v]:=by
  simp only [Cell.okWide,Try.underlying62,Cell.ok] at hv'
  cases v<;>first | rfl | (exact absurd hv' (by simp))
 rw [hc] at hf
 obtain⟨l,a1,a3,a4,a5⟩:=sl_open (en:=fun x=>[u16 x]) (ok:=fun x=>0≤x∧x≤65535) Try.underlying62 (by decide +kernel) (fun n cs' y h hff=>read_u16 h) hf hfit hv'
 rw [show Try.prog.cellsOf 154=1 by kernel_rfl] at a1
 exact⟨l,a1,a3,Nat.le_trans a4 (by decide),a5⟩
end
theorem inv_u16 {ix:Value→Nat} (n:Int):inv Try.prog ix (u16 n)=u16 n:=by simp [inv]
theorem picks_entry {c:Nat→Value} {W:World} {v:Value} {xs:List Int} (h:Sl W v 1 (xs.map fun x=>[u16 x])):Sl (entryW Try.prog c (CD W) W) v 1 (xs.map fun x=>[u16 x]):=by
 refine h.entry ?_
 intro l hl x hx
 obtain⟨z,_,rfl⟩:=List.mem_map.1 hl
 simp only [List.mem_singleton] at hx
 subst hx
 exact inv_u16 _
end Go.Proofs.Ytedomogjmhommaa
namespace Go.Proofs.Ytedomogjmhommaa
open Go.RowKit Go.Con Go.Conc Go.ChangeShapes Go.WideShapes Go.ChangeAt
local instance dryIr14:Lone:=dryL
theorem body14_of:Try.f14.body=some b14:=by kernel_rfl
theorem true_fin (d:Dry) (r:R2) (u1:Value) (l1:List Int) (W:World) (hd:DryIn W d r) (a1:Sl W u1 1 (l1.map fun x=>[u16 x])) (b1:Kind W u1) (c1:l1.length≤140737488355328) (e1:∀ x∈l1,0≤x∧x≤65535) :
  Con.Fin Try.prog (fun u W'=>u=.bool true∧Con.Left W W') (solo (G (Frame.enter Try.prog 14 #[d.val r,u1] .normal) []) W) #[]:=by
 refine law_fin Try.func14 body14_of (fun v hv=>?_) fun c Post hPost=>?_
 ·simp only [List.mem_cons,List.not_mem_nil,or_false] at hv
  rcases hv with rfl | rfl
  ·exact hd.same
  ·exact Alk.slice a1.isSlice b1
 ·obtain⟨rh,rs⟩:=r
  obtain⟨ha,hcap,q1⟩:=hd.heats.cases
  obtain⟨sa,scap,q2⟩:=hd.steps.cases
  dsimp only at q1 q2
  rw [List.length_map] at q1 q2
  subst q1 q2
  have he:=hd.entry (c:=c)
  exact true_go _ _ _ _ Post _ _ d ha sa hcap scap u1 l1 he.heats he.steps hd.hl hd.sl (picks_entry a1) e1 c1 _ (by simp [Try.ntmps14]) (by simp) (by simp) hPost
theorem true_lifted (os:Os) (started:os.Started) (H:Type) (enc:TypeId×Value→H) :
  ReturnsInLeavingWide {} Try.checked os 14 .any (Rows.dryTrueSpec.pre6 enc Try.prog Try.f14 [] false) (Rows.dryTrueSpec.post enc Try.prog Try.f14 false true false false):=by
 refine returnsInLeavingWide_of_change_sized (C:=Try.checked) own_knob started Try.func14
  (ChangeSpec.witness6 (enc:=enc) (C:=Try.checked) false ⟨#[],#[.agg #[.slice none 0 0,.int .i64 0,.int .i64 0,.int .i64 0,.int .i64 0,.int .i64 0,.slice none 0 0],.slice none 0 0],[]⟩ 8 (by kernel_rfl) (by kernel_rfl) (by kernel_rfl) (by kernel_rfl)) ?_
 intro W base args ds gs before hval0 hW _ hsz _
 have hval:∀ (j:Nat) t v,Try.f14.params[j]?=some t→args[j]?=some v→Value.okWide Try.prog W .any base t v:=hval0
 have hW':=hW
 obtain⟨p,q,hA0,hV,rfl,hfz,hnd⟩:=hW
 have hA:DataW.TrodAll enc Try.prog W 0 (fun _=>true) true Try.f14.params.toList args.toList ds p:=hA0
 rw [Try.params14] at hA hval
 obtain⟨v0,v1,d0,d1,p0,p1,rfl,rfl,rfl,h0,h1⟩:=trodAll_two hA
 obtain⟨rfl,rfl⟩:=trodVars_none hV
 have hfit:∀ (j:Nat) (t:TypeId) (dd:DataW H),Try.f14.params.toList[j]?=some t→[d0,d1][j]?=some dd→Fits t dd:=fun j t dd ht hdd n hn=>by
  have:=List.all_eq_true.1 hsz n (DataW.weights_mem_each (P:=Try.prog) (j:=j) (t:=t) (d:=dd) (by
   have:(Try.f14.params.toList++[])[j]?=some t:=by rw [List.append_nil];exact ht
   exact this) (by
   have:([d0,d1]++[])[j]?=some dd:=by rw [List.append_nil];exact hdd
   exact this) n hn)
  simpa using this
 have hpq:Try.f14.params.toList=[27,62]:=by rw [Try.params14]
 rw [hpq] at hfit
 obtain⟨d,r,rfl,hd⟩:=dry_open (hval 0 27 v0 rfl rfl) h0 (hfit 0 27 d0 rfl rfl)
 obtain⟨l1,a1,b1,c1,e1⟩:=picks_open (hval 1 62 v1 rfl rfl) h1 (hfit 1 62 d1 rfl rfl)
 clear hA0 hval0
 simp only [List.append_nil] at hW'
 have hlt:∀ x∈p0++(p1++([])),x.block<W.heap.size:=fun x hx=>by
  have:=hW'.lt x (by simpa using hx)
  simpa using this
 refine fin_post (true_fin d r v1 l1 W hd a1 b1 c1 e1) fun W' hl=>?_
 have ha:=trodAll_mk2 (left_trod (by kernel_rfl) (of_decide_eq_true (by kernel_rfl)) h0 hl fun x hx=>hlt x (by simp [hx])) (left_trod (by kernel_rfl) (of_decide_eq_true (by kernel_rfl)) h1 hl fun x hx=>hlt x (by simp [hx]))
 try simp only [List.append_assoc] at hW'
 exact⟨[d0,d1],[],p0++p1,[],_,[],hW',trodAll_mk1 (shut_bool Try.underlying4 _),ha,rfl,left_kept hl _,fun h=>by cases h⟩
theorem true_holds:Rows.DryTrueSaid :=
 OpenClaim.holds_of_wide_leaving 14 Try.f14 rfl rfl rfl rfl rfl rfl rfl ⟨rfl,rfl,rfl,rfl,rfl⟩ rfl rfl rfl rfl rfl (by kernel_rfl) Try.func14 (by kernel_rfl)
  (of_decide_eq_true (by kernel_rfl)) (by unfold Func.isWrapper;first | (rw [if_pos (by decide +kernel)];kernel_rfl) | (rw [if_neg (by decide +kernel)];exact⟨rfl,rfl⟩))
  (fun os started H enc _=>true_lifted os started H enc)
end Go.Proofs.Ytedomogjmhommaa
