/- For every drying, plan and what is seen the law DryDamps returns true (Damps agrees with the specification), does not panic, and leaves what came in as it was. Conditions: none but those of the statement itself. -/
import Derived.Test.YtedomogjmhommaaD04
set_option linter.all false
set_option maxRecDepth 100000
set_option maxHeartbeats 8000000
namespace Go.Proofs.Ytedomogjmhommaa
open Go.RowKit Go.Con Go.Conc Go.Shelf
local instance dryI153:Lone:=dryL
noncomputable def ops5_5:Array Oper:=opsOf x5_5
theorem x5_5_eq:x5_5=.region 5 ops5_5 false:=by kernel_rfl
noncomputable def b32:Code:=match Try.f32.body with | some c=>c | none=>.skip
theorem body32_of:Try.f32.body=some b32:=by kernel_rfl
theorem results5 (v:Value) (t:Array Value) (h:t[6]?=some v) (σ:Rn):ResultsC Try.prog Try.f5 (t.map (ren σ)) (ren σ v):=by
 have:=resultsC_tmp (P:=Try.prog) (fn:=Try.f5) (t:=6) rfl (t.map (ren σ))
 simp only [Array.getD_eq_getD_getElem?,Array.getElem?_map,h,Option.map_some,Option.getD_some] at this
 exact this
theorem damps_end (E Fz Arg:Nat→Prop) (W0:World) (Post:Value→World→Prop) (φ:Ph) (W:World) (vl vk:Value) (f:Int) (D:List (Int×Int)) {kk:List Item} (t:Array Value) (hs:t.size=49) (m7:t[7]?=some (vl)) (m9:t[9]?=some (vk)) (m8:t[8]?=some (num f)) (m10:t[10]?=some (num f)) (hvl:Sl W vl 2 (D.map spc)) (hvk:Sl W vk 2 (D.map spc)) (hDl:D.length≤1000000000) (hI:∀ x∈D,I64 x.1∧I64 x.2)
  (hPost:∀ Fz1 ρ D own A fr W1 W',Here Try.prog true E Fz1 Arg W0 ρ D own A fr [] W1 W'→Post (ren ρ (.bool true)) W') :
  GoM Try.prog true E Fz Arg W0 (AtEnd Try.prog Post) φ [] (Fr 5 t (.code x5_5 :: .code .ret :: kk)) [] W:=by
 rw [x5_5_eq]
 refine Gm.regionSeq (fun x=>OldC W x) (fun i=>([vl,vk,.bool true,.bool true,num f,num f,.bool true,.bool true,.bool true,.bool true,.bool true,.bool true]:List Value).getD i undef) (by rw [hs];kernel_rfl) (OldC.refl _) ?_ ?_
 ·intro i hi t W1 Fz φ rest hC hsz hgot hold hk
  rw [show ops5_5.size=12 by kernel_rfl] at hi
  match i,hi with
  | 0,_ =>
    have e0:t[7]?=some (vl):=(hold 7 (by kernel_rfl)).trans m7
    exact Gm.op (vl) W1 rfl rfl (by kernel_rfl) rfl (mv_run _ (eval_tmp e0)) id (hk W1 Fz φ hC)
  | 1,_ =>
    have e0:t[9]?=some (vk):=(hold 9 (by kernel_rfl)).trans m9
    exact Gm.op (vk) W1 rfl rfl (by kernel_rfl) rfl (mv_run _ (eval_tmp e0)) id (hk W1 Fz φ hC)
  | 2,_ =>
    have a0:t[38]?=some (vl):=hgot 0 38 (by kernel_rfl) (by kernel_rfl)
    have a1:t[39]?=some (vk):=hgot 1 39 (by kernel_rfl) (by kernel_rfl)
    refine Gm.call (F:=FW) (n:=0) (j:=4) (o:=⟨some 40,.call { callee:=.value (.func 32),args:=#[.tmp 38,.tmp 39],argTypes:=#[50,50] },_,_,_,none⟩) (c:={ callee:=.value (.func 32),args:=#[.tmp 38,.tmp 39],argTypes:=#[50,50] }) (R:=fun v W'=>v=.bool true∧OldC W1 W') (args:=#[vl,vk]) rfl FW_ok rfl rfl rfl rfl (by kernel_rfl) Try.func32 body32_of (by kernel_rfl) (by kernel_rfl) (FW_ok 32 trivial (by kernel_rfl)) rfl ?_ (fun τ=>?_) ?_
    ·simp only [List.map_toArray,List.map_cons,List.map_nil,show (Fr 5 t []).eval (.tmp 38)=vl from eval_tmp a0,show (Fr 5 t []).eval (.tmp 39)=vk from eval_tmp a1]
    ·exact one_back (by have:=sameSpans32_any vl vk D D { W1 with tape:=τ } hI hI (hvl.oc (hC.trans (OldC.same rfl))) (hvk.oc (hC.trans (OldC.same rfl))) hDl hDl;rw [show decide (D=D)=true by simp] at this;exact this)
    ·rintro v W' ⟨rfl,o⟩
     exact hk W' Fz φ (hC.trans o)
  | 3,_ =>
    have e0:t[40]?=some (.bool true):=hgot 2 40 (by kernel_rfl) (by kernel_rfl)
    exact Gm.op (.bool true) W1 rfl rfl (by kernel_rfl) rfl (mv_run _ (eval_tmp e0)) id (hk W1 Fz φ hC)
  | 4,_ =>
    have eg:t[41]?=some (.bool true):=hgot 3 41 (by kernel_rfl) (by kernel_rfl)
    have e0:t[8]?=some (num f):=(hold 8 (by kernel_rfl)).trans m8
    exact Gm.op (num f) W1 rfl (wanted_guard (i:=3) (b:=true) (d:=41) rfl rfl eg) (by kernel_rfl) rfl (mv_run _ (eval_tmp e0)) id (hk W1 Fz φ hC)
  | 5,_ =>
    have eg:t[41]?=some (.bool true):=hgot 3 41 (by kernel_rfl) (by kernel_rfl)
    have e0:t[10]?=some (num f):=(hold 10 (by kernel_rfl)).trans m10
    exact Gm.op (num f) W1 rfl (wanted_guard (i:=3) (b:=true) (d:=41) rfl rfl eg) (by kernel_rfl) rfl (mv_run _ (eval_tmp e0)) id (hk W1 Fz φ hC)
  | 6,_ =>
    have eg:t[41]?=some (.bool true):=hgot 3 41 (by kernel_rfl) (by kernel_rfl)
    have ea:t[42]?=some (num f):=hgot 4 42 (by kernel_rfl) (by kernel_rfl)
    have eb:t[43]?=some (num f):=hgot 5 43 (by kernel_rfl) (by kernel_rfl)
    exact Gm.op (.bool true) W1 rfl (wanted_guard (i:=3) (b:=true) (d:=41) rfl rfl eg) (by kernel_rfl) rfl (eq30_run _ (eval_tmp ea) (eval_tmp eb)) id (hk W1 Fz φ hC)
  | 7,_ =>
    have ea:t[41]?=some (.bool true):=hgot 3 41 (by kernel_rfl) (by kernel_rfl)
    have eb:t[44]?=some (.bool true):=hgot 6 44 (by kernel_rfl) (by kernel_rfl)
    exact Gm.op (.bool true) W1 rfl rfl (by kernel_rfl) rfl (pick_run _ (eval_tmp ea) (eval_tmp eb)) id (hk W1 Fz φ hC)
  | 8,_ =>
    have e0:t[45]?=some (.bool true):=hgot 7 45 (by kernel_rfl) (by kernel_rfl)
    exact Gm.op (.bool true) W1 rfl rfl (by kernel_rfl) rfl (mv_run _ (eval_tmp e0)) id (hk W1 Fz φ hC)
  | 9,_ =>
    have eg:t[46]?=some (.bool true):=hgot 8 46 (by kernel_rfl) (by kernel_rfl)
    refine Gm.enter (o:=⟨some 47,.call { callee:=.value (.func 17),args:=#[],argTypes:=#[] },_,_,_,some (8,true)⟩) (c:={ callee:=.value (.func 17),args:=#[],argTypes:=#[] }) (g:=17) (fn:=Try.f17) (body:=b17) rfl (wanted_guard (i:=8) (b:=true) (d:=46) rfl rfl eg) rfl rfl (by kernel_rfl) Try.func17 body17_of (by kernel_rfl) ?_
    refine dries_go E Fz Arg W0 _ φ _ [] W1 _ (by simp [Try.ntmps17]) fun φ1 W5 Fz1 o5=>?_
    rw [Fr_finish rfl]
    exact hk W5 Fz1 φ1 (hC.trans o5)
  | 10,_ =>
    have ea:t[46]?=some (.bool true):=hgot 8 46 (by kernel_rfl) (by kernel_rfl)
    have eb:t[47]?=some (.bool true):=hgot 9 47 (by kernel_rfl) (by kernel_rfl)
    exact Gm.op (.bool true) W1 rfl rfl (by kernel_rfl) rfl (pick_run _ (eval_tmp ea) (eval_tmp eb)) id (hk W1 Fz φ hC)
  | 11,_ =>
    have e0:t[48]?=some (.bool true):=hgot 10 48 (by kernel_rfl) (by kernel_rfl)
    exact Gm.op (.bool true) W1 rfl rfl (by kernel_rfl) rfl (as_run _ (eval_tmp e0)) id (hk W1 Fz φ hC)
  | n+12,h=>exact absurd h (by omega)
 ·intro t W1 Fz φ hC hsz hgot hold
  have e6:t[6]?=some (.bool true):=hgot 11 6 (by kernel_rfl)
  refine Gm.done Try.func5 (by kernel_rfl) (results5 (.bool true) _ e6) ?_
  exact fun ρ D own A fr W' h=>hPost _ ρ D own A fr _ W' h
noncomputable def ops5_2:Array Oper:=opsOf x5_2
theorem x5_2_eq:x5_2=.region 2 ops5_2 false:=by kernel_rfl
theorem damps_go (E Fz Arg:Nat→Prop) (W0:World) (Post:Value→World→Prop) (φ:Ph) (W:World) (d:Dry) (ha sa:Option Addr) (hcap scap:Nat) (u:Value) (plan:List Int) (ue:Value) (seen:List Sn)
  (hh:Sl W (.slice ha d.heats.length hcap) 2 (d.heats.map two)) (hss:Sl W (.slice sa d.steps.length scap) 6 (d.steps.map Stp.cells)) (hl:d.heats.length≤140737488355328) (sl:d.steps.length≤140737488355328)
  (hu:Sl W u 1 (plan.map one)) (hpl:plan.length≤140737488355328) (he:Sl W ue 3 (seen.map Sn.cells)) (hel:seen.length≤140737488355328)
  (t:Array Value) (hs:t.size=49) (h0:t[0]?=some (d.val ⟨.slice ha d.heats.length hcap,.slice sa d.steps.length scap⟩)) (h1:t[1]?=some (u)) (h2:t[2]?=some (ue))
  (hPost:∀ Fz1 ρ D own A fr W1 W',Here Try.prog true E Fz1 Arg W0 ρ D own A fr [] W1 W'→Post (ren ρ (.bool true)) W') :
  GoM Try.prog true E Fz Arg W0 (AtEnd Try.prog Post) φ [] (Fr 5 t [.code b5]) [] W:=by
 rw [b5_eq]
 refine Gm.seq ?_
 obtain⟨ua,ucap,e7⟩:=hu.cases
 obtain⟨ea,ecap,e8⟩:=he.cases
 rw [List.length_map] at e7 e8
 refine Gm.lone (F:=FW) (fun tt WW=>(tt.size=49∧tt[1]?=some (u)∧tt[2]?=some (ue)∧tt[3]?=some (ptr W.heap.size))∧WW.heap=(W.alloc (.cells (d.cellsA ⟨.slice ha d.heats.length hcap,.slice sa d.steps.length scap⟩) 27)).heap) rfl rfl trivial FW_ok (by kernel_rfl) (by kernel_rfl) (fun τ=>?_) ?_
 ·refine wpIn_mono (f5_0 d ha sa d.heats.length hcap d.steps.length scap u ue t hs h0 h1 h2 { W with tape:=τ }) ?_
  rintro e a w' ⟨k1,k2,i0,rfl⟩
  exact⟨k1,k2,i0,rfl⟩
 rintro t1 W1 ⟨⟨s1,m1_1,m1_2,m1_3⟩,hW1⟩
 have nA:=alloc_nx (Nx.refl W) (.cells (d.cellsA ⟨.slice ha d.heats.length hcap,.slice sa d.steps.length scap⟩) 27 (0,0))
 have oA:OldC (W.alloc (.cells (d.cellsA ⟨.slice ha d.heats.length hcap,.slice sa d.steps.length scap⟩) 27)) W1:=OldC.same hW1
 have o1:OldC W W1:=(OldC.nx nA).trans oA
 have hB:DBox W1 W.heap.size d ⟨.slice ha d.heats.length hcap,.slice sa d.steps.length scap⟩:=⟨by rw [hW1];simp,fun i v hv=>oA.at (row_cell (al1 rfl).2.2 hv)⟩
 have hh:=hh.oc o1
 have hss:=hss.oc o1
 have hu:=hu.oc o1
 have he:=he.oc o1
 clear nA oA o1 hW1 hs h0 h1 h2
 generalize W.heap.size=p1 at m1_3 hB
 subst e7 e8
 refine Gm.seq ?_
 refine Gm.seq ?_
 refine Gm.lone (F:=FW) (fun tt WW=>(tt.size=49∧tt[1]?=some (.slice ua plan.length ucap)∧tt[2]?=some (.slice ea seen.length ecap)∧tt[3]?=some (ptr p1)∧tt[22]?=some (.bool (out5 d plan.length seen.length)))∧OldC W1 WW) rfl rfl trivial FW_ok (by kernel_rfl) (by kernel_rfl) (fun τ=>?_) ?_
 ·refine wpIn_mono (f5_1 d ⟨.slice ha d.heats.length hcap,.slice sa d.steps.length scap⟩ p1 ua plan.length ucap ea seen.length ecap t1 s1 m1_1 m1_2 m1_3 { W1 with tape:=τ } (hB.oc (OldC.same rfl)) (hh.oc (OldC.same rfl)) (hss.oc (OldC.same rfl)) hl sl hpl hel) ?_
  rintro e a w' ⟨k1,k2,k3,k4⟩
  exact⟨k1,k2,k3,nx_tape k4⟩
 rintro t2 W2 ⟨⟨s2,m2_1,m2_2,m2_3,m2_22⟩,o2⟩
 have hB:=hB.oc o2
 have hh:=hh.oc o2
 have hss:=hss.oc o2
 have hu:=hu.oc o2
 have he:=he.oc o2
 clear o2
 clear s1 m1_1 m1_2 m1_3
 by_cases hg:out5 d plan.length seen.length=true
 ·rw [hg] at m2_22
  refine Gm.cond (b:=true) (eval_tmp m2_22) rfl ?_
  refine Gm.seq ?_
  rw [x5_2_eq]
  refine Gm.region ?_
  rw [show List.range ops5_2.size=[0,1] by kernel_rfl]
  refine Gm.enter (o:=⟨some 23,.call { callee:=.value (.func 17),args:=#[],argTypes:=#[] },_,_,_,none⟩) (c:={ callee:=.value (.func 17),args:=#[],argTypes:=#[] }) (g:=17) (fn:=Try.f17) (body:=b17) rfl rfl rfl rfl (by kernel_rfl) Try.func17 body17_of (by kernel_rfl) ?_
  refine dries_go E Fz Arg W0 _ φ _ [] W2 _ ?_ fun φ1 Wz Fz1 oz=>?_
  ·simp [Try.ntmps17]
  rw [Fr_finish rfl]
  change GoM Try.prog true E Fz1 Arg W0 _ φ1 [] (Fr 5 (putD t2 (some 23) (.bool true)) _) [] Wz
  refine Gm.op (o:=⟨some 6,.assign (.tmp 23),_,_,_,none⟩) (.bool true) Wz rfl rfl (by kernel_rfl) rfl (as_run _ (eval_tmp (by simp [putD,s2]))) id ?_
  refine Gm.regionEnd ?_
  refine Gm.done Try.func5 (by kernel_rfl) (results5 (.bool true) _ (by simp [putD,s2])) ?_
  exact fun ρ D own A fr W' h=>hPost _ ρ D own A fr _ W' h
 have hg' : out5 d plan.length seen.length=false:=by simpa using hg
 rw [hg'] at m2_22
 unfold out5 at hg'
 simp only [Bool.or_eq_false_iff,decide_eq_false_iff_not,Nat.not_lt] at hg'
 obtain⟨⟨hgr,hp40⟩,he40⟩:=hg'
 have hgl:d.heats.length≤40∧d.steps.length≤40:=by
  unfold greatD at hgr
  simp only [Bool.or_eq_false_iff,decide_eq_false_iff_not,Nat.not_lt] at hgr
  exact hgr
 refine Gm.cond (b:=false) (eval_tmp m2_22) rfl ?_
 refine Gm.skip ?_
 have hd:DrySl W2 d ⟨.slice ha d.heats.length hcap,.slice sa d.steps.length scap⟩:=⟨hh,hss,by omega,by omega⟩
 clear hh hss hg m2_22 hgr
 generalize hr:(⟨.slice ha d.heats.length hcap,.slice sa d.steps.length scap⟩:R2)=r at *
 clear hr
 generalize hue:Value.slice ea seen.length ecap=ue at *
 generalize huu:Value.slice ua plan.length ucap=u at *
 clear hue huu
 obtain⟨D,hD⟩:∃ D,dampsF d plan seen=D:=⟨_,rfl⟩
 obtain⟨hDl,hI⟩:=damps_small d plan seen
 rw [hD] at hDl hI
 refine Gm.seq ?_
 refine Gm.lone (F:=FW) (fun tt WW=>∃ vl,(tt.size=49∧tt[1]?=some (u)∧tt[2]?=some (ue)∧tt[3]?=some (ptr p1)∧tt[7]?=some (vl)∧tt[8]?=some (num D.2))∧OldC W2 WW∧Sl WW vl 2 (D.1.map spc)) rfl rfl trivial FW_ok (by kernel_rfl) (by kernel_rfl) (fun τ=>?_) ?_
 ·refine wpIn_mono (f5_3 d r p1 u ue plan seen D t2 s2 m2_1 m2_2 m2_3 { W2 with tape:=τ } (hB.oc (OldC.same rfl)) (hd.oc (OldC.same rfl)) (hu.oc (OldC.same rfl)) (by omega) (he.oc (OldC.same rfl)) (by omega) hD) ?_
  rintro e a w' ⟨k1,k2,vl,k3,k4,y0⟩
  exact⟨k1,k2,vl,k3,nx_tape k4,y0⟩
 rintro t3 W3 ⟨vl,⟨s3,m3_1,m3_2,m3_3,m3_7,m3_8⟩,o3,hvl⟩
 have hB:=hB.oc o3
 have hd:=hd.oc o3
 have hu:=hu.oc o3
 have he:=he.oc o3
 clear o3
 clear s2 m2_1 m2_2 m2_3
 refine Gm.seq ?_
 refine Gm.lone (F:=FW) (fun tt WW=>∃ vk,(tt.size=49∧tt[1]?=some (u)∧tt[2]?=some (ue)∧tt[3]?=some (ptr p1)∧tt[7]?=some (vl)∧tt[8]?=some (num D.2)∧tt[9]?=some (vk)∧tt[10]?=some (num D.2))∧OldC W3 WW∧Sl WW vk 2 (D.1.map spc)) rfl rfl trivial FW_ok (by kernel_rfl) (by kernel_rfl) (fun τ=>?_) ?_
 ·refine wpIn_mono (f5_4 d r p1 u ue vl plan seen D t3 s3 m3_1 m3_2 m3_3 m3_7 m3_8 { W3 with tape:=τ } (hB.oc (OldC.same rfl)) (hd.oc (OldC.same rfl)) (hu.oc (OldC.same rfl)) (by omega) (he.oc (OldC.same rfl)) (by omega) hD) ?_
  rintro e a w' ⟨k1,k2,vk,k3,k4,y0⟩
  exact⟨k1,k2,vk,k3,nx_tape k4,y0⟩
 rintro t4 W4 ⟨vk,⟨s4,m4_1,m4_2,m4_3,m4_7,m4_8,m4_9,m4_10⟩,o4,hvk⟩
 have hvl:=hvl.oc o4
 clear o4
 clear s3 m3_1 m3_2 m3_3 m3_7 m3_8
 refine Gm.seq ?_
 exact damps_end E _ Arg W0 Post _ W4 vl vk D.2 D.1 t4 s4 m4_7 m4_9 m4_8 m4_10 hvl hvk hDl hI hPost
end Go.Proofs.Ytedomogjmhommaa
namespace Go.Proofs.Ytedomogjmhommaa
open Go.RowKit Go.Con Go.Conc Go.ChangeShapes Go.WideShapes Go.ChangeAt
local instance dryIr5:Lone:=dryL
theorem body5_of:Try.f5.body=some b5:=by kernel_rfl
theorem damps_fin (d:Dry) (r:R2) (u1:Value) (l1:List Int) (u2:Value) (l2:List Sn) (W:World) (hd:DryIn W d r) (a1:Sl W u1 1 (l1.map one)) (b1:Kind W u1) (c1:l1.length≤140737488355328) (a2:Sl W u2 3 (l2.map Sn.cells)) (b2:Kind W u2) (c2:l2.length≤140737488355328) :
  Con.Fin Try.prog (fun u W'=>u=.bool true∧Con.Left W W') (solo (G (Frame.enter Try.prog 5 #[d.val r,u1,u2] .normal) []) W) #[]:=by
 refine law_fin Try.func5 body5_of (fun v hv=>?_) fun c Post hPost=>?_
 ·simp only [List.mem_cons,List.not_mem_nil,or_false] at hv
  rcases hv with rfl | rfl | rfl
  ·exact hd.same
  ·exact Alk.slice a1.isSlice b1
  ·exact Alk.slice a2.isSlice b2
 ·obtain⟨rh,rs⟩:=r
  obtain⟨ha,hcap,q1⟩:=hd.heats.cases
  obtain⟨sa,scap,q2⟩:=hd.steps.cases
  dsimp only at q1 q2
  rw [List.length_map] at q1 q2
  subst q1 q2
  have he:=hd.entry (c:=c)
  exact damps_go _ _ _ _ Post _ _ d ha sa hcap scap u1 l1 u2 l2 he.heats he.steps hd.hl hd.sl (ints_entry a1) c1 (seens_entry a2) c2 _ (by simp [Try.ntmps5]) (by simp) (by simp) (by simp) hPost
theorem damps_lifted (os:Os) (started:os.Started) (H:Type) (enc:TypeId×Value→H) :
  ReturnsInLeavingWide {} Try.checked os 5 .any (Rows.dryDampsSpec.pre6 enc Try.prog Try.f5 [] false) (Rows.dryDampsSpec.post enc Try.prog Try.f5 false true false false):=by
 refine returnsInLeavingWide_of_change_sized (C:=Try.checked) own_knob started Try.func5
  (ChangeSpec.witness6 (enc:=enc) (C:=Try.checked) false ⟨#[],#[.agg #[.slice none 0 0,.int .i64 0,.int .i64 0,.int .i64 0,.int .i64 0,.int .i64 0,.slice none 0 0],.slice none 0 0,.slice none 0 0],[]⟩ 8 (by kernel_rfl) (by kernel_rfl) (by kernel_rfl) (by kernel_rfl)) ?_
 intro W base args ds gs before hval0 hW _ hsz _
 have hval:∀ (j:Nat) t v,Try.f5.params[j]?=some t→args[j]?=some v→Value.okWide Try.prog W .any base t v:=hval0
 have hW':=hW
 obtain⟨p,q,hA0,hV,rfl,hfz,hnd⟩:=hW
 have hA:DataW.TrodAll enc Try.prog W 0 (fun _=>true) true Try.f5.params.toList args.toList ds p:=hA0
 rw [Try.params5] at hA hval
 obtain⟨v0,v1,v2,d0,d1,d2,p0,p1,p2,rfl,rfl,rfl,h0,h1,h2⟩:=trodAll_three hA
 obtain⟨rfl,rfl⟩:=trodVars_none hV
 have hfit:∀ (j:Nat) (t:TypeId) (dd:DataW H),Try.f5.params.toList[j]?=some t→[d0,d1,d2][j]?=some dd→Fits t dd:=fun j t dd ht hdd n hn=>by
  have:=List.all_eq_true.1 hsz n (DataW.weights_mem_each (P:=Try.prog) (j:=j) (t:=t) (d:=dd) (by
   have:(Try.f5.params.toList++[])[j]?=some t:=by rw [List.append_nil];exact ht
   exact this) (by
   have:([d0,d1,d2]++[])[j]?=some dd:=by rw [List.append_nil];exact hdd
   exact this) n hn)
  simpa using this
 have hpq:Try.f5.params.toList=[27,38,49]:=by rw [Try.params5]
 rw [hpq] at hfit
 obtain⟨d,r,rfl,hd⟩:=dry_open (hval 0 27 v0 rfl rfl) h0 (hfit 0 27 d0 rfl rfl)
 obtain⟨l1,a1,b1,c1⟩:=ints_open (hval 1 38 v1 rfl rfl) h1 (hfit 1 38 d1 rfl rfl)
 obtain⟨l2,a2,b2,c2⟩:=seens_open (hval 2 49 v2 rfl rfl) h2 (hfit 2 49 d2 rfl rfl)
 clear hA0 hval0
 simp only [List.append_nil] at hW'
 have hlt:∀ x∈p0++(p1++(p2++([]))),x.block<W.heap.size:=fun x hx=>by
  have:=hW'.lt x (by simpa using hx)
  simpa using this
 refine fin_post (damps_fin d r v1 l1 v2 l2 W hd a1 b1 c1 a2 b2 c2) fun W' hl=>?_
 have ha:=trodAll_mk3 (left_trod (by kernel_rfl) (of_decide_eq_true (by kernel_rfl)) h0 hl fun x hx=>hlt x (by simp [hx])) (left_trod (by kernel_rfl) (of_decide_eq_true (by kernel_rfl)) h1 hl fun x hx=>hlt x (by simp [hx])) (left_trod (by kernel_rfl) (of_decide_eq_true (by kernel_rfl)) h2 hl fun x hx=>hlt x (by simp [hx]))
 try simp only [List.append_assoc] at hW'
 exact⟨[d0,d1,d2],[],p0++(p1++p2),[],_,[],hW',trodAll_mk1 (shut_bool Try.underlying4 _),ha,rfl,left_kept hl _,fun h=>by cases h⟩
theorem damps_holds:Rows.DryDampsSaid :=
 OpenClaim.holds_of_wide_leaving 5 Try.f5 rfl rfl rfl rfl rfl rfl rfl ⟨rfl,rfl,rfl,rfl,rfl⟩ rfl rfl rfl rfl rfl (by kernel_rfl) Try.func5 (by kernel_rfl)
  (of_decide_eq_true (by kernel_rfl)) (by unfold Func.isWrapper;first | (rw [if_pos (by decide +kernel)];kernel_rfl) | (rw [if_neg (by decide +kernel)];exact⟨rfl,rfl⟩))
  (fun os started H enc _=>damps_lifted os started H enc)
end Go.Proofs.Ytedomogjmhommaa
