/- For every drying, state, step and heat the law DryLeast returns true, does not panic, and leaves what came in as it was. Conditions: none but those of the statement itself. -/
import Derived.Test.YtedomogjmhommaaL03
set_option linter.all false
set_option maxRecDepth 100000
set_option maxHeartbeats 8000000
namespace Go.Proofs.Ytedomogjmhommaa
open Go.RowKit Go.Con Go.Conc
local instance dryI98:Lone:=dryL
noncomputable def ops6_20:Array Oper:=opsOf x6_20
theorem x6_20_eq:x6_20=.region 20 ops6_20 false:=by kernel_rfl
theorem results6 (v:Value) (t:Array Value) (h:t[8]?=some v) (σ:Rn):ResultsC Try.prog Try.f6 (t.map (ren σ)) (ren σ v):=by
 have:=resultsC_tmp (P:=Try.prog) (fn:=Try.f6) (t:=8) rfl (t.map (ren σ))
 simp only [Array.getD_eq_getD_getElem?,Array.getElem?_map,h,Option.map_some,Option.getD_some] at this
 exact this
theorem wanted_not {ops:Array Oper} {o:Oper} {i d:Nat} {b:Bool} {t:Array Value} (hg:o.guard=some (i,b)) (hd:(ops[i]?).bind (·.dst)=some d) (hv:t[d]?=some (.bool (!b))):Region.wanted o (yielded ops t)=false:=by
 unfold Region.wanted yielded
 cases b<;>simp_all
section
variable {dst:Option Nat} {ty:TypeId} {pos:String} {af:Array Edge} {gd:Option (Nat×Bool)} {x y:Nat}
theorem eq3_run (e:Operand→Value) {w:World} {n m:Int} (h:e (.tmp x)=num n) (h2:e (.tmp y)=num m) (τ:Tape):(execOp e ⟨dst,.binOp .eql 3 (.tmp x) (.tmp y) 3,ty,pos,af,gd⟩).run Try.prog { w with tape:=τ }=.ok (.value (.bool (decide (n=m)))) { w with tape:=τ }:=by
 simp [execOp,go_sem,h,h2]
 by_cases hnm:n=m<;>simp [hnm]
theorem pickF_run (e:Operand→Value) {w:World} {c:Value} (h:e (.tmp x)=.bool false) (hc:e (.const c)=c) (τ:Tape):(execOp e ⟨dst,.pick (.tmp x) (.tmp y) (.const c),ty,pos,af,gd⟩).run Try.prog { w with tape:=τ }=.ok (.value c) { w with tape:=τ }:=by
 simp [execOp,go_sem,h,hc]
end
theorem least_end_true (E Fz Arg:Nat→Prop) (W0:World) (Post:Value→World→Prop) (φ:Ph) (W:World) (h k:Int)
  (t:Array Value) (hs:t.size=148) (m10:t[10]?=some (num h)) (m11:t[11]?=some (num k)) (m12:t[12]?=some (.bool true)) (m14:t[14]?=some (.bool (decide (h=k))))
  (hPost:∀ Fz1 ρ D own A fr W1 W',Here Try.prog true E Fz1 Arg W0 ρ D own A fr [] W1 W'→Post (ren ρ (.bool true)) W') :
  GoM Try.prog true E Fz Arg W0 (AtEnd Try.prog Post) φ [] (Fr 6 t [.code x6_20,.code .ret]) [] W:=by
 rw [x6_20_eq]
 refine Gm.regionSeq (fun x=>OldC W x) (fun i=>([.bool (decide (h=k)),.bool true,.bool true,num h,num k,.bool (decide (h=k)),.bool (decide (h=k)),.bool true,.bool true,.bool true,.bool true,.bool true]:List Value).getD i undef) (by rw [hs];kernel_rfl) (OldC.refl _) ?_ ?_
 ·intro i hi t W Fz φ rest hC hsz hgot hold hk
  rw [show ops6_20.size=12 by kernel_rfl] at hi
  match i,hi with
  | 0,_ =>
    have e0:t[14]?=some (.bool (decide (h=k))):=(hold 14 (by kernel_rfl)).trans m14
    exact Gm.op (.bool (decide (h=k))) W rfl rfl (by kernel_rfl) rfl (mv_run _ (eval_tmp e0)) id (hk W Fz φ hC)
  | 1,_ =>
    have e0:t[12]?=some (.bool true):=(hold 12 (by kernel_rfl)).trans m12
    exact Gm.op (.bool true) W rfl rfl (by kernel_rfl) rfl (mv_run _ (eval_tmp e0)) id (hk W Fz φ hC)
  | 2,_ =>
    have e0:t[138]?=some (.bool true):=hgot 1 138 (by kernel_rfl) (by kernel_rfl)
    exact Gm.op (.bool true) W rfl rfl (by kernel_rfl) rfl (mv_run _ (eval_tmp e0)) id (hk W Fz φ hC)
  | 3,_ =>
    have eg:t[139]?=some (.bool true):=hgot 2 139 (by kernel_rfl) (by kernel_rfl)
    have e0:t[10]?=some (num h):=(hold 10 (by kernel_rfl)).trans m10
    exact Gm.op (num h) W rfl (wanted_guard (i:=2) (b:=true) (d:=139) rfl rfl eg) (by kernel_rfl) rfl (mv_run _ (eval_tmp e0)) id (hk W Fz φ hC)
  | 4,_ =>
    have eg:t[139]?=some (.bool true):=hgot 2 139 (by kernel_rfl) (by kernel_rfl)
    have e0:t[11]?=some (num k):=(hold 11 (by kernel_rfl)).trans m11
    exact Gm.op (num k) W rfl (wanted_guard (i:=2) (b:=true) (d:=139) rfl rfl eg) (by kernel_rfl) rfl (mv_run _ (eval_tmp e0)) id (hk W Fz φ hC)
  | 5,_ =>
    have eg:t[139]?=some (.bool true):=hgot 2 139 (by kernel_rfl) (by kernel_rfl)
    have ea:t[140]?=some (num h):=hgot 3 140 (by kernel_rfl) (by kernel_rfl)
    have eb:t[141]?=some (num k):=hgot 4 141 (by kernel_rfl) (by kernel_rfl)
    exact Gm.op (.bool (decide (h=k))) W rfl (wanted_guard (i:=2) (b:=true) (d:=139) rfl rfl eg) (by kernel_rfl) rfl (eq3_run _ (eval_tmp ea) (eval_tmp eb)) id (hk W Fz φ hC)
  | 6,_ =>
    have ea:t[139]?=some (.bool true):=hgot 2 139 (by kernel_rfl) (by kernel_rfl)
    have eb:t[142]?=some (.bool (decide (h=k))):=hgot 5 142 (by kernel_rfl) (by kernel_rfl)
    exact Gm.op (.bool (decide (h=k))) W rfl rfl (by kernel_rfl) rfl (pick_run _ (eval_tmp ea) (eval_tmp eb)) id (hk W Fz φ hC)
  | 7,_ =>
    have ea:t[137]?=some (.bool (decide (h=k))):=hgot 0 137 (by kernel_rfl) (by kernel_rfl)
    have eb:t[143]?=some (.bool (decide (h=k))):=hgot 6 143 (by kernel_rfl) (by kernel_rfl)
    exact Gm.op (.bool true) W rfl rfl (by kernel_rfl) rfl (eq4_run _ (eval_tmp ea) (eval_tmp eb)) id (hk W Fz φ hC)
  | 8,_ =>
    have e0:t[144]?=some (.bool true):=hgot 7 144 (by kernel_rfl) (by kernel_rfl)
    exact Gm.op (.bool true) W rfl rfl (by kernel_rfl) rfl (mv_run _ (eval_tmp e0)) id (hk W Fz φ hC)
  | 9,_ =>
    have e8:t[145]?=some (.bool true):=hgot 8 145 (by kernel_rfl) (by kernel_rfl)
    refine Gm.enter (o:=⟨some 146,.call { callee:=.value (.func 17),args:=#[],argTypes:=#[] },_,_,_,some (8,true)⟩) (c:={ callee:=.value (.func 17),args:=#[],argTypes:=#[] }) (g:=17) (fn:=Try.f17) (body:=b17) rfl (wanted_guard (i:=8) (b:=true) (d:=145) rfl rfl e8) rfl rfl (by kernel_rfl) Try.func17 body17_of (by kernel_rfl) ?_
    refine dries_go E Fz Arg W0 _ φ _ [] W _ (by simp [Try.ntmps17]) fun φ1 W5 Fz1 o5=>?_
    rw [Fr_finish rfl]
    exact hk W5 Fz1 φ1 (hC.trans o5)
  | 10,_ =>
    have ea:t[145]?=some (.bool true):=hgot 8 145 (by kernel_rfl) (by kernel_rfl)
    have eb:t[146]?=some (.bool true):=hgot 9 146 (by kernel_rfl) (by kernel_rfl)
    exact Gm.op (.bool true) W rfl rfl (by kernel_rfl) rfl (pick_run _ (eval_tmp ea) (eval_tmp eb)) id (hk W Fz φ hC)
  | 11,_ =>
    have e0:t[147]?=some (.bool true):=hgot 10 147 (by kernel_rfl) (by kernel_rfl)
    exact Gm.op (.bool true) W rfl rfl (by kernel_rfl) rfl (as_run _ (eval_tmp e0)) id (hk W Fz φ hC)
  | n+12,h=>exact absurd h (by omega)
 ·intro t W Fz φ hC hsz hgot hold
  have e6:t[8]?=some (.bool true):=hgot 11 8 (by kernel_rfl)
  refine Gm.done Try.func6 (by kernel_rfl) (results6 (.bool true) _ e6) ?_
  exact fun ρ D own A fr W' h=>hPost _ ρ D own A fr _ W' h
theorem least_end_false (E Fz Arg:Nat→Prop) (W0:World) (Post:Value→World→Prop) (φ:Ph) (W:World) (h k:Int)
  (t:Array Value) (hs:t.size=148) (m10:t[10]?=some (num h)) (m11:t[11]?=some (num k)) (m12:t[12]?=some (.bool false)) (m14:t[14]?=some (.bool (false)))
  (hPost:∀ Fz1 ρ D own A fr W1 W',Here Try.prog true E Fz1 Arg W0 ρ D own A fr [] W1 W'→Post (ren ρ (.bool true)) W') :
  GoM Try.prog true E Fz Arg W0 (AtEnd Try.prog Post) φ [] (Fr 6 t [.code x6_20,.code .ret]) [] W:=by
 rw [x6_20_eq]
 refine Gm.regionSeq (fun x=>OldC W x) (fun i=>([.bool (false),.bool false,.bool false,undef,undef,undef,.bool (false),.bool true,.bool true,.bool true,.bool true,.bool true]:List Value).getD i undef) (by rw [hs];kernel_rfl) (OldC.refl _) ?_ ?_
 ·intro i hi t W Fz φ rest hC hsz hgot hold hk
  rw [show ops6_20.size=12 by kernel_rfl] at hi
  match i,hi with
  | 0,_ =>
    have e0:t[14]?=some (.bool (false)):=(hold 14 (by kernel_rfl)).trans m14
    exact Gm.op (.bool (false)) W rfl rfl (by kernel_rfl) rfl (mv_run _ (eval_tmp e0)) id (hk W Fz φ hC)
  | 1,_ =>
    have e0:t[12]?=some (.bool false):=(hold 12 (by kernel_rfl)).trans m12
    exact Gm.op (.bool false) W rfl rfl (by kernel_rfl) rfl (mv_run _ (eval_tmp e0)) id (hk W Fz φ hC)
  | 2,_ =>
    have e0:t[138]?=some (.bool false):=hgot 1 138 (by kernel_rfl) (by kernel_rfl)
    exact Gm.op (.bool false) W rfl rfl (by kernel_rfl) rfl (mv_run _ (eval_tmp e0)) id (hk W Fz φ hC)
  | 3,_ =>
    have eg:t[139]?=some (.bool false):=hgot 2 139 (by kernel_rfl) (by kernel_rfl)
    exact Gm.pass rfl (wanted_not (i:=2) (b:=true) (d:=139) rfl rfl eg) (by kernel_rfl) rfl (hk W Fz φ hC)
  | 4,_ =>
    have eg:t[139]?=some (.bool false):=hgot 2 139 (by kernel_rfl) (by kernel_rfl)
    exact Gm.pass rfl (wanted_not (i:=2) (b:=true) (d:=139) rfl rfl eg) (by kernel_rfl) rfl (hk W Fz φ hC)
  | 5,_ =>
    have eg:t[139]?=some (.bool false):=hgot 2 139 (by kernel_rfl) (by kernel_rfl)
    exact Gm.pass rfl (wanted_not (i:=2) (b:=true) (d:=139) rfl rfl eg) (by kernel_rfl) rfl (hk W Fz φ hC)
  | 6,_ =>
    have ea:t[139]?=some (.bool false):=hgot 2 139 (by kernel_rfl) (by kernel_rfl)
    exact Gm.op (.bool (false)) W rfl rfl (by kernel_rfl) rfl (pickF_run _ (eval_tmp ea) rfl) id (hk W Fz φ hC)
  | 7,_ =>
    have ea:t[137]?=some (.bool (false)):=hgot 0 137 (by kernel_rfl) (by kernel_rfl)
    have eb:t[143]?=some (.bool (false)):=hgot 6 143 (by kernel_rfl) (by kernel_rfl)
    exact Gm.op (.bool true) W rfl rfl (by kernel_rfl) rfl (eq4_run _ (eval_tmp ea) (eval_tmp eb)) id (hk W Fz φ hC)
  | 8,_ =>
    have e0:t[144]?=some (.bool true):=hgot 7 144 (by kernel_rfl) (by kernel_rfl)
    exact Gm.op (.bool true) W rfl rfl (by kernel_rfl) rfl (mv_run _ (eval_tmp e0)) id (hk W Fz φ hC)
  | 9,_ =>
    have e8:t[145]?=some (.bool true):=hgot 8 145 (by kernel_rfl) (by kernel_rfl)
    refine Gm.enter (o:=⟨some 146,.call { callee:=.value (.func 17),args:=#[],argTypes:=#[] },_,_,_,some (8,true)⟩) (c:={ callee:=.value (.func 17),args:=#[],argTypes:=#[] }) (g:=17) (fn:=Try.f17) (body:=b17) rfl (wanted_guard (i:=8) (b:=true) (d:=145) rfl rfl e8) rfl rfl (by kernel_rfl) Try.func17 body17_of (by kernel_rfl) ?_
    refine dries_go E Fz Arg W0 _ φ _ [] W _ (by simp [Try.ntmps17]) fun φ1 W5 Fz1 o5=>?_
    rw [Fr_finish rfl]
    exact hk W5 Fz1 φ1 (hC.trans o5)
  | 10,_ =>
    have ea:t[145]?=some (.bool true):=hgot 8 145 (by kernel_rfl) (by kernel_rfl)
    have eb:t[146]?=some (.bool true):=hgot 9 146 (by kernel_rfl) (by kernel_rfl)
    exact Gm.op (.bool true) W rfl rfl (by kernel_rfl) rfl (pick_run _ (eval_tmp ea) (eval_tmp eb)) id (hk W Fz φ hC)
  | 11,_ =>
    have e0:t[147]?=some (.bool true):=hgot 10 147 (by kernel_rfl) (by kernel_rfl)
    exact Gm.op (.bool true) W rfl rfl (by kernel_rfl) rfl (as_run _ (eval_tmp e0)) id (hk W Fz φ hC)
  | n+12,h=>exact absurd h (by omega)
 ·intro t W Fz φ hC hsz hgot hold
  have e6:t[8]?=some (.bool true):=hgot 11 8 (by kernel_rfl)
  refine Gm.done Try.func6 (by kernel_rfl) (results6 (.bool true) _ e6) ?_
  exact fun ρ D own A fr W' h=>hPost _ ρ D own A fr _ W' h
end Go.Proofs.Ytedomogjmhommaa
namespace Go.Proofs.Ytedomogjmhommaa
open Go.RowKit Go.Con Go.Conc Go.Shelf
local instance dryI99:Lone:=dryL
noncomputable def ops6_2:Array Oper:=opsOf x6_2
theorem x6_2_eq:x6_2=.region 2 ops6_2 false:=by kernel_rfl
noncomputable def ops6_8:Array Oper:=opsOf x6_8
theorem x6_8_eq:x6_8=.region 8 ops6_8 false:=by kernel_rfl
theorem least_go (E Fz Arg:Nat→Prop) (W0:World) (Post:Value→World→Prop) (φ:Ph) (W:World) (d:Dry) (ha sa:Option Addr) (hcap scap:Nat) (s:St) (at1 ht:Int) (ha1:0≤at1∧at1≤255) (hht:0≤ht∧ht≤255)
  (hh:Sl W (.slice ha d.heats.length hcap) 2 (d.heats.map two)) (hss:Sl W (.slice sa d.steps.length scap) 6 (d.steps.map Stp.cells)) (hl:d.heats.length≤140737488355328) (sl:d.steps.length≤140737488355328)
  (t:Array Value) (hs:t.size=148) (h0:t[0]?=some (d.val ⟨.slice ha d.heats.length hcap,.slice sa d.steps.length scap⟩)) (h1:t[1]?=some (s.val)) (h2:t[2]?=some (.int .u8 at1)) (h3:t[3]?=some (.int .u8 ht))
  (hPost:∀ Fz1 ρ D own A fr W1 W',Here Try.prog true E Fz1 Arg W0 ρ D own A fr [] W1 W'→Post (ren ρ (.bool true)) W') :
  GoM Try.prog true E Fz Arg W0 (AtEnd Try.prog Post) φ [] (Fr 6 t [.code b6]) [] W:=by
 rw [b6_eq]
 refine Gm.seq ?_
 refine Gm.lone (F:=FW) (fun t1 W1=>(t1.size=148∧t1[2]?=some (.int .u8 at1)∧t1[3]?=some (.int .u8 ht)∧t1[4]?=some (ptr W.heap.size)∧t1[5]?=some (ptr (W.heap.size+1)))∧W1.heap=((W.alloc (.cells (d.cellsA ⟨.slice ha d.heats.length hcap,.slice sa d.steps.length scap⟩) 27)).alloc (.cells #[num s.w,num s.c,num s.h] 24)).heap) rfl rfl trivial FW_ok (by kernel_rfl) (by kernel_rfl) (fun τ=>?_) ?_
 ·refine wpIn_mono (f6_0 d ha sa d.heats.length hcap d.steps.length scap s at1 ht t hs h0 h1 h2 h3 { W with tape:=τ }) ?_
  rintro e a w' ⟨k1,k2,⟨i0,i2,i3,i4,i5,i8⟩,rfl⟩
  exact⟨k1,k2,⟨i0,i2,i3,i4,i5⟩,rfl⟩
 rintro t1 W1 ⟨⟨s1,m2,m3,m4,m5⟩,hW1⟩
 obtain⟨nA,zA,gA,gB⟩:=al2 (w:=W) (o1:=.cells (d.cellsA ⟨.slice ha d.heats.length hcap,.slice sa d.steps.length scap⟩) 27 (0,0)) (o2:=.cells #[num s.w,num s.c,num s.h] 24 (0,0)) rfl
 have oA:OldC ((W.alloc (.cells (d.cellsA ⟨.slice ha d.heats.length hcap,.slice sa d.steps.length scap⟩) 27)).alloc (.cells #[num s.w,num s.c,num s.h] 24)) W1:=OldC.same hW1
 have o1:OldC W W1:=(OldC.nx nA).trans oA
 have hB:DBox W1 W.heap.size d ⟨.slice ha d.heats.length hcap,.slice sa d.steps.length scap⟩:=⟨by rw [hW1,zA];omega,fun i v hv=>oA.at (row_cell gA hv)⟩
 have q0:W1.cell? ⟨W.heap.size+1,0,none⟩=some (num s.w):=oA.at (row_cell gB rfl)
 have q1:W1.cell? ⟨W.heap.size+1,1,none⟩=some (num s.c):=oA.at (row_cell gB rfl)
 have q2:W1.cell? ⟨W.heap.size+1,2,none⟩=some (num s.h):=oA.at (row_cell gB rfl)
 have hh1:=hh.oc o1
 have hss1:=hss.oc o1
 clear nA zA gA gB oA o1 hW1 hh hss hs h0 h1 h2 h3
 generalize W.heap.size+1=p2 at *
 generalize W.heap.size=p1 at m4 hB
 refine Gm.seq (Gm.seq ?_)
 refine Gm.lone (F:=FW) (fun t2 W2=>(t2.size=148∧t2[2]?=some (.int .u8 at1)∧t2[3]?=some (.int .u8 ht)∧t2[4]?=some (ptr p1)∧t2[5]?=some (ptr p2)∧t2[38]?=some (.bool (out6 d s)))∧OldC W1 W2) rfl rfl trivial FW_ok (by kernel_rfl) (by kernel_rfl) (fun τ=>?_) ?_
 ·refine wpIn_mono (f6_1 d ⟨.slice ha d.heats.length hcap,.slice sa d.steps.length scap⟩ p1 p2 s at1 ht t1 s1 m2 m3 m4 m5 { W1 with tape:=τ } (hB.oc (OldC.same rfl)) q0 q1 q2 (hh1.oc (OldC.same rfl)) (hss1.oc (OldC.same rfl)) hl sl) ?_
  rintro e a w' ⟨k1,k2,k3,k4⟩
  exact⟨k1,k2,k3,nx_tape k4⟩
 rintro t2 W2 ⟨⟨s2,n2,n3,n4,n5,n38⟩,o2⟩
 by_cases hg:out6 d s=true
 ·rw [hg] at n38
  refine Gm.cond (b:=true) (eval_tmp n38) rfl ?_
  refine Gm.seq ?_
  rw [x6_2_eq]
  refine Gm.region ?_
  rw [show List.range ops6_2.size=[0,1] by kernel_rfl]
  refine Gm.enter (o:=⟨some 39,.call { callee:=.value (.func 17),args:=#[],argTypes:=#[] },_,_,_,none⟩) (c:={ callee:=.value (.func 17),args:=#[],argTypes:=#[] }) (g:=17) (fn:=Try.f17) (body:=b17) rfl rfl rfl rfl (by kernel_rfl) Try.func17 body17_of (by kernel_rfl) ?_
  refine dries_go E Fz Arg W0 _ φ _ [] W2 _ ?_ fun φ1 Wz Fz1 oz=>?_
  ·simp [Try.ntmps17]
  rw [Fr_finish rfl]
  change GoM Try.prog true E Fz1 Arg W0 _ φ1 [] (Fr 6 (putD t2 (some 39) (.bool true)) _) [] Wz
  refine Gm.op (o:=⟨some 8,.assign (.tmp 39),_,_,_,none⟩) (.bool true) Wz rfl rfl (by kernel_rfl) rfl (as_run _ (eval_tmp (by simp [putD,s2]))) id ?_
  refine Gm.regionEnd ?_
  refine Gm.done Try.func6 (by kernel_rfl) (results6 (.bool true) _ (by simp [putD,s2])) ?_
  exact fun ρ D own A fr W' h=>hPost _ ρ D own A fr _ W' h
 have hg' : out6 d s=false:=by simpa using hg
 rw [hg'] at n38
 have hof:greatD d=false∧dryF d=0∧stF d s=0∧0<d.steps.length:=by
  unfold out6 at hg'
  simp only [Bool.or_eq_false_iff,decide_eq_false_iff_not,Decidable.not_not,ne_eq] at hg'
  exact⟨hg'.1.1.1,hg'.1.1.2,hg'.1.2,by omega⟩
 obtain⟨hgr,hF0,hS0,hp⟩:=hof
 have hgl:d.heats.length≤40∧d.steps.length≤40:=by
  unfold greatD at hgr
  simp only [Bool.or_eq_false_iff,decide_eq_false_iff_not,Nat.not_lt] at hgr
  exact hgr
 have hO:=dryF_ok hF0
 have hSO:=stF_ok.1 hS0
 refine Gm.cond (b:=false) (eval_tmp n38) rfl ?_
 refine Gm.skip (Gm.seq ?_)
 have hB:=hB.oc o2
 have hd:DrySl W2 d ⟨.slice ha d.heats.length hcap,.slice sa d.steps.length scap⟩:=⟨hh1.oc o2,hss1.oc o2,by omega,by omega⟩
 have q0:=o2.at q0
 have q1:=o2.at q1
 have q2:=o2.at q2
 clear hh1 hss1 o2 hg hg' n38 s1 m2 m3 m4 m5 hgr hS0
 generalize hr:(⟨.slice ha d.heats.length hcap,.slice sa d.steps.length scap⟩:R2)=r at *
 clear hr
 have h4:=hO.h4
 obtain⟨i,hi⟩:∃ i:Nat,at1 % (d.steps.length:Int)=i:=⟨(at1 % (d.steps.length:Int)).toNat,by have:=Int.emod_nonneg at1 (b:=(d.steps.length:Int)) (by omega);omega⟩
 obtain⟨h,hhq⟩:∃ h:Nat,ht % (d.heats.length:Int)=h:=⟨(ht % (d.heats.length:Int)).toNat,by have:=Int.emod_nonneg ht (b:=(d.heats.length:Int)) (by omega);omega⟩
 have hil:i<d.steps.length:=by have:=Int.emod_lt_of_pos at1 (b:=(d.steps.length:Int)) (by omega);omega
 have hhl:h<d.heats.length:=by have:=Int.emod_lt_of_pos ht (b:=(d.heats.length:Int)) (by omega);omega
 obtain⟨x,hx⟩:∃ x,d.steps[i]?=some x:=⟨_,List.getElem?_eq_getElem hil⟩
 refine Gm.lone (F:=FW) (fun t3 W3=>(t3.size=148∧t3[4]?=some (ptr p1)∧t3[5]?=some (ptr p2)∧t3[9]?=some (num i)∧t3[10]?=some (num h))∧OldC W2 W3) rfl rfl trivial FW_ok (by kernel_rfl) (by kernel_rfl) (fun τ=>?_) ?_
 ·refine wpIn_mono (f6_3 d r p1 p2 at1 ht t2 s2 n2 n3 n4 n5 { W2 with tape:=τ } (hB.oc (OldC.same rfl)) (hd.oc (OldC.same rfl)) hO hp ha1 hht) ?_
  rw [hi,hhq]
  rintro e a w' ⟨k1,k2,k3,k4⟩
  exact⟨k1,k2,k3,nx_tape k4⟩
 rintro t3 W3 ⟨⟨s3,m4,m5,m9,m10⟩,o3⟩
 have hB:=hB.oc o3
 have hd:=hd.oc o3
 have q0:=o3.at q0
 have q1:=o3.at q1
 have q2:=o3.at q2
 clear o3 s2 n2 n3 n4 n5 hi hhq
 obtain⟨c,hc⟩:∃ c,chooseF d i s=c:=⟨_,rfl⟩
 have hc3:c.2.2=0:=by rw [← hc];exact choose_none hF0 (stF_ok.2 hSO) hil
 have hc1:c.2.1=false→c.1=0:=fun h=>by rw [← hc] at h ⊢;exact choose_zero h
 refine Gm.seq ?_
 refine Gm.lone (F:=FW) (fun t4 W4=>(t4.size=148∧t4[4]?=some (ptr p1)∧t4[5]?=some (ptr p2)∧t4[9]?=some (num i)∧t4[10]?=some (num h)∧t4[11]?=some (num c.1)∧t4[12]?=some (.bool c.2.1)∧t4[13]?=some (num c.2.2))∧OldC W3 W4) rfl rfl trivial FW_ok (by kernel_rfl) (by kernel_rfl) (fun τ=>?_) ?_
 ·refine wpIn_mono (f6_4 d r p1 p2 i h s c t3 s3 m4 m5 m9 m10 { W3 with tape:=τ } (hB.oc (OldC.same rfl)) (hd.oc (OldC.same rfl)) q0 q1 q2 (by omega) hc) ?_
  rintro e a w' ⟨k1,k2,k3,k4⟩
  exact⟨k1,k2,k3,nx_tape k4⟩
 rintro t4 W4 ⟨⟨s4,n4,n5,n9,n10,n11,n12,n13⟩,o4⟩
 have hB:=hB.oc o4
 have hd:=hd.oc o4
 have q0:=o4.at q0
 have q1:=o4.at q1
 have q2:=o4.at q2
 clear o4 s3 m4 m5 m9 m10
 rw [hc3] at n13
 refine Gm.seq (Gm.seq ?_)
 refine Gm.lone (F:=FW) (fun t5 W5=>(t5.size=148∧t5[4]?=some (ptr p1)∧t5[5]?=some (ptr p2)∧t5[9]?=some (num i)∧t5[10]?=some (num h)∧t5[11]?=some (num c.1)∧t5[12]?=some (.bool c.2.1)∧t5[69]?=some (.bool false))∧OldC W4 W5) rfl rfl trivial FW_ok (by kernel_rfl) (by kernel_rfl) (fun τ=>?_) ?_
 ·refine wpIn_mono (f6_5 p1 p2 i h c.1 c.2.1 t4 s4 n4 n5 n9 n10 n11 n12 n13 { W4 with tape:=τ } hc1) ?_
  rintro e a w' ⟨k1,k2,k3,rfl⟩
  exact⟨k1,k2,k3,OldC.same rfl⟩
 rintro t5 W5 ⟨⟨s5,m4,m5,m9,m10,m11,m12,m69⟩,o5⟩
 have hB:=hB.oc o5
 have hd:=hd.oc o5
 have q0:=o5.at q0
 have q1:=o5.at q1
 have q2:=o5.at q2
 clear o5 s4 n4 n5 n9 n10 n11 n12 n13
 refine Gm.cond (b:=false) (eval_tmp m69) rfl ?_
 refine Gm.skip (Gm.seq (Gm.seq ?_))
 refine Gm.lone (F:=FW) (fun t6 W6=>(t6.size=148∧t6[4]?=some (ptr p1)∧t6[5]?=some (ptr p2)∧t6[9]?=some (num i)∧t6[10]?=some (num h)∧t6[11]?=some (num c.1)∧t6[12]?=some (.bool c.2.1)∧t6[84]?=some (.bool (!mayB d.heats.length x s.h h || (c.2.1 && decide ((h:Int) > c.1)))))∧OldC W5 W6) rfl rfl trivial FW_ok (by kernel_rfl) (by kernel_rfl) (fun τ=>?_) ?_
 ·refine wpIn_mono (f6_7 d r p1 p2 i h c.1 x s c.2.1 t5 s5 m4 m5 m9 m10 m11 m12 { W5 with tape:=τ } (hB.oc (OldC.same rfl)) (hd.oc (OldC.same rfl)) q0 q1 q2 hx (by have:=hSO.h;omega)) ?_
  rintro e a w' ⟨k1,k2,k3,k4⟩
  exact⟨k1,k2,k3,nx_tape k4⟩
 rintro t6 W6 ⟨⟨s6,n4,n5,n9,n10,n11,n12,n84⟩,o6⟩
 have hB:=hB.oc o6
 have hd:=hd.oc o6
 have q0:=o6.at q0
 have q1:=o6.at q1
 have q2:=o6.at q2
 clear o6 s5 m4 m5 m9 m10 m11 m12 m69
 by_cases hm:(!mayB d.heats.length x s.h h || (c.2.1 && decide ((h:Int) > c.1)))=true
 ·rw [hm] at n84
  refine Gm.cond (b:=true) (eval_tmp n84) rfl ?_
  refine Gm.seq ?_
  rw [x6_8_eq]
  refine Gm.region ?_
  rw [show List.range ops6_8.size=[0,1] by kernel_rfl]
  refine Gm.enter (o:=⟨some 85,.call { callee:=.value (.func 17),args:=#[],argTypes:=#[] },_,_,_,none⟩) (c:={ callee:=.value (.func 17),args:=#[],argTypes:=#[] }) (g:=17) (fn:=Try.f17) (body:=b17) rfl rfl rfl rfl (by kernel_rfl) Try.func17 body17_of (by kernel_rfl) ?_
  refine dries_go E Fz Arg W0 _ φ _ [] W6 _ ?_ fun φ1 Wz Fz1 oz=>?_
  ·simp [Try.ntmps17]
  rw [Fr_finish rfl]
  change GoM Try.prog true E Fz1 Arg W0 _ φ1 [] (Fr 6 (putD t6 (some 85) (.bool true)) _) [] Wz
  refine Gm.op (o:=⟨some 8,.assign (.tmp 85),_,_,_,none⟩) (.bool true) Wz rfl rfl (by kernel_rfl) rfl (as_run _ (eval_tmp (by simp [putD,s6]))) id ?_
  refine Gm.regionEnd ?_
  refine Gm.done Try.func6 (by kernel_rfl) (results6 (.bool true) _ (by simp [putD,s6])) ?_
  exact fun ρ D own A fr W' h=>hPost _ ρ D own A fr _ W' h
 have hm' : (!mayB d.heats.length x s.h h || (c.2.1 && decide ((h:Int) > c.1)))=false:=by simpa using hm
 rw [hm'] at n84
 simp only [Bool.or_eq_false_iff,Bool.not_eq_false'] at hm'
 obtain⟨hmay,hnot⟩:=hm'
 have hlaw:=least6 hO hF0 hx hhl hSO hmay (by rw [hc];exact hnot)
 rw [hc] at hlaw
 refine Gm.cond (b:=false) (eval_tmp n84) rfl ?_
 refine Gm.skip (Gm.seq ?_)
 refine Gm.lone (F:=FW) (fun t7 W7=>(t7.size=148∧t7[4]?=some (ptr p1)∧t7[5]?=some (ptr p2)∧t7[9]?=some (num i)∧t7[10]?=some (num h)∧t7[11]?=some (num c.1)∧t7[12]?=some (.bool c.2.1)∧t7[14]?=some (.bool true))∧OldC W6 W7) rfl rfl trivial FW_ok (by kernel_rfl) (by kernel_rfl) (fun τ=>?_) ?_
 ·refine wpIn_mono (f6_9 p1 p2 i h c.1 c.2.1 t6 s6 n4 n5 n9 n10 n11 n12 { W6 with tape:=τ }) ?_
  rintro e a w' ⟨k1,k2,k3,rfl⟩
  exact⟨k1,k2,k3,OldC.same rfl⟩
 rintro t7 W7 ⟨⟨s7,m4,m5,m9,m10,m11,m12,m14⟩,o7⟩
 have hB:=hB.oc o7
 have hd:=hd.oc o7
 have q0:=o7.at q0
 have q1:=o7.at q1
 have q2:=o7.at q2
 clear o7 s6 n4 n5 n9 n10 n11 n12 n84
 refine Gm.seq ?_
 refine Gm.lone (F:=FW) (fun t8 W8=>(t8.size=148∧t8[10]?=some (num h)∧t8[11]?=some (num c.1)∧t8[12]?=some (.bool c.2.1)∧t8[14]?=some (.bool (x.damps.all (ok6 d i x s h))))∧OldC W7 W8) rfl rfl trivial FW_ok (by kernel_rfl) (by kernel_rfl) (fun τ=>?_) ?_
 ·refine wpIn_mono (f6_10 d r p1 p2 i h c.1 x s c.2.1 t7 s7 m4 m5 m9 m10 m11 m12 m14 { W7 with tape:=τ } (hB.oc (OldC.same rfl)) (hd.oc (OldC.same rfl)) hO hF0 q0 q1 q2 hx hhl hSO) ?_
  rintro e a w' ⟨k1,k2,k3,k4⟩
  exact⟨k1,k2,k3,nx_tape k4⟩
 rintro t8 W8 ⟨⟨s8,n10,n11,n12,n14⟩,o8⟩
 refine Gm.seq ?_
 rw [hlaw] at n14
 clear hB hd q0 q1 q2 o8 hlaw hc hc1 hc3 hnot hm
 obtain⟨c1,cb,c2⟩:=c
 dsimp only at n11 n12 n14
 cases cb with
 | true =>
  rw [Bool.true_and] at n14
  exact least_end_true E Fz Arg W0 Post φ W8 h c1 t8 s8 n10 n11 n12 n14 hPost
 | false =>
  rw [Bool.false_and] at n14
  exact least_end_false E Fz Arg W0 Post φ W8 h c1 t8 s8 n10 n11 n12 n14 hPost
end Go.Proofs.Ytedomogjmhommaa
namespace Go.Proofs.Ytedomogjmhommaa
open Go.RowKit Go.Con Go.Conc Go.ChangeShapes Go.WideShapes Go.ChangeAt
local instance dryI100:Lone:=dryL
theorem body6_of:Try.f6.body=some b6:=by kernel_rfl
theorem Alk.u8 {W:World} {E:Nat→Prop} (n:Int):Alk W E (.int .u8 n):=⟨fun c=>by simp [ren],by simp [ren]⟩
theorem least_fin (d:Dry) (r:R2) (s:St) (at1 ht:Int) (ha1:0≤at1∧at1≤255) (hht:0≤ht∧ht≤255) (W:World) (hd:DryIn W d r) :
  Con.Fin Try.prog (fun u W'=>u=.bool true∧Con.Left W W') (solo (G (Frame.enter Try.prog 6 #[d.val r,s.val,.int .u8 at1,.int .u8 ht] .normal) []) W) #[]:=by
 refine law_fin Try.func6 body6_of (fun v hv=>?_) fun c Post hPost=>?_
 ·simp only [List.mem_cons,List.not_mem_nil,or_false] at hv
  rcases hv with rfl | rfl | rfl | rfl
  ·exact hd.same
  ·refine Alk.agg fun v hv=>?_
   simp only [List.mem_cons,List.not_mem_nil,or_false] at hv
   rcases hv with rfl | rfl | rfl<;>exact Alk.num _
  ·exact Alk.u8 _
  ·exact Alk.u8 _
 ·obtain⟨rh,rs⟩:=r
  obtain⟨ha,hcap,q1⟩:=hd.heats.cases
  obtain⟨sa,scap,q2⟩:=hd.steps.cases
  dsimp only at q1 q2
  rw [List.length_map] at q1 q2
  subst q1 q2
  have he:=hd.entry (c:=c)
  exact least_go _ _ _ _ Post _ _ d ha sa hcap scap s at1 ht ha1 hht he.heats he.steps hd.hl hd.sl _ (by simp [Try.ntmps6]) (by simp) (by simp) (by simp) (by simp) hPost
theorem least_lifted (os:Os) (started:os.Started) (H:Type) (enc:TypeId×Value→H) :
  ReturnsInLeavingWide {} Try.checked os 6 .any (Rows.dryLeastSpec.pre6 enc Try.prog Try.f6 [] false) (Rows.dryLeastSpec.post enc Try.prog Try.f6 false true false false):=by
 refine returnsInLeavingWide_of_change_sized (C:=Try.checked) own_knob started Try.func6
  (ChangeSpec.witness6 (enc:=enc) (C:=Try.checked) false ⟨#[],#[.agg #[.slice none 0 0,.int .i64 0,.int .i64 0,.int .i64 0,.int .i64 0,.int .i64 0,.slice none 0 0],.agg #[.int .i64 0,.int .i64 0,.int .i64 0],.int .u8 0,.int .u8 0],[]⟩ 8 (by kernel_rfl) (by kernel_rfl) (by kernel_rfl) (by kernel_rfl)) ?_
 intro W base args ds gs before hval0 hW _ hsz _
 have hval:∀ (j:Nat) t v,Try.f6.params[j]?=some t→args[j]?=some v→Value.okWide Try.prog W .any base t v:=hval0
 have hW':=hW
 obtain⟨p,q,hA0,hV,rfl,hfz,hnd⟩:=hW
 have hA:DataW.TrodAll enc Try.prog W 0 (fun _=>true) true Try.f6.params.toList args.toList ds p:=hA0
 rw [Try.params6] at hA hval
 obtain⟨v0,v1,v2,v3,d0,d1,d2,d3,p0,p1,p2,p3,rfl,rfl,rfl,h0,h1,h2,h3⟩:=trodAll_four hA
 obtain⟨rfl,rfl⟩:=trodVars_none hV
 have hfit:∀ (j:Nat) (t:TypeId) (dd:DataW H),Try.f6.params.toList[j]?=some t→[d0,d1,d2,d3][j]?=some dd→Fits t dd:=fun j t dd ht hdd n hn=>by
  have:=List.all_eq_true.1 hsz n (DataW.weights_mem_each (P:=Try.prog) (j:=j) (t:=t) (d:=dd) (by
   have:(Try.f6.params.toList++[])[j]?=some t:=by rw [List.append_nil];exact ht
   exact this) (by
   have:([d0,d1,d2,d3]++[])[j]?=some dd:=by rw [List.append_nil];exact hdd
   exact this) n hn)
  simpa using this
 have hp6q:Try.f6.params.toList=[27,24,5,5]:=by rw [Try.params6]
 rw [hp6q] at hfit
 obtain⟨d,r,rfl,hd⟩:=dry_open (hval 0 27 v0 rfl rfl) h0 (hfit 0 27 d0 rfl rfl)
 obtain⟨s,rfl⟩:=state_open (hval 1 24 v1 rfl rfl) h1
 obtain⟨at1,rfl,hd2,hp2,hw2⟩:=open_int Try.underlying5 (hval 2 5 v2 rfl rfl) h2
 obtain⟨ht,rfl,hd3,hp3,hw3⟩:=open_int Try.underlying5 (hval 3 5 v3 rfl rfl) h3
 clear hA0 hval0
 simp only [List.append_nil] at hW'
 have hlt:∀ x∈p0++(p1++(p2++(p3++[]))),x.block<W.heap.size:=fun x hx=>by
  have:=hW'.lt x (by simpa using hx)
  simpa using this
 refine fin_post (least_fin d r s at1 ht (bounds_u8 hw2) (bounds_u8 hw3) W hd) fun W' hl=>?_
 have ha:=trodAll_mk4 (left_trod (by kernel_rfl) (of_decide_eq_true (by kernel_rfl)) h0 hl fun x hx=>hlt x (by simp [hx])) (left_trod (by kernel_rfl) (of_decide_eq_true (by kernel_rfl)) h1 hl fun x hx=>hlt x (by simp [hx])) (left_trod (by kernel_rfl) (of_decide_eq_true (by kernel_rfl)) h2 hl fun x hx=>hlt x (by simp [hx])) (left_trod (by kernel_rfl) (of_decide_eq_true (by kernel_rfl)) h3 hl fun x hx=>hlt x (by simp [hx]))
 simp only [List.append_assoc] at hW'
 exact⟨[d0,d1,d2,d3],[],p0++(p1++(p2++p3)),[],_,[],hW',trodAll_mk1 (shut_bool Try.underlying4 _),ha,rfl,left_kept hl _,fun h=>by cases h⟩
theorem least_holds:Rows.DryLeastSaid :=
 OpenClaim.holds_of_wide_leaving 6 Try.f6 rfl rfl rfl rfl rfl rfl rfl ⟨rfl,rfl,rfl,rfl,rfl⟩ rfl rfl rfl rfl rfl (by kernel_rfl) Try.func6 (by kernel_rfl)
  (of_decide_eq_true (by kernel_rfl)) (by unfold Func.isWrapper;first | (rw [if_pos (by decide +kernel)];kernel_rfl) | (rw [if_neg (by decide +kernel)];exact⟨rfl,rfl⟩))
  (fun os started H enc _=>least_lifted os started H enc)
end Go.Proofs.Ytedomogjmhommaa
