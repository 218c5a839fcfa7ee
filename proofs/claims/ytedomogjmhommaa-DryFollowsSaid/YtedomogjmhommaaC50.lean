import Derived.Test.YtedomogjmhommaaC48
import Derived.Test.YtedomogjmhommaaC49
import Derived.Test.YtedomogjmhommaaChecked
import Derived.Test.YtedomogjmhommaaRows
import Derived.ProofKit
import Derived.LaidMore
import Derived.OpenShut
import Derived.Stop.Joined
import Derived.Conc.LeavingOf
import Derived.Conc.Holds
set_option linter.all false
set_option maxRecDepth 100000
set_option maxHeartbeats 8000000
namespace Go.Proofs.Ytedomogjmhommaa
open Go.RowKit Go.Con Go.Conc
local instance dryI88:Lone:=dryL
theorem wanted_guard {ops:Array Oper} {o:Oper} {i d:Nat} {b:Bool} {t:Array Value} (hg:o.guard=some (i,b)) (hd:(ops[i]?).bind (·.dst)=some d) (hv:t[d]?=some (.bool b)):Region.wanted o (yielded ops t)=true:=by
 unfold Region.wanted yielded
 simp [hg,hd,hv]
section
variable {dst:Option Nat} {ty:TypeId} {pos:String} {af:Array Edge} {gd:Option (Nat×Bool)} {x y:Nat}
theorem pick_run (e:Operand→Value) {w:World} {v c:Value} (h:e (.tmp x)=.bool true) (h2:e (.tmp y)=v) (τ:Tape):(execOp e ⟨dst,.pick (.tmp x) (.tmp y) (.const c),ty,pos,af,gd⟩).run Try.prog { w with tape:=τ }=.ok (.value v) { w with tape:=τ }:=by
 simp [execOp,go_sem,h,h2]
theorem eq30_run (e:Operand→Value) {w:World} {n:Int} (h:e (.tmp x)=num n) (h2:e (.tmp y)=num n) (τ:Tape):(execOp e ⟨dst,.binOp .eql 30 (.tmp x) (.tmp y) 30,ty,pos,af,gd⟩).run Try.prog { w with tape:=τ }=.ok (.value (.bool true)) { w with tape:=τ }:=by
 simp [execOp,go_sem,h,h2]
end
noncomputable def ops9_2:Array Oper:=opsOf x9_2
theorem x9_2_eq:x9_2=.region 2 ops9_2 false:=by kernel_rfl
noncomputable def ops9_5:Array Oper:=opsOf x9_5
theorem x9_5_eq:x9_5=.region 5 ops9_5 true:=by kernel_rfl
theorem body17_of:Try.f17.body=some b17:=by kernel_rfl
noncomputable def b46:Code:=match Try.f46.body with | some c=>c | none=>.skip
noncomputable def b47:Code:=match Try.f47.body with | some c=>c | none=>.skip
noncomputable def b33:Code:=match Try.f33.body with | some c=>c | none=>.skip
theorem body46_of:Try.f46.body=some b46:=by kernel_rfl
theorem body47_of:Try.f47.body=some b47:=by kernel_rfl
theorem body33_of:Try.f33.body=some b33:=by kernel_rfl
theorem results9 (v:Value) (t:Array Value) (h:t[6]?=some v) (σ:Rn):ResultsC Try.prog Try.f9 (t.map (ren σ)) (ren σ v):=by
 have:=resultsC_tmp (P:=Try.prog) (fn:=Try.f9) (t:=6) rfl (t.map (ren σ))
 simp only [Array.getD_eq_getD_getElem?,Array.getElem?_map,h,Option.map_some,Option.getD_some] at this
 exact this
theorem one_back {g:Nat} {args:Array Value} {W:World} {v:Value} {τ:Tape} (h:CallsIn FW 0 Try.prog g args { W with tape:=τ } fun e w'=>e=.returned v∧Nx { W with tape:=τ } w') :
  CallsIn FW 0 Try.prog g args { W with tape:=τ } fun e w'=>match e with | .returned u=>(u=v∧OldC W w') | _=>False:=by
 refine h.mono ?_
 rintro e w' ⟨rfl,n⟩
 exact⟨rfl,nx_tape n⟩
theorem follows_go (E Fz Arg:Nat→Prop) (W0:World) (Post:Value→World→Prop) (φ:Ph) (W:World) (d:Dry) (ha sa pa aa:Option Addr) (hcap scap pc ac:Nat) (plan air:List Int)
  (hh:Sl W (.slice ha d.heats.length hcap) 2 (d.heats.map two)) (hst:Sl W (.slice sa d.steps.length scap) 6 (d.steps.map Stp.cells)) (hl:d.heats.length≤140737488355328) (sl:d.steps.length≤140737488355328)
  (hp:Sl W (.slice pa plan.length pc) 1 (plan.map one)) (hair:Sl W (.slice aa air.length ac) 1 (air.map one)) (hpl:plan.length≤140737488355328) (hal:air.length≤140737488355328)
  (t:Array Value) (hs:t.size=56) (h0:t[0]?=some (d.val ⟨.slice ha d.heats.length hcap,.slice sa d.steps.length scap⟩)) (h1:t[1]?=some (.slice pa plan.length pc)) (h2:t[2]?=some (.slice aa air.length ac))
  (hPost:∀ Fz1 ρ D own A fr W1 W',Here Try.prog true E Fz1 Arg W0 ρ D own A fr [] W1 W'→Post (ren ρ (.bool true)) W') :
  GoM Try.prog true E Fz Arg W0 (AtEnd Try.prog Post) φ [] (Fr 9 t [.code b9]) [] W:=by
 rw [b9_eq]
 refine Gm.seq ?_
 refine Gm.lone (F:=FW) (fun t1 W1=>(t1.size=56∧t1[1]?=some (.slice pa plan.length pc)∧t1[2]?=some (.slice aa air.length ac)∧t1[3]?=some (ptr W.heap.size)∧t1[6]?=some (.bool false))∧W1.heap=(W.alloc (.cells (d.cellsA ⟨.slice ha d.heats.length hcap,.slice sa d.steps.length scap⟩) 27)).heap) rfl rfl trivial FW_ok (by kernel_rfl) (by kernel_rfl) (fun τ=>?_) ?_
 ·refine wpIn_mono (f9_0 d ha sa d.heats.length hcap d.steps.length scap pa aa plan.length pc air.length ac t hs h0 h1 h2 { W with tape:=τ }) ?_
  rintro e a w' ⟨k1,k2,k3,rfl⟩
  exact⟨k1,k2,k3,rfl⟩
 rintro t1 W1 ⟨⟨s1,m1,m2,m3,m6⟩,hW1⟩
 have o1:OldC W W1:=OldC.al hW1
 have hB:DBox W1 W.heap.size d ⟨.slice ha d.heats.length hcap,.slice sa d.steps.length scap⟩:=by
  obtain⟨_,h⟩:=DBox.of (w:=W) (d:=d) (r:=⟨.slice ha d.heats.length hcap,.slice sa d.steps.length scap⟩) (fz:=(0,0)) (e:=27) rfl
  exact h.oc (OldC.same hW1)
 have hh1:=hh.oc o1
 have hst1:=hst.oc o1
 have hp1:=hp.oc o1
 have hair1:=hair.oc o1
 generalize W.heap.size=p1 at m3 hB
 clear hW1 o1 hh hst hp hair hs h0 h1 h2
 refine Gm.seq (Gm.seq ?_)
 refine Gm.lone (F:=FW) (fun t2 W2=>(t2.size=56∧t2[1]?=some (.slice pa plan.length pc)∧t2[2]?=some (.slice aa air.length ac)∧t2[3]?=some (ptr p1)∧t2[6]?=some (.bool false)∧t2[22]?=some (.bool (greatD d || decide (40<plan.length) || decide (40<air.length))))∧OldC W1 W2) rfl rfl trivial FW_ok (by kernel_rfl) (by kernel_rfl) (fun τ=>?_) ?_
 ·refine wpIn_mono (f9_1 d ⟨.slice ha d.heats.length hcap,.slice sa d.steps.length scap⟩ p1 pa aa plan.length pc air.length ac t1 s1 m1 m2 m3 m6 { W1 with tape:=τ } (hB.oc (OldC.same rfl)) (hh1.oc (OldC.same rfl)) (hst1.oc (OldC.same rfl)) hl sl hpl hal) ?_
  rintro e a w' ⟨k1,k2,k3,k4⟩
  exact⟨k1,k2,k3,nx_tape k4⟩
 rintro t2 W2 ⟨⟨s2,n1,n2,n3,n6,n22⟩,o2⟩
 by_cases hg:(greatD d || decide (40<plan.length) || decide (40<air.length))=true
 ·rw [hg] at n22
  refine Gm.cond (b:=true) (eval_tmp n22) rfl ?_
  refine Gm.seq ?_
  rw [x9_2_eq]
  refine Gm.region ?_
  rw [show List.range ops9_2.size=[0,1] by kernel_rfl]
  refine Gm.enter (o:=⟨some 23,.call { callee:=.value (.func 17),args:=#[],argTypes:=#[] },_,_,_,none⟩) (c:={ callee:=.value (.func 17),args:=#[],argTypes:=#[] }) (g:=17) (fn:=Try.f17) (body:=b17) rfl rfl rfl rfl (by kernel_rfl) Try.func17 body17_of (by kernel_rfl) ?_
  refine dries_go E Fz Arg W0 _ φ _ [] W2 _ ?_ fun φ1 W3 Fz1 o3=>?_
  ·simp [Try.ntmps17]
  rw [Fr_finish rfl]
  change GoM Try.prog true E Fz1 Arg W0 _ φ1 [] (Fr 9 (putD t2 (some 23) (.bool true)) _) [] W3
  refine Gm.op (o:=⟨some 6,.assign (.tmp 23),_,_,_,none⟩) (.bool true) W3 rfl rfl (by kernel_rfl) rfl (as_run _ (eval_tmp (by simp [putD,s2]))) id ?_
  refine Gm.regionEnd ?_
  refine Gm.done Try.func9 (by kernel_rfl) (results9 (.bool true) _ (by simp [putD,s2])) ?_
  exact fun ρ D own A fr W' h=>hPost _ ρ D own A fr _ W' h
 ·have hg' : (greatD d || decide (40<plan.length) || decide (40<air.length))=false:=by simpa using hg
  rw [hg'] at n22
  have hgd:greatD d=false∧plan.length≤40∧air.length≤40:=by
   simp only [Bool.or_eq_false_iff,decide_eq_false_iff_not,Nat.not_lt] at hg'
   exact⟨hg'.1.1,hg'.1.2,hg'.2⟩
  have hgl:d.heats.length≤40∧d.steps.length≤40:=by
   have:=hgd.1
   unfold greatD at this
   simp only [Bool.or_eq_false_iff,decide_eq_false_iff_not,Nat.not_lt] at this
   exact this
  refine Gm.cond (b:=false) (eval_tmp n22) rfl ?_
  refine Gm.skip (Gm.seq ?_)
  have hB2:=hB.oc o2
  have hd2:DrySl W2 d ⟨.slice ha d.heats.length hcap,.slice sa d.steps.length scap⟩:=⟨hh1.oc o2,hst1.oc o2,by omega,by omega⟩
  have hp2:=hp1.oc o2
  have hair2:=hair1.oc o2
  clear hB hh1 hst1 hp1 hair1 o2 hg hg' n22 s1 m1 m2 m3 m6
  refine Gm.lone (F:=FW) (fun t3 W3=>∃ v7,(t3.size=56∧t3[1]?=some (.slice pa plan.length pc)∧t3[2]?=some (.slice aa air.length ac)∧t3[3]?=some (ptr p1)∧t3[6]?=some (.bool false)∧t3[7]?=some v7∧t3[8]?=some (num (followF d plan air).2))∧OldC W2 W3∧Sl W3 v7 3 ((followF d plan air).1.map St.cells)) rfl rfl trivial FW_ok (by kernel_rfl) (by kernel_rfl) (fun τ=>?_) ?_
  ·refine wpIn_mono (f9_3 d _ p1 plan air pa aa pc ac undef 0 t2 s2 n1 n2 n3 n6 { W2 with tape:=τ } (hB2.oc (OldC.same rfl)) (hd2.oc (OldC.same rfl)) (hp2.oc (OldC.same rfl)) (hair2.oc (OldC.same rfl)) (by omega) (by omega)) ?_
   rintro e a w' ⟨k1,k2,v7,k3,k4,k5⟩
   exact⟨k1,k2,v7,k3,nx_tape k4,k5⟩
  rintro t3 W3 ⟨v7,⟨s3,m1,m2,m3,m6,m7,m8⟩,o3,hv7⟩
  have hB3:=hB2.oc o3
  have hd3:=hd2.oc o3
  have hp3:=hp2.oc o3
  have hair3:=hair2.oc o3
  clear hB2 hd2 hp2 hair2 o3 s2 n1 n2 n3 n6
  refine Gm.seq ?_
  refine Gm.lone (F:=FW) (fun t4 W4=>∃ v9,(t4.size=56∧t4[3]?=some (ptr p1)∧t4[7]?=some v7∧t4[8]?=some (num (followF d plan air).2)∧t4[9]?=some v9∧t4[10]?=some (num (followF d plan air).2))∧OldC W3 W4∧Sl W4 v9 3 ((followF d plan air).1.map St.cells)) rfl rfl trivial FW_ok (by kernel_rfl) (by kernel_rfl) (fun τ=>?_) ?_
  ·refine wpIn_mono (f9_4 d _ p1 plan air pa aa pc ac v7 (followF d plan air).2 t3 s3 m1 m2 m3 m6 m7 m8 { W3 with tape:=τ } (hB3.oc (OldC.same rfl)) (hd3.oc (OldC.same rfl)) (hp3.oc (OldC.same rfl)) (hair3.oc (OldC.same rfl)) (by omega) (by omega)) ?_
   rintro e a w' ⟨k1,k2,v9,⟨i0,i1,i2,i3,i6,i7,i8,i9,i10⟩,k4,k5⟩
   exact⟨k1,k2,v9,⟨i0,i3,i7,i8,i9,i10⟩,nx_tape k4,k5⟩
  rintro t4 W4 ⟨v9,⟨s4,n3,n7,n8,n9,n10⟩,o4,hv9⟩
  have hB4:=hB3.oc o4
  have hd4:=hd3.oc o4
  have hv7:=hv7.oc o4
  have hsti:=follow_sti d plan air
  have hfl:=follow_len d plan air (by omega)
  clear hB3 hd3 hp3 hair3 o4 s3 m1 m2 m3 m6 m7 m8
  generalize followF d plan air=fo at *
  refine Gm.seq ?_
  rw [x9_5_eq]
  generalize hr:(⟨.slice ha d.heats.length hcap,.slice sa d.steps.length scap⟩:R2)=r at *
  refine Gm.regionAny (by kernel_rfl) (fun x=>OldC W4 x) (fun i=>([v7,v9,.bool true,.bool true,num fo.2,num fo.2,.bool true,.bool true,.bool true,d.val r,num (dryF d),d.val r,num (dryF d),.bool true,.bool true,.bool true,.bool true,.bool true,.bool true]:List Value).getD i undef) (by rw [s4];kernel_rfl) (OldC.same rfl) ?_ ?_
  ·intro i hi t W Fz φ rest hC hsz hgot hold hk
   rw [show ops9_5.size=19 by kernel_rfl] at hi
   match i,hi with
   | 0,_ =>
    have e7:t[7]?=some v7:=(hold 7 (by kernel_rfl)).trans n7
    exact Gm.op v7 W rfl rfl (by kernel_rfl) rfl (mv_run _ (eval_tmp e7)) id (hk W Fz φ hC)
   | 1,_ =>
    have e9:t[9]?=some v9:=(hold 9 (by kernel_rfl)).trans n9
    exact Gm.op v9 W rfl rfl (by kernel_rfl) rfl (mv_run _ (eval_tmp e9)) id (hk W Fz φ hC)
   | 2,_ =>
    have e0:t[38]?=some v7:=hgot 0 38 (by kernel_rfl) (by kernel_rfl)
    have e1:t[39]?=some v9:=hgot 1 39 (by kernel_rfl) (by kernel_rfl)
    refine Gm.call (F:=FW) (n:=0) (j:=4) (o:=⟨some 40,.call { callee:=.value (.func 46),args:=#[.tmp 38,.tmp 39],argTypes:=#[69,69] },_,_,_,none⟩) (c:={ callee:=.value (.func 46),args:=#[.tmp 38,.tmp 39],argTypes:=#[69,69] }) (R:=fun v W'=>v=.bool true∧OldC W W') (args:=#[v7,v9]) rfl FW_ok rfl rfl rfl rfl (by kernel_rfl) Try.func46 body46_of (by kernel_rfl) (by kernel_rfl) (FW_ok 46 trivial (by kernel_rfl)) rfl ?_ (fun τ=>?_) ?_
    ·simp only [List.map_toArray,List.map_cons,List.map_nil,show (Fr 9 t []).eval (.tmp 38)=v7 from eval_tmp e0,show (Fr 9 t []).eval (.tmp 39)=v9 from eval_tmp e1]
    ·have:=same46_any v7 v9 fo.1 fo.1 { W with tape:=τ } (hv7.oc (hC.trans (OldC.same rfl))) (hv9.oc (hC.trans (OldC.same rfl))) hfl hfl hsti hsti
     rw [show decide (fo.1=fo.1)=true by simp] at this
     exact one_back this
    ·rintro v W' ⟨rfl,o⟩
     exact hk W' Fz φ (hC.trans o)
   | 3,_ =>
    have e2:t[40]?=some (.bool true):=hgot 2 40 (by kernel_rfl) (by kernel_rfl)
    exact Gm.op (.bool true) W rfl rfl (by kernel_rfl) rfl (mv_run _ (eval_tmp e2)) id (hk W Fz φ hC)
   | 4,_ =>
    have e3:t[41]?=some (.bool true):=hgot 3 41 (by kernel_rfl) (by kernel_rfl)
    have e8:t[8]?=some (num fo.2):=(hold 8 (by kernel_rfl)).trans n8
    exact Gm.op (num fo.2) W rfl (wanted_guard (i:=3) (b:=true) (d:=41) rfl rfl e3) (by kernel_rfl) rfl (mv_run _ (eval_tmp e8)) id (hk W Fz φ hC)
   | 5,_ =>
    have e3:t[41]?=some (.bool true):=hgot 3 41 (by kernel_rfl) (by kernel_rfl)
    have e10:t[10]?=some (num fo.2):=(hold 10 (by kernel_rfl)).trans n10
    exact Gm.op (num fo.2) W rfl (wanted_guard (i:=3) (b:=true) (d:=41) rfl rfl e3) (by kernel_rfl) rfl (mv_run _ (eval_tmp e10)) id (hk W Fz φ hC)
   | 6,_ =>
    have e3:t[41]?=some (.bool true):=hgot 3 41 (by kernel_rfl) (by kernel_rfl)
    have e4:t[42]?=some (num fo.2):=hgot 4 42 (by kernel_rfl) (by kernel_rfl)
    have e5:t[43]?=some (num fo.2):=hgot 5 43 (by kernel_rfl) (by kernel_rfl)
    exact Gm.op (.bool true) W rfl (wanted_guard (i:=3) (b:=true) (d:=41) rfl rfl e3) (by kernel_rfl) rfl (eq30_run _ (eval_tmp e4) (eval_tmp e5)) id (hk W Fz φ hC)
   | 7,_ =>
    have e3:t[41]?=some (.bool true):=hgot 3 41 (by kernel_rfl) (by kernel_rfl)
    have e6:t[44]?=some (.bool true):=hgot 6 44 (by kernel_rfl) (by kernel_rfl)
    exact Gm.op (.bool true) W rfl rfl (by kernel_rfl) rfl (pick_run _ (eval_tmp e3) (eval_tmp e6)) id (hk W Fz φ hC)
   | 8,_ =>
    have e7:t[45]?=some (.bool true):=hgot 7 45 (by kernel_rfl) (by kernel_rfl)
    exact Gm.op (.bool true) W rfl rfl (by kernel_rfl) rfl (mv_run _ (eval_tmp e7)) id (hk W Fz φ hC)
   | 9,_ =>
    have e8:t[46]?=some (.bool true):=hgot 8 46 (by kernel_rfl) (by kernel_rfl)
    have e3:t[3]?=some (ptr p1):=(hold 3 (by kernel_rfl)).trans n3
    exact Gm.op (d.val r) W rfl (wanted_guard (i:=8) (b:=true) (d:=46) rfl rfl e8) (by kernel_rfl) rfl (load27_run _ (eval_tmp e3) (hB4.oc hC)) id (hk W Fz φ hC)
   | 10,_ =>
    have e8:t[46]?=some (.bool true):=hgot 8 46 (by kernel_rfl) (by kernel_rfl)
    have e9:t[47]?=some (d.val r):=hgot 9 47 (by kernel_rfl) (by kernel_rfl)
    refine Gm.call (F:=FW) (n:=0) (j:=2) (o:=⟨some 48,.call { callee:=.value (.func 47),args:=#[.tmp 47],argTypes:=#[27] },_,_,_,some (8,true)⟩) (c:={ callee:=.value (.func 47),args:=#[.tmp 47],argTypes:=#[27] }) (R:=fun v W'=>v=num (dryF d)∧OldC W W') (args:=#[d.val r]) rfl FW_ok rfl (wanted_guard (i:=8) (b:=true) (d:=46) rfl rfl e8) rfl rfl (by kernel_rfl) Try.func47 body47_of (by kernel_rfl) (by kernel_rfl) (FW_ok 47 trivial (by kernel_rfl)) rfl ?_ (fun τ=>?_) ?_
    ·simp only [List.map_toArray,List.map_cons,List.map_nil,show (Fr 9 t []).eval (.tmp 47)=d.val r from eval_tmp e9]
    ·exact one_back (check47_any d r { W with tape:=τ } (hd4.oc (hC.trans (OldC.same rfl))))
    ·rintro v W' ⟨rfl,o⟩
     exact hk W' Fz φ (hC.trans o)
   | 11,_ =>
    have e8:t[46]?=some (.bool true):=hgot 8 46 (by kernel_rfl) (by kernel_rfl)
    have e3:t[3]?=some (ptr p1):=(hold 3 (by kernel_rfl)).trans n3
    exact Gm.op (d.val r) W rfl (wanted_guard (i:=8) (b:=true) (d:=46) rfl rfl e8) (by kernel_rfl) rfl (load27_run _ (eval_tmp e3) (hB4.oc hC)) id (hk W Fz φ hC)
   | 12,_ =>
    have e8:t[46]?=some (.bool true):=hgot 8 46 (by kernel_rfl) (by kernel_rfl)
    have e9:t[49]?=some (d.val r):=hgot 11 49 (by kernel_rfl) (by kernel_rfl)
    refine Gm.call (F:=FW) (n:=0) (j:=2) (o:=⟨some 50,.call { callee:=.value (.func 33),args:=#[.tmp 49],argTypes:=#[27] },_,_,_,some (8,true)⟩) (c:={ callee:=.value (.func 33),args:=#[.tmp 49],argTypes:=#[27] }) (R:=fun v W'=>v=num (dryF d)∧OldC W W') (args:=#[d.val r]) rfl FW_ok rfl (wanted_guard (i:=8) (b:=true) (d:=46) rfl rfl e8) rfl rfl (by kernel_rfl) Try.func33 body33_of (by kernel_rfl) (by kernel_rfl) (FW_ok 33 trivial (by kernel_rfl)) rfl ?_ (fun τ=>?_) ?_
    ·simp only [List.map_toArray,List.map_cons,List.map_nil,show (Fr 9 t []).eval (.tmp 49)=d.val r from eval_tmp e9]
    ·exact one_back (check33_any d r { W with tape:=τ } (hd4.oc (hC.trans (OldC.same rfl))))
    ·rintro v W' ⟨rfl,o⟩
     exact hk W' Fz φ (hC.trans o)
   | 13,_ =>
    have e8:t[46]?=some (.bool true):=hgot 8 46 (by kernel_rfl) (by kernel_rfl)
    have e4:t[48]?=some (num (dryF d)):=hgot 10 48 (by kernel_rfl) (by kernel_rfl)
    have e5:t[50]?=some (num (dryF d)):=hgot 12 50 (by kernel_rfl) (by kernel_rfl)
    exact Gm.op (.bool true) W rfl (wanted_guard (i:=8) (b:=true) (d:=46) rfl rfl e8) (by kernel_rfl) rfl (eq30_run _ (eval_tmp e4) (eval_tmp e5)) id (hk W Fz φ hC)
   | 14,_ =>
    have e3:t[46]?=some (.bool true):=hgot 8 46 (by kernel_rfl) (by kernel_rfl)
    have e6:t[51]?=some (.bool true):=hgot 13 51 (by kernel_rfl) (by kernel_rfl)
    exact Gm.op (.bool true) W rfl rfl (by kernel_rfl) rfl (pick_run _ (eval_tmp e3) (eval_tmp e6)) id (hk W Fz φ hC)
   | 15,_ =>
    have e7:t[52]?=some (.bool true):=hgot 14 52 (by kernel_rfl) (by kernel_rfl)
    exact Gm.op (.bool true) W rfl rfl (by kernel_rfl) rfl (mv_run _ (eval_tmp e7)) id (hk W Fz φ hC)
   | 16,_ =>
    have e8:t[53]?=some (.bool true):=hgot 15 53 (by kernel_rfl) (by kernel_rfl)
    refine Gm.enter (o:=⟨some 54,.call { callee:=.value (.func 17),args:=#[],argTypes:=#[] },_,_,_,some (15,true)⟩) (c:={ callee:=.value (.func 17),args:=#[],argTypes:=#[] }) (g:=17) (fn:=Try.f17) (body:=b17) rfl (wanted_guard (i:=15) (b:=true) (d:=53) rfl rfl e8) rfl rfl (by kernel_rfl) Try.func17 body17_of (by kernel_rfl) ?_
    refine dries_go E Fz Arg W0 _ φ _ [] W _ (by simp [Try.ntmps17]) fun φ1 W5 Fz1 o5=>?_
    rw [Fr_finish rfl]
    exact hk W5 Fz1 φ1 (hC.trans o5)
   | 17,_ =>
    have e3:t[53]?=some (.bool true):=hgot 15 53 (by kernel_rfl) (by kernel_rfl)
    have e6:t[54]?=some (.bool true):=hgot 16 54 (by kernel_rfl) (by kernel_rfl)
    exact Gm.op (.bool true) W rfl rfl (by kernel_rfl) rfl (pick_run _ (eval_tmp e3) (eval_tmp e6)) id (hk W Fz φ hC)
   | 18,_ =>
    have e7:t[55]?=some (.bool true):=hgot 17 55 (by kernel_rfl) (by kernel_rfl)
    exact Gm.op (.bool true) W rfl rfl (by kernel_rfl) rfl (as_run _ (eval_tmp e7)) id (hk W Fz φ hC)
   | n+19,h=>exact absurd h (by omega)
  ·intro t W Fz φ hC hsz hgot hold
   have e6:t[6]?=some (.bool true):=hgot 18 6 (by kernel_rfl)
   refine Gm.done Try.func9 (by kernel_rfl) (results9 (.bool true) _ e6) ?_
   exact fun ρ D own A fr W' h=>hPost _ ρ D own A fr _ W' h
end Go.Proofs.Ytedomogjmhommaa
namespace Go.Proofs.Ytedomogjmhommaa
open Go.RowKit Go.Con Go.Conc Go.ChangeShapes Go.WideShapes Go.ChangeAt
local instance dryI89:Lone:=dryL
def Kind (W:World) (v:Value):Prop:=∀ a n c,v=.slice (some a) n c→∃ cs e fz,W.heap[a.block]?=some (.cells cs e fz)
abbrev three (x:Int×Int×Int):List Value:=[num x.1,num x.2.1,num x.2.2]
theorem add_none (b off k:Nat):(⟨b,off,none⟩:Addr).add k=⟨b,off+k,none⟩:=by
 unfold Addr.add
 split
 ·rename_i h;subst h;rfl
 ·rfl
theorem list_of {α:Type} {p:Nat→α→Prop}:∀ n:Nat,(∀ i,i<n→∃ z,p i z)→∃ l:List α,l.length=n∧∀ i z,l[i]?=some z→p i z
 | 0,_=>⟨[],rfl,fun i z h=>by simp at h⟩
 | n+1,h=>by
  obtain⟨l,h1,h2⟩:=list_of n fun i hi=>h i (by omega)
  obtain⟨z,hz⟩:=h n (by omega)
  refine⟨l++[z],by simp [h1],fun i y hy=>?_⟩
  rcases Nat.lt_or_ge i l.length with hi | hi
  ·rw [List.getElem?_append_left hi] at hy
   exact h2 i y hy
  ·rw [List.getElem?_append_right hi] at hy
   have h0:i-l.length=0:=by
    have:=(List.getElem?_eq_some_iff.1 hy).1
    simp at this;omega
   rw [h0] at hy
   simp at hy
   have:i=n:=by omega
   subst this;subst hy;exact hz
section
variable {H:Type} {enc:TypeId×Value→H} {W:World}
noncomputable abbrev trodW (enc:TypeId×Value→H) (W:World):=DataW.trod enc Try.prog W 0 (fun _=>true) true
def Fits (t:TypeId) (d:DataW H):Prop:=∀ n∈d.weights Try.prog t,n≤reachBytes
theorem weightsAll_mem {e:TypeId} {n:Nat}:∀ {ds:List (DataW H)} {d:DataW H},d∈ds→n∈d.weights Try.prog e→n∈DataW.weightsAll Try.prog e ds
 | x :: ds,d,hd,hn=>by
  unfold DataW.weightsAll
  rcases List.mem_cons.1 hd with rfl | hd
  ·exact List.mem_append_left _ hn
  ·exact List.mem_append_right _ (weightsAll_mem hd hn)
theorem sl_open {α:Type} {en:α→List Value} {ok:α→Prop} {t e:TypeId} {fuel:Nat} {v:Value} {x:DataW H×List MemPlace} (ht:Try.prog.underlying t=some (.slice e)) (hbe:1≤Try.prog.bytesOf e)
  (hE:∀ n cs' y,trodW enc W n e cs'=some y→Fits e y.1→∃ z:α,cs'=en z∧ok z) (h:trodW enc W fuel t [v]=some x) (hfit:Fits t x.1) (hv:Cell.okWide Try.prog W .any 0 t v) :
  ∃ l:List α,Sl W v (Try.prog.cellsOf e) (l.map en)∧Kind W v∧l.length≤reachBytes∧∀ z∈l,ok z:=by
 rcases DataW.trod_slice ht h with ⟨h1,_⟩ | ⟨a,len,cap,elems,rest,n,_,h1,hxx,_,hl,hm,hlen,hel,_,_⟩
 ·simp only [List.cons.injEq,and_true] at h1
  subst h1
  exact⟨[],⟨0,.inl ⟨rfl,rfl⟩⟩,fun a n k e=>(by cases e),Nat.zero_le _,fun z hz=>by cases hz⟩
 ·simp only [List.cons.injEq,and_true] at h1
  subst h1
  subst hxx
  have hwt:(DataW.slice (elems.map (·.1)) (rest.map (·.1)):DataW H).weights Try.prog t=((elems.map (·.1)).length+(rest.map (·.1)).length) * Try.prog.bytesOf e :: (DataW.weightsAll Try.prog e (elems.map (·.1))++DataW.weightsAll Try.prog e (rest.map (·.1))):=by
   unfold DataW.weights
   rw [ht]
  unfold Fits at hfit
  dsimp only at hfit
  rw [hwt] at hfit
  have hlb:len≤reachBytes:=by
   have h1:=hfit _ (List.mem_cons_self ..)
   rw [List.length_map,List.length_map,hlen] at h1
   refine Nat.le_trans ?_ h1
   refine Nat.le_trans (Nat.le_add_right len rest.length) ?_
   exact Nat.le_mul_of_pos_right _ hbe
  have hef:∀ y∈elems,Fits e y.1:=fun y hy m hm=>hfit m (List.mem_cons_of_mem _ (List.mem_append_left _ (weightsAll_mem (List.mem_map_of_mem hy) hm)))
  simp only [Cell.okWide,ht,Cell.ok] at hv
  obtain⟨_,_,_,hs,row,cells,hsh,_⟩:=hv
  obtain⟨b,off,spot⟩:=a
  dsimp only at hs hsh
  subst hs
  have hcells:∃ cs e fz,W.heap[b]?=some (.cells cs e fz):=by
   unfold World.shape? at hsh
   split at hsh
   ·rename_i c e f hc;exact⟨_,_,_,hc⟩
   ·cases hsh
  obtain⟨l,hl1,hl2⟩:=list_of (p:=fun i (z:α)=>ok z∧∀ k y,(en z)[k]?=some y→W.cell? ⟨b,off+i * Try.prog.cellsOf e+k,none⟩=some y) len fun i hi=>by
   have h2:=hel i hi
   rw [List.getElem?_eq_getElem (by omega)] at h2
   obtain⟨cs',h3,h4⟩:=Option.bind_eq_some_iff.1 h2
   obtain⟨z,rfl,hz⟩:=hE _ _ _ h4 (hef _ (List.getElem_mem _))
   obtain⟨_,hn,hc⟩:=World.cells?_some h3
   refine⟨z,hz,fun k y hk=>?_⟩
   have hkl:=(List.getElem?_eq_some_iff.1 hk).1
   have:=hc k (by omega)
   rw [add_none,add_none,hk] at this
   exact this
  have hlt:b<W.heap.size:=by
   obtain⟨_,_,_,hc⟩:=hcells
   exact (Array.getElem?_eq_some_iff.1 hc).1
  refine⟨l,⟨cap,.inr ⟨b,off,by rw [List.length_map,hl1],hlt,fun j k z y hj hk=>?_⟩⟩,fun a n k e=>?_,by omega,fun z hz=>?_⟩
  ·rw [List.getElem?_map] at hj
   obtain⟨z',hz',rfl⟩:=Option.map_eq_some_iff.1 hj
   exact (hl2 j z' hz').2 k y hk
  ·cases e;exact hcells
  ·obtain⟨i,hi⟩:=List.mem_iff_getElem?.1 hz
   exact (hl2 i z hi).1
theorem read_num {t:TypeId} (ht:Try.prog.underlying t=some (.int .i64)) {n:Nat} {cs:List Value} {y:DataW H×List MemPlace} (h:trodW enc W n t cs=some y):∃ k:Int,cs=[num k]∧True:=by
 obtain⟨k,h1,_,h3⟩:=DataW.trod_int ht h
 exact⟨k,h1,trivial⟩
theorem read_bool {n:Nat} {cs:List Value} {y:DataW H×List MemPlace} (h:trodW enc W n 4 cs=some y):∃ b:Bool,cs=[.bool b]∧True:=by
 obtain⟨b,h1,_⟩:=DataW.trod_bool Try.underlying4 h
 exact⟨b,h1,trivial⟩
theorem read_two {t:TypeId} {f0 f1:Field} (ht:Try.prog.underlying t=some (.struct #[f0,f1])) (t0:f0.type=3) (t1:f1.type=3) (o0:f0.offset=0) (o1:f1.offset=1) (hc:Try.prog.cellsOf t=2) {n:Nat} {cs:List Value} {y:DataW H×List MemPlace} (h:trodW enc W n t cs=some y) :
  ∃ z:Int×Int,cs=two z∧True:=by
 obtain⟨xs,m,_,_,hl,hx,hf⟩:=DataW.trod_struct ht h
 have c3:Try.prog.cellsOf 3=1:=by kernel_rfl
 rw [hc] at hl
 match cs,hl with
 | [u,v],_ =>
  have h0:=hf 0 f0 rfl
  have h1:=hf 1 f1 rfl
  rw [t0,o0,c3,List.getElem?_eq_getElem (by rw [hx];simp)] at h0
  rw [t1,o1,c3,List.getElem?_eq_getElem (by rw [hx];simp)] at h1
  obtain⟨k,e0,_⟩:=read_num Try.underlying3 h0
  obtain⟨k',e1,_⟩:=read_num Try.underlying3 h1
  simp at e0 e1
  exact⟨(k,k'),by rw [e0,e1],trivial⟩
theorem read_three {t:TypeId} {f0 f1 f2:Field} (ht:Try.prog.underlying t=some (.struct #[f0,f1,f2])) (t0:f0.type=3) (t1:f1.type=3) (t2:f2.type=3) (o0:f0.offset=0) (o1:f1.offset=1) (o2:f2.offset=2) (hc:Try.prog.cellsOf t=3) {n:Nat} {cs:List Value} {y:DataW H×List MemPlace}
  (h:trodW enc W n t cs=some y):∃ z:Int×Int×Int,cs=three z∧True:=by
 obtain⟨xs,m,_,_,hl,hx,hf⟩:=DataW.trod_struct ht h
 have c3:Try.prog.cellsOf 3=1:=by kernel_rfl
 rw [hc] at hl
 match cs,hl with
 | [u,v,s],_ =>
  have h0:=hf 0 f0 rfl
  have h1:=hf 1 f1 rfl
  have h2:=hf 2 f2 rfl
  rw [t0,o0,c3,List.getElem?_eq_getElem (by rw [hx];simp)] at h0
  rw [t1,o1,c3,List.getElem?_eq_getElem (by rw [hx];simp)] at h1
  rw [t2,o2,c3,List.getElem?_eq_getElem (by rw [hx];simp)] at h2
  obtain⟨k,e0,_⟩:=read_num Try.underlying3 h0
  obtain⟨k',e1,_⟩:=read_num Try.underlying3 h1
  obtain⟨k2,e2,_⟩:=read_num Try.underlying3 h2
  simp at e0 e1 e2
  exact⟨(k,k',k2),by rw [e0,e1,e2],trivial⟩
theorem read_step {n:Nat} {cs:List Value} {y:DataW H×List MemPlace} (h:trodW enc W n 59 cs=some y):∃ z:Stp,cs=z.cells∧True:=by
 obtain⟨xs,m,_,_,hl,hx,hf⟩:=DataW.trod_struct Try.underlying59 h
 have c3:Try.prog.cellsOf 3=1:=by kernel_rfl
 have c4:Try.prog.cellsOf 4=1:=by kernel_rfl
 have c45:Try.prog.cellsOf 45=2:=by kernel_rfl
 rw [show Try.prog.cellsOf 59=6 by kernel_rfl] at hl
 match cs,hl with
 | [u0,u1,u2,u3,u4,u5],_ =>
  have h0:=hf 0 ⟨ "Damp",45,0,false,"","",0⟩ rfl
  have h1:=hf 1 ⟨ "Tended",4,2,false,"","",16⟩ rfl
  have h2:=hf 2 ⟨ "Water",45,3,false,"","",24⟩ rfl
  have h3:=hf 3 ⟨ "Colour",3,5,false,"","",40⟩ rfl
  rw [List.getElem?_eq_getElem (by rw [hx];simp)] at h0 h1 h2 h3
  dsimp only at h0 h1 h2 h3
  rw [c45] at h0 h2
  rw [c4] at h1
  rw [c3] at h3
  obtain⟨⟨k0,k1⟩,e0,_⟩:=read_two Try.underlying45 rfl rfl rfl rfl c45 h0
  obtain⟨k2,e1,_⟩:=read_bool h1
  obtain⟨⟨k3,k4⟩,e2,_⟩:=read_two Try.underlying45 rfl rfl rfl rfl c45 h2
  obtain⟨k5,e3,_⟩:=read_num Try.underlying3 h3
  simp at e0 e1 e2 e3
  exact⟨⟨k0,k1,k2,k3,k4,k5⟩,by rw [e0.1,e0.2,e1,e2.1,e2.2,e3],trivial⟩
structure DryIn (W:World) (d:Dry) (r:R2):Prop where
 heats:Sl W r.h 2 (d.heats.map two)
 steps:Sl W r.s 6 (d.steps.map Stp.cells)
 kh:Kind W r.h
 ks:Kind W r.s
 hl:d.heats.length≤140737488355328
 sl:d.steps.length≤140737488355328
theorem dry_open {v:Value} {dd:DataW H} {p:List MemPlace} {base:Nat} (hv:Value.okWide Try.prog W .any base 27 v) (h:DataW.Trod enc Try.prog W 0 (fun _=>true) true 27 v dd p) (hfit:Fits 27 dd) :
  ∃ (d:Dry) (r:R2),v=d.val r∧DryIn W d r:=by
 simp only [Value.okWide,Try.underlying27] at hv
 obtain⟨cs,rfl,hsz,ts,hts,_,hcell⟩:=hv
 rw [show Try.prog.cellTypes Try.prog.depth 27=some [22,3,3,3,3,3,25] by kernel_rfl] at hts
 cases hts
 rw [show Try.prog.cellsOf 27=7 by kernel_rfl] at hsz
 obtain⟨fuel,hf⟩:=h
 simp only [Value.cells] at hf
 obtain⟨xs,m,_,hyy,_,hx,hg⟩:=DataW.trod_struct Try.underlying27 hf
 simp only [Prod.mk.injEq] at hyy
 obtain⟨rfl,rfl⟩:=hyy
 have hwt:(DataW.agg (xs.map (·.1)):DataW H).weights Try.prog 27=DataW.weightsEach Try.prog [22,3,3,24,25] (xs.map (·.1)):=by
  unfold DataW.weights
  rw [Try.underlying27]
  rfl
 unfold Fits at hfit
 rw [hwt] at hfit
 have hx0:∀ (i:Nat) (y:DataW H×List MemPlace) (t:TypeId),xs[i]?=some y→([22,3,3,24,25]:List TypeId)[i]?=some t→Fits t y.1:=fun i y t hy ht m hm=>hfit m (DataW.weights_mem_each ht (by rw [List.getElem?_map,hy];rfl) m hm)
 obtain⟨l⟩:=cs
 simp only [List.size_toArray] at hsz
 match l,hsz with
 | [u0,u1,u2,u3,u4,u5,u6],_ =>
  have c3:Try.prog.cellsOf 3=1:=by kernel_rfl
  have c22:Try.prog.cellsOf 22=1:=by kernel_rfl
  have c24:Try.prog.cellsOf 24=3:=by kernel_rfl
  have c25:Try.prog.cellsOf 25=1:=by kernel_rfl
  have g0:=hg 0 ⟨ "Heats",22,0,false,"","",0⟩ rfl
  have g1:=hg 1 ⟨ "Soak",3,1,false,"","",24⟩ rfl
  have g2:=hg 2 ⟨ "Brittle",3,2,false,"","",32⟩ rfl
  have g3:=hg 3 ⟨ "Start",24,3,false,"","",40⟩ rfl
  have g4:=hg 4 ⟨ "Steps",25,6,false,"","",64⟩ rfl
  rw [List.getElem?_eq_getElem (by rw [hx];simp)] at g0 g1 g2 g3 g4
  dsimp only at g0 g1 g2 g3 g4
  rw [c22] at g0;rw [c3] at g1 g2;rw [c24] at g3;rw [c25] at g4
  simp only [List.drop_succ_cons,List.drop_zero,List.take_succ_cons,List.take_zero] at g0 g1 g2 g3 g4
  have kc:∀ (i:Nat) (y:Value) (t:TypeId),(#[u0,u1,u2,u3,u4,u5,u6]:Array Value)[i]?=some y→([22,3,3,3,3,3,25]:List TypeId)[i]?=some t→i<7→Cell.okWide Try.prog W .any 0 t y:=by
   intro i y t hy ht hi
   obtain⟨t',h1,h2⟩:=hcell i y hy
   have:i % ([22,3,3,3,3,3,25]:List TypeId).length=i:=Nat.mod_eq_of_lt hi
   rw [this,ht] at h1
   cases h1
   exact h2
  obtain⟨lh,a1,a3,a4,a5⟩:=sl_open (en:=two) (ok:=fun _=>True) Try.underlying22 (by decide +kernel) (fun n cs' y h hff=>read_two Try.underlying135 rfl rfl rfl rfl (by kernel_rfl) h) g0 (hx0 0 _ _ (List.getElem?_eq_getElem _) rfl) (kc 0 _ _ rfl rfl (by decide))
  obtain⟨ls,b1,b3,b4,b5⟩:=sl_open (en:=Stp.cells) (ok:=fun _=>True) Try.underlying25 (by decide +kernel) (fun n cs' y h hff=>read_step h) g4 (hx0 4 _ _ (List.getElem?_eq_getElem _) rfl) (kc 6 _ _ rfl rfl (by decide))
  obtain⟨n1,q1,_⟩:=read_num Try.underlying3 g1
  obtain⟨n2,q2,_⟩:=read_num Try.underlying3 g2
  obtain⟨⟨n3,n4,n5⟩,q3,_⟩:=read_three Try.underlying24 rfl rfl rfl rfl rfl rfl c24 g3
  simp only [List.cons.injEq,and_true] at q1 q2 q3
  obtain⟨rfl,rfl,rfl⟩:=q3
  subst q1 q2
  rw [show Try.prog.cellsOf 135=2 by kernel_rfl] at a1
  rw [show Try.prog.cellsOf 59=6 by kernel_rfl] at b1
  exact⟨⟨lh,n1,n2,⟨n3,n4,n5⟩,ls⟩,⟨u0,u6⟩,rfl,a1,b1,a3,b3,Nat.le_trans a4 (by decide),Nat.le_trans b4 (by decide)⟩
theorem ints_open {v:Value} {dd:DataW H} {p:List MemPlace} {base:Nat} (hv:Value.okWide Try.prog W .any base 38 v) (h:DataW.Trod enc Try.prog W 0 (fun _=>true) true 38 v dd p) (hfit:Fits 38 dd) :
  ∃ l:List Int,Sl W v 1 (l.map one)∧Kind W v∧l.length≤140737488355328:=by
 obtain⟨fuel,hf⟩:=h
 have hv' : Cell.okWide Try.prog W .any 0 38 v:=by
  simp only [Value.okWide,Try.underlying38] at hv
  exact hv
 have hc:v.cells.toList=[v]:=by
  simp only [Cell.okWide,Try.underlying38,Cell.ok] at hv'
  cases v<;>first | rfl | (exact absurd hv' (by simp))
 rw [hc] at hf
 obtain⟨l,a1,a3,a4,_⟩:=sl_open (en:=one) (ok:=fun _=>True) Try.underlying38 (by decide +kernel) (fun n cs' y h hff=>read_num Try.underlying3 h) hf hfit hv'
 rw [show Try.prog.cellsOf 3=1 by kernel_rfl] at a1
 exact⟨l,a1,a3,Nat.le_trans a4 (by decide)⟩
end
end Go.Proofs.Ytedomogjmhommaa
