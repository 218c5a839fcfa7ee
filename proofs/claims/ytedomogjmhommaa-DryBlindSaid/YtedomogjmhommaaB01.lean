import Derived.Test.YtedomogjmhommaaC47
import Derived.Test.YtedomogjmhommaaC49
import Derived.Test.YtedomogjmhommaaChecked
import Derived.Test.YtedomogjmhommaaRows
import Derived.ProofKit
import Derived.LaidMore
import Derived.OpenShut
import Derived.Stop.Joined
import Derived.Conc.LeavingOf
import Derived.Conc.Holds
import Derived.Carry
set_option linter.all false
set_option maxRecDepth 100000
set_option maxHeartbeats 8000000
namespace Go.Proofs.Ytedomogjmhommaa
open Go.RowKit
theorem keeps37_any (d:Dry) (r:R2) (k:Nat) (x:Stp) (s:St) (w:World) (hd:DrySl w d r) (hk:d.steps[k]?=some x) :
 CallsIn FW 0 Try.prog 37 #[d.val r,num k,s.val] w fun e w'=>e=.returned (.bool (keepsB x s))∧Nx w w':=by
 obtain⟨rh,rs⟩:=r
 obtain⟨ha,hcap,rfl⟩:=hd.heats.cases
 obtain⟨sa,scap,rfl⟩:=hd.steps.cases
 have hkl:k<d.steps.length:=(List.getElem?_eq_some_iff.1 hk).1
 have hs:=hd.sl
 obtain⟨b,off,rfl,hbl,hcl⟩:=hd.steps.get (by simp;omega)
 rw [List.length_map,List.length_map] at *
 have E0:∀ i v,(Stp.cells x)[i]?=some v→w.cell? ⟨b,off+k * 6+i,none⟩=some v:=fun i v h=>Sl.at hcl (Nx.refl w) hbl hk i h
 have j1:=fun (w1:World)=>in58_any s.w x.wlo x.whi w1
 clear hd hcl
 obtain⟨kb,hkb⟩:∃ kb,keepsB x s=kb:=⟨_,rfl⟩
 rw [hkb]
 have HKB:=Lib.hid hkb
 clear hkb hk
 gi_enter Try.func37,Try.ntmps37
 gi_upto_region 1 with fail
 generalize hW:(w.alloc _).alloc _=W
 obtain⟨nW,sW,g0,g1⟩:=al2 hW
 have kW:∀ i v,(Stp.cells x)[i]?=some v→W.cell? ⟨b,off+k * 6+i,none⟩=some v:=fun i v h=>(nW.cell (p:=⟨b,_,none⟩) (by exact hbl)).trans (E0 i v h)
 have e0:W.cell? ⟨b,off+k * 6,none⟩=some (num x.lo):=kW 0 _ rfl
 have e1:=kW 1 (num x.hi) rfl
 have e2:=kW 2 (.bool x.tended) rfl
 have e3:=kW 3 (num x.wlo) rfl
 have e4:=kW 4 (num x.whi) rfl
 have e5:=kW 5 (num x.col) rfl
 have c6:W.cell? ⟨w.heap.size,6,none⟩=some (.slice (some ⟨b,off,none⟩) d.steps.length scap):=row_cell g0 rfl
 have s0:W.cell? ⟨w.heap.size+1,0,none⟩=some (num s.w):=row_cell g1 rfl
 have s1:W.cell? ⟨w.heap.size+1,1,none⟩=some (num s.c):=row_cell g1 rfl
 clear hW kW E0
 gi_upto_region 2 with fail
 generalize hV:W.alloc _=V
 obtain⟨nV,sV,g2⟩:=al1 hV
 rw [sW] at g2
 have s0:=(nV.cell (p:=⟨w.heap.size+1,0,none⟩) (by show _<_;simp only;omega)).trans s0
 have s1:=(nV.cell (p:=⟨w.heap.size+1,1,none⟩) (by show _<_;simp only;omega)).trans s1
 have t3:V.cell? ⟨w.heap.size+2,3,none⟩=some (num x.wlo):=row_cell g2 rfl
 have t4:V.cell? ⟨w.heap.size+2,4,none⟩=some (num x.whi):=row_cell g2 rfl
 have t5:V.cell? ⟨w.heap.size+2,5,none⟩=some (num x.col):=row_cell g2 rfl
 have nV:=nW.trans nV
 clear hV e0 e1 e2 e3 e4 e5 c6 g0 g1 g2
 by_cases h:x.wlo≤s.w∧s.w≤x.whi
 ·have b1:=decide_eq_true h
  have HK:Hid (kb=decide (s.c≥x.col)):=by show _=_;rw [← HKB.out];unfold keepsB;rw [b1];rfl
  clear h
  gi_wp2_with (first | ((gi_at_call 58;refine CallsIn.mono (by (with_reducible exact j1 _)) ?_;rintro e w1 ⟨rfl,hw1⟩;replace hw1:=hw1.symm;subst hw1)) | gi_in)
  all_goals (go_ret;exact⟨by rw [HK.out]<;>rfl,nV⟩)
 ·have b1:=decide_eq_false h
  have HK:Hid (kb=false):=by show _=_;rw [← HKB.out];unfold keepsB;rw [b1];rfl
  clear h
  gi_wp2_with (first | ((gi_at_call 58;refine CallsIn.mono (by (with_reducible exact j1 _)) ?_;rintro e w1 ⟨rfl,hw1⟩;replace hw1:=hw1.symm;subst hw1)) | gi_in)
  all_goals (go_ret;exact⟨by rw [HK.out]<;>rfl,nV⟩)
end Go.Proofs.Ytedomogjmhommaa
namespace Go.Proofs.Ytedomogjmhommaa
open Go.RowKit
theorem broken40_any (d:Dry) (r:R2) (u1 u2:Value) (plan air:List Int) (w:World) (hd:DrySl w d r) (hO:d.Ok) (hP:PA d plan air) (hpl:plan.length=d.steps.length) (h1:Sl w u1 1 (plan.map one)) (h2:Sl w u2 1 (air.map one)) (hl:plan.length≤1000000000) :
  CallsIn FW 0 Try.prog 40 #[d.val r,u1,u2] w fun e w'=>e=.returned (num (brk d (followS d d.start plan air)))∧Nx w w':=by
 have k82:=fun (w1:World) (n:Nx w w1)=>follow82_any d r u1 u2 plan air w1 (hd.nx n) hO hP (h1.nx n) (h2.nx n) hl
 have k37:=fun (k:Nat) (x:Stp) (hx:d.steps[k]?=some x) (s:St) (w1:World) (n:Nx w w1)=>keeps37_any d r k x s w1 (hd.nx n) hx
 have hlen:=followS_len d d.start plan air hP.len
 generalize hLs:followS d d.start plan air=l at *
 obtain⟨a1,cap1,rfl⟩:=h1.cases
 obtain⟨a2,cap2,rfl⟩:=h2.cases
 obtain⟨rh,rs⟩:=r
 obtain⟨ha,hcap,hrs⟩:=hd.heats.cases
 dsimp only at hrs
 subst hrs
 obtain⟨sa,scap,hrs⟩:=hd.steps.cases
 dsimp only at hrs
 subst hrs
 rw [List.length_map,List.length_map] at *
 rw [List.length_map,List.length_map] at *
 clear hd h1 h2 hP hO
 have HL:=Lib.hid hpl
 have HL2:=Lib.hid hlen
 obtain⟨g,hg⟩:∃ g,brk d l=g:=⟨_,rfl⟩
 rw [hg]
 have HG:=Lib.hid hg
 have hll:l.length≤1000000000:=by omega
 clear hg hpl hlen hLs
 gi_enter Try.func40,Try.ntmps40
 gi_upto_region 1 with fail
 generalize hW:w.alloc _=W
 obtain⟨nW,hbW⟩:=DBox.of (d:=d) (r:=⟨_,_⟩) hW
 clear hW
 generalize hA:w.heap.size=A at *
 have c0:=hbW.at' 0 _ rfl
 have c1:=hbW.at' 1 _ rfl
 have c2:=hbW.at' 2 _ rfl
 have c3:=hbW.at' 3 _ rfl
 have c4:=hbW.at' 4 _ rfl
 have c5:=hbW.at' 5 _ rfl
 have c6:=hbW.at' 6 _ rfl
 gi_upto_region 2 with (first | (gi_at_call 82;refine CallsIn.mono (k82 _ nW) ?_;rintro e w2 ⟨v,rfl,n2,hrow⟩) | gi_in)
 have nw2:=nW.trans n2
 have hb2:=hbW.nx n2
 rw [← HL2.out] at hrow
 have HS:=Lib.hid (stRow_sl hrow)
 obtain⟨va,vcap,rfl⟩:=own_slice hrow
 clear c0 c1 c2 c3 c4 c5 c6 hrow k82
 gi_wp2
 gi_loopw [8] (fun i wr=>∃ k:Nat,k≤l.length∧i=num k∧(∀ j,j<k→brkAt d l j=false)∧Nx w2 wr) (fun i _=>l.length-(intOf i).toNat)
 case atStart=>exact⟨0,Nat.zero_le _,rfl,fun j h=>absurd h (Nat.not_lt_zero _),Nx.refl _⟩
 case round =>
  obtain⟨k,hk,rfl,hno,nr⟩:=hrel
  have HN:=Lib.hid hno
  clear hno
  have nwr:=nw2.trans nr
  have hbr:=hb2.nx nr
  by_cases hlt:k<l.length
  ·obtain⟨b,off,rfl,hbl,hcl⟩:=(HS.out).get (by simp;omega)
   have hks:k<d.steps.length:=by have:=HL.out;have:=HL2.out;omega
   have hh:l[k]?=some l[k]:=List.getElem?_eq_getElem hlt
   have hx:d.steps[k]?=some d.steps[k]:=List.getElem?_eq_getElem hks
   generalize l[k]=s at hh
   generalize d.steps[k]=x at hx
   have hbk:brkAt d l k=!keepsB x s:=by unfold brkAt;rw [hx,hh]
   have e0:wr.cell? ⟨b,off+k * 3,none⟩=some (num s.w):=Sl.at hcl nr hbl hh 0 (v:=num s.w) rfl
   have e1:wr.cell? ⟨b,off+k * 3+1,none⟩=some (num s.c):=Sl.at hcl nr hbl hh 1 (v:=num s.c) rfl
   have e2:wr.cell? ⟨b,off+k * 3+2,none⟩=some (num s.h):=Sl.at hcl nr hbl hh 2 (v:=num s.h) rfl
   have k37:=k37 k x hx s
   have c0:=hbr.at' 0 _ rfl
   have c1:=hbr.at' 1 _ rfl
   have c2:=hbr.at' 2 _ rfl
   have c3:=hbr.at' 3 _ rfl
   have c4:=hbr.at' 4 _ rfl
   have c5:=hbr.at' 5 _ rfl
   have c6:=hbr.at' 6 _ rfl
   clear hcl hh hx
   have HBK:=Lib.hid hbk
   clear hbk
   gi_upto_region 5 with fail
   refine wpIn_region_tail 6 rfl (by kernel_rfl) (by kernel_rfl) ?_
   simp only [List.take_succ_cons,List.take_zero,List.drop_succ_cons,List.drop_zero]
   repeat (gi_big_quiet_step (fail))
   refine wpQuietIn_nil ?_
   rintro w' ⟨nq,rfl⟩
   have nq4:Nx wr (wr.drewN nq):=(Nx.refl wr).drewN nq
   generalize wr.drewN nq=w4 at nq4 ⊢
   have k37:=k37 w4 (nwr.trans nq4)
   cases hkp:keepsB x s with
   | false =>
    rw [hkp] at k37
    have HR:Hid (g=(k:Int)):=by show _=_;rw [← HG.out];exact firstS_found HN.out hlt (by rw [HBK.out,hkp];rfl)
    gi_wp2_with (first | (gi_at_call 37;refine CallsIn.mono k37 ?_;rintro e w5 ⟨rfl,n5⟩) | gi_in)
    go_ret
    exact⟨by rw [HR.out]<;>rfl,nwr.trans (nq4.trans n5)⟩
   | true =>
    rw [hkp] at k37
    have HN2:=Lib.hid (show ∀ j,j<k+1→brkAt d l j=false from fun j hj=>by
     rcases Nat.lt_succ_iff_lt_or_eq.1 hj with hj | rfl
     ·exact HN.out j hj
     ·rw [HBK.out,hkp];rfl)
    gi_wp2_with (first | (gi_at_call 37;refine CallsIn.mono k37 ?_;rintro e w5 ⟨rfl,n5⟩) | gi_in)
    exact⟨⟨k+1,hlt,by simp,HN2.out,nr.trans (nq4.trans n5)⟩,by simp [intOf];omega⟩
  ·obtain rfl:k=l.length:=by omega
   have HR:Hid (g=-1):=by show _=_;rw [← HG.out];exact firstS_none HN.out
   gi_wp2
   go_ret
   exact⟨by rw [HR.out]<;>rfl,nwr⟩
end Go.Proofs.Ytedomogjmhommaa
namespace Go.Con
open Go Go.Conc
section
variable [Lone] {P:Program} {E D:Nat→Prop}
variable {maps:Bool} {Fz Arg:Nat→Prop} {W0:World} {ρ:Rn} {own A:Nat→Prop} {fr:Frame} {cs:List Frame} {W W' : World}
end
theorem Rch.not {W:World} {n:Nat} {roots X:Nat→Prop} {b:Nat} (hn:n≤b) (hr:¬ roots b) (hx:¬ X b):¬ Rch W n roots X b:=by
 intro h
 cases h with
 | glob h=>omega
 | root h=>exact hr h
 | cell _ _ _ _ h=>exact hx h
 | entry _ _ _ _ _ h=>exact hx h
end Go.Con
namespace Go.Proofs.Ytedomogjmhommaa
open Go.RowKit Go.Con Go.Conc
noncomputable def b3:Code:=match Try.f3.body with | some c=>c | none=>.skip
end Go.Proofs.Ytedomogjmhommaa
namespace Go.Proofs.Ytedomogjmhommaa
open Go.RowKit Go.Con Go.Conc
noncomputable def b9:Code:=match Try.f9.body with | some c=>c | none=>.skip
end Go.Proofs.Ytedomogjmhommaa
namespace Go.Proofs.Ytedomogjmhommaa
open Go.RowKit Go.Con Go.Conc
local instance dryI85:Lone:=dryL
theorem nx_tape {w w' : World} {τ:Tape} (n:Nx { w with tape:=τ } w'):OldC w w':=.heap n.size fun b hb=>n.block b hb
theorem EW.tape {w:World} {p1:Nat} {r:R2} {τ:Tape} (h:EW w p1 r):EW { w with tape:=τ } p1 r:=h.oc (OldC.same rfl)
theorem dries_go (E Fz Arg:Nat→Prop) (W0:World) (Q:(Nat→Prop)→(Nat→Prop)→Goroutine→World→Prop) (φ:Ph) (c0:Frame) (cs:List Frame) (W:World) (t:Array Value) (hs:t.size=146)
  (hcont:∀ (φ1:Ph) (W1:World) (Fz1:Nat→Prop),OldC W W1→GoM Try.prog true E Fz1 Arg W0 Q φ1 [] (c0.finish (.bool true)) cs W1) :
  GoM Try.prog true E Fz Arg W0 Q φ [] (Fr 17 t [.code b17]) (c0 :: cs) W:=by
 rw [b17_eq]
 refine Gm.seq ?_
 refine Gm.lone (F:=FW) (fun t1 W1=>t1.size=146∧W1.heap=W.heap) rfl rfl trivial FW_ok (by kernel_rfl) (by kernel_rfl) (fun τ=>?_) ?_
 ·refine wpIn_mono (dr0 t hs { W with tape:=τ }) ?_
  rintro e a w' ⟨k1,k2,k3,rfl⟩
  exact⟨k1,k2,k3,rfl⟩
 rintro t0 Wa ⟨s0,hWa⟩
 have oa:OldC W Wa:=OldC.same hWa
 clear hs hWa
 refine Gm.seq ?_
 refine Gm.lone (F:=FW) (fun t1 W1=>(∃ p1 r,(t1.size=146∧t1[1]?=some (ptr p1))∧EW W1 p1 r)∧OldC Wa W1) rfl rfl trivial FW_ok (by kernel_rfl) (by kernel_rfl) (fun τ=>?_) ?_
 ·refine wpIn_mono (dr1 t0 s0 { Wa with tape:=τ }) ?_
  rintro e a w' ⟨k1,k2,p1,r,k3,k4,k5⟩
  exact⟨k1,k2,⟨p1,r,k3,k4⟩,nx_tape k5⟩
 rintro t1 W1 ⟨⟨p1,r,⟨s1,m1⟩,hE⟩,o1⟩
 have o1:=oa.trans o1
 clear oa s0
 refine Gm.seq ?_
 refine Gm.lone (F:=FW) (fun t2 W2=>(t2.size=146∧t2[1]?=some (ptr p1)∧t2[2]?=some (num 2)∧t2[3]?=some (.bool true)∧t2[4]?=some (num 0))∧OldC W1 W2) rfl rfl trivial FW_ok (by kernel_rfl) (by kernel_rfl) (fun τ=>?_) ?_
 ·refine wpIn_mono (dr2 p1 r t1 s1 m1 { W1 with tape:=τ } hE.tape) ?_
  rintro e a w' ⟨k1,k2,k3,k4⟩
  exact⟨k1,k2,k3,nx_tape k4⟩
 rintro t2 W2 ⟨⟨s2,n1,n2,n3,n4⟩,o2⟩
 have hE2:=hE.oc o2
 have o2:=o1.trans o2
 clear o1 hE s1 m1
 refine Gm.seq ?_
 refine Gm.lone (F:=FW) (fun t3 W3=>∃ v5,(t3.size=146∧t3[1]?=some (ptr p1)∧t3[2]?=some (num 2)∧t3[3]?=some (.bool true)∧t3[4]?=some (num 0)∧t3[5]?=some v5∧t3[6]?=some (.bool true)∧t3[7]?=some (num 0))∧OldC W2 W3∧SetsSl W3 v5 (safeF exD).1) rfl rfl trivial FW_ok (by kernel_rfl) (by kernel_rfl) (fun τ=>?_) ?_
 ·refine wpIn_mono (dr3 p1 r t2 s2 n1 n2 n3 n4 { W2 with tape:=τ } hE2.tape) ?_
  rintro e a w' ⟨k1,k2,v5,k3,k4,k5⟩
  exact⟨k1,k2,v5,k3,nx_tape k4,k5⟩
 rintro t3 W3 ⟨v5,⟨s3,m1,m2,m3,m4,m5,m6,m7⟩,o3,hv5⟩
 have hE3:=hE2.oc o3
 have o3:=o2.trans o3
 clear o2 hE2 s2 n1 n2 n3 n4
 refine Gm.seq ?_
 rw [x17_4_eq]
 refine Gm.region ?_
 rw [show List.range ops17_4.size=[0,1,2,3,4,5,6,7,8] by kernel_rfl]
 refine Gm.op (o:=⟨some 35,.load 27 (.tmp 1),_,_,_,none⟩) (exD.val r) W3 rfl rfl (by kernel_rfl) rfl (load27_run _ (eval_tmp m1) hE3.box) id ?_
 refine Gm.enter (o:=⟨some 36,.call { callee:=.value (.func 23),args:=#[.tmp 35],argTypes:=#[27] },_,_,_,none⟩) (c:={ callee:=.value (.func 23),args:=#[.tmp 35],argTypes:=#[27] }) (g:=23) (fn:=Try.f23) (body:=b23) rfl rfl rfl rfl (by kernel_rfl) Try.func23 body23_of (by kernel_rfl) ?_
 obtain⟨ha,hcap,q1⟩:=hE3.sl.heats.cases
 obtain⟨sa,scap,q2⟩:=hE3.sl.steps.cases
 rw [List.length_map] at q1 q2
 obtain⟨rh,rs⟩:=r
 dsimp only at q1 q2
 subst q1 q2
 have e35:(Fr 17 (putD t3 (some 35) (exD.val ⟨.slice ha exD.heats.length hcap,.slice sa exD.steps.length scap⟩)) []).eval (.tmp 35)=exD.val ⟨.slice ha exD.heats.length hcap,.slice sa exD.steps.length scap⟩:=eval_tmp (by simp [putD,s3])
 refine blind_go E Fz Arg W0 Q φ _ (c0 :: cs) W3 exD ha sa hcap scap hE3.sl _ ?_ ?_ fun φ1 W4 Fz1 v8 o4 hv8=>?_
 ·simp [Try.ntmps23]
 ·simp [e35]
 rw [blind_ex] at hv8 ⊢
 rw [Fr_finish rfl]
 dsimp only
 change GoM Try.prog true E Fz1 Arg W0 Q φ1 [] (Fr 17 (putD (putD t3 (some 35) _) (some 36) (.tuple #[v8,.bool true,num 0])) _) (c0 :: cs) W4
 have hE4:=hE3.oc o4
 have hv5:=hv5.oc o4
 have o4:=o3.trans o4
 clear o3 hE3 e35
 refine Gm.op (o:=⟨some 34,.move (.tmp 36),_,_,_,none⟩) (.tuple #[v8,.bool true,num 0]) W4 rfl rfl (by kernel_rfl) rfl (mv_run _ (eval_tmp (by simp [putD,s3]))) id ?_
 refine Gm.op (o:=⟨some 37,.extract (.tmp 34) 0,_,_,_,none⟩) v8 W4 rfl rfl (by kernel_rfl) rfl (ext0_run (v:=.bool true) (z:=num 0) _ (eval_tmp (by simp [putD,s3]))) id ?_
 refine Gm.op (o:=⟨some 38,.extract (.tmp 34) 1,_,_,_,none⟩) (.bool true) W4 rfl rfl (by kernel_rfl) rfl (ext1_run (u:=v8) (z:=num 0) _ (eval_tmp (by simp [putD,s3]))) id ?_
 refine Gm.op (o:=⟨some 39,.extract (.tmp 34) 2,_,_,_,none⟩) (num 0) W4 rfl rfl (by kernel_rfl) rfl (ext2_run (u:=v8) (v:=.bool true) _ (eval_tmp (by simp [putD,s3]))) id ?_
 refine Gm.op (o:=⟨some 8,.assign (.tmp 37),_,_,_,none⟩) v8 W4 rfl rfl (by kernel_rfl) rfl (as_run _ (eval_tmp (by simp [putD,s3]))) id ?_
 refine Gm.op (o:=⟨some 9,.assign (.tmp 38),_,_,_,none⟩) (.bool true) W4 rfl rfl (by kernel_rfl) rfl (as_run _ (eval_tmp (by simp [putD,s3]))) id ?_
 refine Gm.op (o:=⟨some 10,.assign (.tmp 39),_,_,_,none⟩) (num 0) W4 rfl rfl (by kernel_rfl) rfl (as_run _ (eval_tmp (by simp [putD,s3]))) id ?_
 refine Gm.regionEnd ?_
 generalize ht4:putD _ (some 10) (num 0)=t4
 have s4:t4.size=146:=by rw [← ht4];simp [putD,s3]
 have n1:t4[1]?=some (ptr p1):=by rw [← ht4];simp [putD,m1]
 have n2:t4[2]?=some (num 2):=by rw [← ht4];simp [putD,m2]
 have n3:t4[3]?=some (.bool true):=by rw [← ht4];simp [putD,m3]
 have n4:t4[4]?=some (num 0):=by rw [← ht4];simp [putD,m4]
 have n5:t4[5]?=some v5:=by rw [← ht4];simp [putD,m5]
 have n6:t4[6]?=some (.bool true):=by rw [← ht4];simp [putD,m6]
 have n7:t4[7]?=some (num 0):=by rw [← ht4];simp [putD,m7]
 have n8:t4[8]?=some v8:=by rw [← ht4];simp [putD,s3]
 have n9:t4[9]?=some (.bool true):=by rw [← ht4];simp [putD,s3]
 have n10:t4[10]?=some (num 0):=by rw [← ht4];simp [putD,s3]
 clear ht4 s3 m1 m2 m3 m4 m5 m6 m7
 generalize (⟨.slice ha exD.heats.length hcap,.slice sa exD.steps.length scap⟩:R2)=r at hE4
 refine Gm.seq ?_
 refine Gm.lone (F:=FW) (fun t5 W5=>∃ v11,(t5.size=146∧t5[1]?=some (ptr p1)∧t5[2]?=some (num 2)∧t5[3]?=some (.bool true)∧t5[4]?=some (num 0)∧t5[5]?=some v5∧t5[6]?=some (.bool true)∧t5[7]?=some (num 0)∧t5[8]?=some v8∧t5[9]?=some (.bool true)∧t5[10]?=some (num 0)∧t5[11]?=some v11∧t5[12]?=some (num 1)∧t5[13]?=some (.bool true)∧t5[14]?=some (num 0))∧OldC W4 W5∧Sl W5 v11 1 (([0,0,0]:List Int).map one)) rfl rfl trivial FW_ok (by kernel_rfl) (by kernel_rfl) (fun τ=>?_) ?_
 ·refine wpIn_mono (dr5 p1 v5 v8 r t4 s4 n1 n2 n3 n4 n5 n6 n7 n8 n9 n10 { W4 with tape:=τ } hE4.tape) ?_
  rintro e a w' ⟨k1,k2,v11,k3,k4,k5⟩
  exact⟨k1,k2,v11,k3,nx_tape k4,k5⟩
 rintro t5 W5 ⟨v11,⟨s5,m1,m2,m3,m4,m5,m6,m7,m8,m9,m10,m11,m12,m13,m14⟩,o5,hv11⟩
 have hE5:=hE4.oc o5
 have hv5:=hv5.oc o5
 have hv8:=hv8.oc o5
 have o5:=o4.trans o5
 clear o4 hE4 s4 n1 n2 n3 n4 n5 n6 n7 n8 n9 n10
 refine Gm.seq ?_
 refine Gm.lone (F:=FW) (fun t6 W6=>∃ pa pb,(t6.size=146∧t6[1]?=some (ptr p1)∧t6[2]?=some (num 2)∧t6[3]?=some (.bool true)∧t6[4]?=some (num 0)∧t6[5]?=some v5∧t6[6]?=some (.bool true)∧t6[7]?=some (num 0)∧t6[8]?=some v8∧t6[9]?=some (.bool true)∧t6[10]?=some (num 0)∧t6[11]?=some v11∧t6[12]?=some (num 1)∧t6[13]?=some (.bool true)∧t6[14]?=some (num 0)∧t6[15]?=some (ptr pa)∧t6[16]?=some (ptr pb)∧t6[17]?=some (num 0))∧OldC W5 W6∧W6.heap[pa]?=some (.cells #[num 720,num 825] 45 (0,0))∧W6.heap[pb]?=some (.cells #[num 20,num 20] 45 (0,0))) rfl rfl trivial FW_ok (by kernel_rfl) (by kernel_rfl) (fun τ=>?_) ?_
 ·refine wpIn_mono (dr6 p1 v5 v8 v11 r t5 s5 m1 m2 m3 m4 m5 m6 m7 m8 m9 m10 m11 m12 m13 m14 { W5 with tape:=τ } hE5.tape) ?_
  rintro e a w' ⟨k1,k2,pa,pb,k3,k4,k5,k6⟩
  exact⟨k1,k2,pa,pb,k3,nx_tape k4,k5,k6⟩
 rintro t6 W6 ⟨pa,pb,⟨s6,n1,n2,n3,n4,n5,n6,n7,n8,n9,n10,n11,n12,n13,n14,n15,n16,n17⟩,o6,ga,gb⟩
 have hE6:=hE5.oc o6
 have hv5:=hv5.oc o6
 have hv8:=hv8.oc o6
 have hv11:=hv11.oc o6
 have ca0:W6.cell? ⟨pa,0,none⟩=some (num 720):=row_cell ga rfl
 have ca1:W6.cell? ⟨pa,1,none⟩=some (num 825):=row_cell ga rfl
 have cb0:W6.cell? ⟨pb,0,none⟩=some (num 20):=row_cell gb rfl
 have cb1:W6.cell? ⟨pb,1,none⟩=some (num 20):=row_cell gb rfl
 have o6:=o5.trans o6
 clear o5 hE5 s5 m1 m2 m3 m4 m5 m6 m7 m8 m9 m10 m11 m12 m13 m14 ga gb
 refine Gm.seq ?_
 refine Gm.lone (F:=FW) (fun t7 W7=>∃ v18,(t7.size=146∧t7[1]?=some (ptr p1)∧t7[2]?=some (num 2)∧t7[3]?=some (.bool true)∧t7[4]?=some (num 0)∧t7[5]?=some v5∧t7[6]?=some (.bool true)∧t7[7]?=some (num 0)∧t7[8]?=some v8∧t7[9]?=some (.bool true)∧t7[10]?=some (num 0)∧t7[11]?=some v11∧t7[12]?=some (num 1)∧t7[13]?=some (.bool true)∧t7[14]?=some (num 0)∧t7[15]?=some (ptr pa)∧t7[16]?=some (ptr pb)∧t7[17]?=some (num 0)∧t7[18]?=some v18∧t7[19]?=some (num 0))∧OldC W6 W7∧Sl W7 v18 2 (L32.map spc)) rfl rfl trivial FW_ok (by kernel_rfl) (by kernel_rfl) (fun τ=>?_) ?_
 ·refine wpIn_mono (dr7 p1 pa pb v5 v8 v11 r t6 s6 n1 n2 n3 n4 n5 n6 n7 n8 n9 n10 n11 n12 n13 n14 n15 n16 n17 { W6 with tape:=τ } hE6.tape) ?_
  rintro e a w' ⟨k1,k2,v18,k3,k4,k5⟩
  exact⟨k1,k2,v18,k3,nx_tape k4,k5⟩
 rintro t7 W7 ⟨v18,⟨s7,m1,m2,m3,m4,m5,m6,m7,m8,m9,m10,m11,m12,m13,m14,m15,m16,m17,m18,m19⟩,o7,hv18⟩
 have hv5:=hv5.oc o7
 have hv8:=hv8.oc o7
 have hv11:=hv11.oc o7
 have ca0:=o7.at ca0
 have ca1:=o7.at ca1
 have cb0:=o7.at cb0
 have cb1:=o7.at cb1
 have o7:=o6.trans o7
 clear o6 hE6 s6 n1 n2 n3 n4 n5 n6 n7 n8 n9 n10 n11 n12 n13 n14 n15 n16 n17
 refine Gm.seq (Gm.seq ?_)
 refine Gm.lone (F:=FW) (fun t8 W8=>P8 t8 p1 pa pb v5 v8 v11 v18∧W8.heap=W7.heap) rfl rfl trivial FW_ok (by kernel_rfl) (by kernel_rfl) (fun τ=>?_) ?_
 ·refine wpIn_mono (dr8 p1 pa pb v5 v8 v11 v18 t7 s7 m1 m2 m3 m4 m5 m6 m7 m8 m9 m10 m11 m12 m13 m14 m15 m16 m17 m18 m19 { W7 with tape:=τ }) ?_
  rintro e a w' ⟨k1,k2,k3,rfl⟩
  exact⟨k1,k2,k3,rfl⟩
 rintro t8 W8 ⟨⟨s8,n1,n2,n3,n4,n5,n6,n7,n8,n9,n10,n11,n12,n13,n14,n15,n16,n17,n18,n19,n85⟩,hW8⟩
 have o8:=OldC.same hW8
 have hv5:=hv5.oc o8
 have hv8:=hv8.oc o8
 have hv11:=hv11.oc o8
 have hv18:=hv18.oc o8
 have ca0:=o8.at ca0
 have ca1:=o8.at ca1
 have cb0:=o8.at cb0
 have cb1:=o8.at cb1
 have o8:=o7.trans o8
 clear o7 hW8 s7 m1 m2 m3 m4 m5 m6 m7 m8 m9 m10 m11 m12 m13 m14 m15 m16 m17 m18 m19
 refine Gm.cond (b:=false) (eval_tmp n85) rfl ?_
 refine Gm.skip (Gm.seq ?_)
 obtain⟨a8,k8,rfl⟩:=sl_len3 hv8
 obtain⟨a11,k11,rfl⟩:=sl_len3 hv11
 obtain⟨a18,k18,rfl⟩:=sl_len3 hv18
 obtain⟨vs,hvs,hlen,hel⟩:=hv5
 rw [ex_safe2] at hlen
 obtain⟨b5,o5,k5,rfl,u,cu,hu⟩:∃ b5 o5 k5,v5=.slice (some ⟨b5,o5,none⟩) 4 k5∧∃ u,W8.cell? ⟨b5,o5+2,none⟩=some u∧Sl W8 u 3 (L46.map St.cells):=by
  obtain⟨cap,⟨h1,_⟩ | ⟨b,off,rfl,_,hc⟩⟩:=hvs
  ·have:vs=[]:=by simpa using h1
   rw [this] at hlen;cases hlen
  ·refine⟨b,off,cap,by rw [List.length_map,hlen],?_⟩
   have hu2:vs[2]?=some (vs[2]'(by omega)):=List.getElem?_eq_getElem _
   refine⟨_,?_,hel 2 _ L46 hu2 ex_safe3⟩
   have:=hc 2 0 [vs[2]'(by omega)] _ (by rw [List.getElem?_map,hu2];rfl) rfl
   exact this
 obtain⟨ua,uc,rfl⟩:=sl_len3 hu
 refine Gm.lone (F:=FW) (fun t9 W9=>t9[0]?=some (.bool true)∧OldC W8 W9) rfl rfl trivial FW_ok (by kernel_rfl) (by kernel_rfl) (fun τ=>?_) ?_
 ·refine wpIn_mono (dr10 pa pb b5 o5 k5 k8 k11 k18 a8 a11 a18 t8 ⟨s8,n2,n3,n5,n6,n8,n9,n11,n12,n13,n15,n16,n18⟩ { W8 with tape:=τ } uc ua cu (hu.oc (OldC.same rfl)) (hv8.oc (OldC.same rfl)) (hv11.oc (OldC.same rfl)) (hv18.oc (OldC.same rfl)) ca0 ca1 cb0 cb1) ?_
  rintro e a w' ⟨k1,k2,k3,k4⟩
  exact⟨k1,k2,k3,nx_tape k4⟩
 rintro t9 W9 ⟨h0,o9⟩
 refine Gm.ret Try.func17 (results17 (.bool true) t9 h0) ?_
 exact hcont φ1 W9 Fz1 (o8.trans o9)
end Go.Proofs.Ytedomogjmhommaa
namespace Go.Proofs.Ytedomogjmhommaa
open Go.RowKit Go.Con Go.Conc
local instance dryI88:Lone:=dryL
theorem wanted_guard {ops:Array Oper} {o:Oper} {i d:Nat} {b:Bool} {t:Array Value} (hg:o.guard=some (i,b)) (hd:(ops[i]?).bind (·.dst)=some d) (hv:t[d]?=some (.bool b)):Region.wanted o (yielded ops t)=true:=by
 unfold Region.wanted yielded
 simp [hg,hd,hv]
section
variable {dst:Option Nat} {ty:TypeId} {pos:String} {af:Array Edge} {gd:Option (Nat×Bool)} {x y:Nat}
theorem pick_run (e:Operand→Value) {w:World} {v c:Value} (h:e (.tmp x)=.bool true) (h2:e (.tmp y)=v) (τ:Tape):(execOp e ⟨dst,.pick (.tmp x) (.tmp y) (.const c),ty,pos,af,gd⟩).run Try.prog { w with tape:=τ }=.ok (.value v) { w with tape:=τ }:=by
 simp [execOp,go_sem,h,h2]
end
theorem body17_of:Try.f17.body=some b17:=by kernel_rfl
theorem one_back {g:Nat} {args:Array Value} {W:World} {v:Value} {τ:Tape} (h:CallsIn FW 0 Try.prog g args { W with tape:=τ } fun e w'=>e=.returned v∧Nx { W with tape:=τ } w') :
  CallsIn FW 0 Try.prog g args { W with tape:=τ } fun e w'=>match e with | .returned u=>(u=v∧OldC W w') | _=>False:=by
 refine h.mono ?_
 rintro e w' ⟨rfl,n⟩
 exact⟨rfl,nx_tape n⟩
end Go.Proofs.Ytedomogjmhommaa
namespace Go.Con
open Go Go.Conc
section
variable [Lone]
variable {P:Program} {maps:Bool} {E Arg:Nat→Prop} {W0:World} {f:FuncId} {k:List Item} {cs:List Frame}
variable {Q:(Nat→Prop)→(Nat→Prop)→Goroutine→World→Prop} {pend:List Nat}
theorem edge_lt {ops:Array Oper} {n:Nat} (hn:neatOps ops n=true) {i j:Nat} (he:edgeTo ops i j=true):j<i:=by
 have hi:i<ops.size:=by
  rcases Nat.lt_or_ge i ops.size with h | h
  ·exact h
  ·unfold edgeTo at he
   rw [Array.getElem?_eq_none h] at he
   cases he
 unfold neatOps at hn
 rw [List.all_eq_true] at hn
 have h1:=hn i (List.mem_range.2 hi)
 rw [Bool.and_eq_true] at h1
 have h2:=h1.2
 have ho:ops[i]?=some ops[i]:=Array.getElem?_eq_getElem hi
 rw [ho,Option.any_some,Array.all_eq_true_iff_forall_mem] at h2
 unfold edgeTo at he
 rw [ho] at he
 simp only [Option.map_some,Option.getD_some] at he
 obtain⟨q,hq,he⟩:=Array.any_eq_true.1 he
 rw [Bool.and_eq_true,beq_iff_eq] at he
 have h3:=h2 _ (Array.getElem_mem hq)
 rw [he.1] at h3
 have h4:(ops[i]).after[q].on<i:=by simpa using h3
 omega
theorem seq_go {ops:Array Oper} {C:World→Prop} {vs:Nat→Value} {t0:Array Value} (hn:neatOps ops t0.size=true)
  (hop:∀ i,i<ops.size→∀ t W Fz φ rest,C W→t.size=t0.size→(∀ j d,edgeTo ops i j=true→dstOf ops j=some d→t[d]?=some (vs j))→(∀ d,freeOf ops d=true→t[d]?=t0[d]?) →
   (∀ W' Fz' φ',C W'→GoM P maps E Fz' Arg W0 Q φ' pend (Fr f (putD t (dstOf ops i) (vs i)) (.inRegion ops rest :: k)) cs W')→GoM P maps E Fz Arg W0 Q φ pend (Fr f t (.inRegion ops (i :: rest) :: k)) cs W)
  (hend:∀ t W Fz φ,C W→t.size=t0.size→(∀ j d,dstOf ops j=some d→t[d]?=some (vs j))→(∀ d,freeOf ops d=true→t[d]?=t0[d]?)→GoM P maps E Fz Arg W0 Q φ pend (Fr f t k) cs W) :
  ∀ (m i:Nat) (t:Array Value) (W:World) Fz φ,i+m=ops.size→t.size=t0.size→(∀ j d,j<i→dstOf ops j=some d→t[d]?=some (vs j))→(∀ d,freeOf ops d=true→t[d]?=t0[d]?)→C W →
   GoM P maps E Fz Arg W0 Q φ pend (Fr f t (.inRegion ops (List.range' i m) :: k)) cs W:=by
 intro m
 induction m with
 | zero =>
  intro i t W Fz φ hi hs hg ho hC
  exact Gm.regionEnd (hend t W Fz φ hC hs (fun j d hj=>hg j d (by have:=dstOf_lt hj;omega) hj) ho)
 | succ m ih =>
  intro i t W Fz φ hi hs hg ho hC
  obtain⟨di,hdi,hdn,_⟩:=neat_dst hn (show i<ops.size by omega)
  refine hop i (by omega) t W Fz φ _ hC hs (fun j d he hj=>hg j d (edge_lt hn he) hj) ho fun W' Fz' φ' hC'=>?_
  refine ih (i+1) _ W' Fz' φ' (by omega) ?_ ?_ ?_ hC'
  ·rw [hdi]
   simp only [putD,Array.size_setIfInBounds]
   exact hs
  ·intro j d hj hd
   rw [hdi]
   simp only [putD]
   by_cases hij:i=j
   ·subst hij
    rw [hdi] at hd
    cases hd
    exact Array.getElem?_setIfInBounds_self_of_lt (by rw [hs];exact hdn)
   ·have hne:di≠d:=fun h=>hij (neat_inj hn hdi (h ▸ hd))
    rw [Array.getElem?_setIfInBounds_ne hne]
    exact hg j d (by omega) hd
  ·intro d hd
   rw [hdi]
   simp only [putD]
   have hne:di≠d:=fun h=>freeOf_spec hd i (h ▸ hdi)
   rw [Array.getElem?_setIfInBounds_ne hne]
   exact ho d hd
theorem Gm.regionSeq {Fz:Nat→Prop} {φ:Ph} {t0:Array Value} {W:World} {id:Nat} {ops:Array Oper} (C:World→Prop) (vs:Nat→Value) (hn:neatOps ops t0.size=true) (hC:C W)
  (hop:∀ i,i<ops.size→∀ t W Fz φ rest,C W→t.size=t0.size→(∀ j d,edgeTo ops i j=true→dstOf ops j=some d→t[d]?=some (vs j))→(∀ d,freeOf ops d=true→t[d]?=t0[d]?) →
   (∀ W' Fz' φ',C W'→GoM P maps E Fz' Arg W0 Q φ' pend (Fr f (putD t (dstOf ops i) (vs i)) (.inRegion ops rest :: k)) cs W')→GoM P maps E Fz Arg W0 Q φ pend (Fr f t (.inRegion ops (i :: rest) :: k)) cs W)
  (hend:∀ t W Fz φ,C W→t.size=t0.size→(∀ j d,dstOf ops j=some d→t[d]?=some (vs j))→(∀ d,freeOf ops d=true→t[d]?=t0[d]?)→GoM P maps E Fz Arg W0 Q φ pend (Fr f t k) cs W) :
  GoM P maps E Fz Arg W0 Q φ pend (Fr f t0 (.code (.region id ops false) :: k)) cs W:=by
 refine Gm.region ?_
 rw [List.range_eq_range']
 exact seq_go hn hop hend _ _ _ _ _ _ (by omega) rfl (fun j d h _=>absurd h (Nat.not_lt_zero _)) (fun _ _=>rfl) hC
end
end Go.Con
namespace Go.Proofs.Ytedomogjmhommaa
open Go.RowKit Go.Con Go.Conc
local instance dryI93:Lone:=dryL
section
variable {dst:Option Nat} {ty:TypeId} {pos:String} {af:Array Edge} {gd:Option (Nat×Bool)} {x y:Nat}
theorem eq4_run (e:Operand→Value) {w:World} {n:Bool} (h:e (.tmp x)=.bool n) (h2:e (.tmp y)=.bool n) (τ:Tape):(execOp e ⟨dst,.binOp .eql 4 (.tmp x) (.tmp y) 4,ty,pos,af,gd⟩).run Try.prog { w with tape:=τ }=.ok (.value (.bool true)) { w with tape:=τ }:=by
 simp [execOp,go_sem,h,h2]
end
end Go.Proofs.Ytedomogjmhommaa
namespace Go.Proofs.Ytedomogjmhommaa
open Go.RowKit Go.Con Go.Conc
section
variable {F:Fence} {n:Nat} {ops:Array Oper} {C:World→Prop}
end
noncomputable def b6:Code:=match Try.f6.body with | some c=>c | none=>.skip
end Go.Proofs.Ytedomogjmhommaa
namespace Go.Proofs.Ytedomogjmhommaa
open Go.RowKit Go.Con Go.Conc Go.Shelf
theorem first_cases (p:Nat→Bool) (n:Nat):(firstS p n=-1∧∀ j,j<n→p j=false)∨∃ k,k<n∧firstS p n=k∧p k=true∧∀ j,j<k→p j=false:=by
 unfold firstS
 cases hf:(List.range n).find? p with
 | none =>
  refine .inl ⟨rfl,fun j hj=>?_⟩
  have:=List.find?_eq_none.1 hf j (List.mem_range.2 hj)
  simpa using this
 | some k =>
  have h:=List.find?_range_eq_some.1 hf
  refine .inr ⟨k,List.mem_range.1 h.2.1,rfl,h.1,fun j hj=>?_⟩
  have:=h.2.2 j hj
  simpa using this
end Go.Proofs.Ytedomogjmhommaa
namespace Go.Proofs.Ytedomogjmhommaa
open Go.RowKit Go.Shelf
def airAt (d:Dry) (picks:List Int) (k:Nat):Int:=match d.steps[k]? with | some x=>x.lo+pick picks k % (x.hi-x.lo+1) | none=>0
def airP (d:Dry) (picks:List Int):List Int:=(List.range d.steps.length).map (airAt d picks)
def stepP (m:Int) (picks:List Int) (x:Stp) (i:Nat) (h:Int):Int:=if mayB m x h (h+pick picks (10+i) % 3-1)=true then h+pick picks (10+i) % 3-1 else h
def heatP (d:Dry) (picks:List Int):Nat→Int
 | 0=>d.start.h
 | k+1=>match d.steps[k]? with | some x=>stepP d.heats.length picks x k (heatP d picks k) | none=>heatP d picks k
def planP (d:Dry) (picks:List Int):List Int:=(List.range d.steps.length).map fun k=>heatP d picks (k+1)
theorem airP_len (d:Dry) (picks:List Int):(airP d picks).length=d.steps.length:=by simp [airP]
theorem planP_len (d:Dry) (picks:List Int):(planP d picks).length=d.steps.length:=by simp [planP]
theorem airP_at {d:Dry} {picks:List Int} {k:Nat} (h:k<d.steps.length):(airP d picks)[k]?=some (airAt d picks k):=by simp [airP,h]
theorem planP_at {d:Dry} {picks:List Int} {k:Nat} (h:k<d.steps.length):(planP d picks)[k]?=some (heatP d picks (k+1)):=by simp [planP,h]
theorem airAt_eq {d:Dry} {picks:List Int} {k:Nat} {x:Stp} (h:d.steps[k]?=some x):airAt d picks k=x.lo+pick picks k % (x.hi-x.lo+1):=by unfold airAt;rw [h]
theorem heatP_succ {d:Dry} {picks:List Int} {k:Nat} {x:Stp} (h:d.steps[k]?=some x):heatP d picks (k+1)=stepP d.heats.length picks x k (heatP d picks k):=by rw [heatP,h]
theorem airAt_in {d:Dry} (hO:d.Ok) {picks:List Int} {k:Nat} {x:Stp} (h:d.steps[k]?=some x):x.lo≤airAt d picks k∧airAt d picks k≤x.hi:=by
 rw [airAt_eq h]
 have h1:=(hO.st x (List.mem_of_getElem? h)).1
 have h2:=Int.emod_nonneg (pick picks k) (show x.hi-x.lo+1≠0 by omega)
 have h3:=Int.emod_lt_of_pos (pick picks k) (show 0<x.hi-x.lo+1 by omega)
 omega
theorem mayB_refl {m:Int} {x:Stp} {h:Int} (hh:0≤h∧h≤m-1):mayB m x h h=true:=by
 unfold mayB
 rw [decide_eq_true hh,decide_eq_true rfl];rfl
theorem mayB_bd {m:Int} {x:Stp} {was h:Int} (hm:mayB m x was h=true):0≤h∧h≤m-1:=by
 unfold mayB at hm
 rw [Bool.and_eq_true] at hm
 exact of_decide_eq_true hm.1
theorem stepP_may {m:Int} {picks:List Int} {x:Stp} {i:Nat} {h:Int} (hh:0≤h∧h≤m-1):mayB m x h (stepP m picks x i h)=true:=by
 unfold stepP
 split
 ·assumption
 ·exact mayB_refl hh
theorem heatP_bd {d:Dry} (hO:d.Ok) (picks:List Int):∀ k,0≤heatP d picks k∧heatP d picks k≤(d.heats.length:Int)-1
 | 0=>(stF_ok.1 hO.start).h
 | k+1=>by
  have ih:=heatP_bd hO picks k
  cases hx:d.steps[k]? with
  | none=>rw [heatP,hx];exact ih
  | some x=>rw [heatP_succ hx];exact mayB_bd (stepP_may ih)
theorem planP_go {d:Dry} (hO:d.Ok) (picks:List Int):∀ (j k:Nat),j+k=d.steps.length→planGo d (d.steps.drop k) (heatP d picks k) ((planP d picks).drop k)=0
 | 0,k,e=>by
  rw [show (planP d picks).drop k=[] from List.drop_eq_nil_of_le (by rw [planP_len];omega)]
  cases d.steps.drop k<;>rfl
 | j+1,k,e=>by
  have hk:k<d.steps.length:=by omega
  have hx:d.steps[k]?=some d.steps[k]:=List.getElem?_eq_getElem hk
  rw [planGo_at hx (planP_at hk),if_neg (by rw [Decidable.not_not];exact heatP_bd hO picks _),heatP_succ hx,if_neg (by rw [stepP_may (heatP_bd hO picks _)];decide),← heatP_succ hx]
  exact planP_go hO picks j (k+1) (by omega)
theorem planP_pl {d:Dry} (hO:d.Ok) (picks:List Int):plF d (planP d picks)=0:=by
 unfold plF
 rw [if_neg (by rw [planP_len];simp)]
 exact planP_go hO picks _ 0 rfl
theorem planP_ok {d:Dry} (hO:d.Ok) (hF:dryF d=0) (picks:List Int):planF d (planP d picks)=0:=by
 unfold planF
 rw [if_neg (by rw [hF];simp)]
 exact planP_pl hO picks
theorem airP_mem {d:Dry} (hO:d.Ok) (picks:List Int):airP d picks∈airsL d.steps:=by
 refine airs_mem.2 ⟨airP_len d picks,fun i x y hx hy=>?_⟩
 have hi:=(List.getElem?_eq_some_iff.1 hx).1
 rw [airP_at hi,Option.some.injEq] at hy
 rw [← hy]
 exact damps_of (airAt_in hO hx)
end Go.Proofs.Ytedomogjmhommaa
namespace Go.Proofs.Ytedomogjmhommaa
open Go.RowKit
def lessB:List Int→List Int→Bool
 | x :: xs,y :: ys=>if x≠y then decide (x<y) else lessB xs ys
 | _,_=>false
theorem less42_any (u v:Value) (xs ys:List Int) (w:World) (hu:Sl w u 1 (xs.map one)) (hv:Sl w v 1 (ys.map one)) (hl:xs.length≤1000000000) (hl2:ys.length≤1000000000):CallsIn FW 0 Try.prog 42 #[u,v] w fun e w'=>e=.returned (.bool (lessB xs ys))∧Nx w w':=by
 obtain⟨a,cap,rfl⟩:=hu.cases
 obtain⟨a2,cap2,rfl⟩:=hv.cases
 rw [List.length_map] at *
 rw [List.length_map] at *
 have HU:=Lib.hid hu
 have HV:=Lib.hid hv
 clear hu hv
 obtain⟨g,hg⟩:∃ g,lessB xs ys=g:=⟨_,rfl⟩
 rw [hg]
 have HG:Hid (g=lessB xs ys):=hg.symm
 clear hg
 gi_enter Try.func42,Try.ntmps42
 gi_wp2
 gi_loopw [5] (fun i wr=>∃ k:Nat,k≤xs.length∧k≤ys.length∧i=num k∧Hid (g=lessB (xs.drop k) (ys.drop k))∧Nx w wr) (fun i _=>xs.length-(intOf i).toNat)
 case atStart=>exact⟨0,Nat.zero_le _,Nat.zero_le _,rfl,HG,Nx.refl _⟩
 case round =>
  obtain⟨k,hk,hk2,rfl,HN,nr⟩:=hrel
  by_cases hlt:k<xs.length
  ·obtain⟨b,off,rfl,hbl,hcl⟩:=(HU.out).get (by simp;omega)
   have hh:xs[k]?=some xs[k]:=List.getElem?_eq_getElem hlt
   have HD:=Lib.hid (List.drop_eq_getElem_cons hlt)
   generalize xs[k]=x at hh HD
   have e0:wr.cell? ⟨b,off+k,none⟩=some (num x):=Sl.at1 hcl nr hbl hh
   clear hcl hh
   by_cases hlt2:k<ys.length
   ·obtain⟨b',off',rfl,hbl',hcl'⟩:=(HV.out).get (by simp;omega)
    have hy:ys[k]?=some ys[k]:=List.getElem?_eq_getElem hlt2
    have HE:=Lib.hid (List.drop_eq_getElem_cons hlt2)
    generalize ys[k]=y at hy HE
    have f0:wr.cell? ⟨b',off' + k,none⟩=some (num y):=Sl.at1 hcl' nr hbl' hy
    clear hcl' hy
    have HZ:Hid (g=if x≠y then decide (x<y) else lessB (xs.drop (k+1)) (ys.drop (k+1))):=by show _=_;rw [HN.out,HD.out,HE.out];rfl
    by_cases hc:x=y
    ·subst hc
     have HZ2:Hid (g=lessB (xs.drop (k+1)) (ys.drop (k+1))):=by show _=_;rw [HZ.out,if_neg (by simp)]
     have bx:(x != x)=false:=by simp
     gi_upto_region 4 with fail
     gi_big_quiet_th (fail)
     gi_wp2
     exact⟨⟨k+1,hlt,hlt2,by simp,HZ2,nr.drewN _⟩,by simp [intOf];omega⟩
    ·have HZ2:Hid (g=decide (x<y)):=by show _=_;rw [HZ.out,if_pos hc]
     have bc:(x != y)=true:=by simp [hc]
     gi_upto_region 4 with fail
     gi_big_quiet_th (fail)
     gi_upto_region 5 with fail
     gi_big_quiet_th (fail)
     gi_wp2
     go_ret
     exact⟨by rw [HZ2.out]<;>rfl,(nr.drewN _).drewN _⟩
   ·obtain rfl:k=ys.length:=by omega
    have HZ:Hid (g=false):=by show _=_;rw [HN.out,HD.out,List.drop_length];rfl
    gi_wp2
    go_ret
    exact⟨by rw [HZ.out]<;>rfl,nr⟩
  ·obtain rfl:k=xs.length:=by omega
   have HZ:Hid (g=false):=by show _=_;rw [HN.out,List.drop_length];cases ys.drop xs.length<;>rfl
   gi_wp2
   go_ret
   exact⟨by rw [HZ.out]<;>rfl,nr⟩
end Go.Proofs.Ytedomogjmhommaa
