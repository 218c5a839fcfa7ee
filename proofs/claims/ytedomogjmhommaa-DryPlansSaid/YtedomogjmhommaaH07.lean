import Derived.Test.YtedomogjmhommaaH06
import Derived.Test.YtedomogjmhommaaH04
set_option linter.all false
set_option maxRecDepth 100000
set_option maxHeartbeats 8000000
namespace Go.Proofs.Ytedomogjmhommaa
open Go.RowKit Go.Shelf
theorem zdU (d:Dry) (hO:d.Ok) (Bo Bk Bc B M:Nat):∀ (j k:Nat),k+j=d.steps.length→HY d Bo Bk Bc B M k j
 | 0,k,h=>by
  have:k=d.steps.length:=by omega
  subst this
  exact zlP d hO Bo Bk Bc B M
 | j+1,k,h=>zkg d hO Bo Bk Bc B M k j d.steps[k] (List.getElem?_eq_getElem (by omega)) (zdU d hO Bo Bk Bc B M j (k+1) (by omega))
theorem zcy:∀ {j k:Nat},j≤k→calls j≤calls k
 | 0,_,_=>Nat.zero_le _
 | j+1,0,h=>absurd h (by omega)
 | j+1,k+1,h=>by
  have:=zcy (j:=j) (k:=k) (by omega)
  simp only [calls]
  omega
theorem zi4:calls 5=69905:=rfl
theorem al4 {w W:World} {o1 o2 o3 o4:Obj} (h:(((w.alloc o1).alloc o2).alloc o3).alloc o4=W):Nx w W∧W.heap.size=w.heap.size+4∧W.heap[w.heap.size]?=some o1∧W.heap[w.heap.size+1]?=some o2∧W.heap[w.heap.size+1+1]?=some o3∧W.heap[w.heap.size+1+1+1]?=some o4:=by
 obtain⟨n1,s1,g1,g2,g3⟩:=al3 (w:=w) (o1:=o1) (o2:=o2) (o3:=o3) rfl
 obtain⟨n2,s2,g4⟩:=al1 h
 rw [s1] at s2 g4
 exact⟨n1.trans n2,s2,(n2.block _ (by omega)).trans g1,(n2.block _ (by omega)).trans g2,(n2.block _ (by omega)).trans g3,g4⟩
theorem zoS {w:World} {M:Nat} (d:Dry) (h:w.heap[M]?=some (.map #[] 0)):Memo w M d 0 :=
 ⟨_,⟨#[],0,h,⟨by simp,MapKept.stamped_empty 0,by simp⟩,Nat.le_refl _,rfl⟩,fun k s l _ _ _ h=>by simp [Maps.has] at h⟩
theorem zgt (d:Dry) (B:Nat) (w:World) (hst:StoveAt w B d):CallsIn FW 0 Try.prog 57 #[ptr B] w fun e w'=>∃ Bo Bk Bc M,e=.returned (.func (.func 90) #[] #[ptr Bo,ptr Bk,ptr Bc])∧Nx w w'∧Ch w' d Bo Bk Bc B M∧Memo w' M d 0∧w.heap.size≤M:=by
 have hmm:=@run_makeMap Try.prog
 gi_enter Try.func57,Try.ntmps57
 gi_upto_region 3 with fail
 generalize hW:(((w.alloc _).alloc _).alloc _).alloc _=W
 obtain⟨nW,sW,g0,g1,g2,g3⟩:=al4 hW
 clear hW
 have c3:=zaa (i:=0) g3 rfl
 have f3:=zac (i:=0) g3
 have hS:(store ⟨w.heap.size+1+1+1,0,none⟩ (.func (.func 90) #[] #[ptr w.heap.size,ptr (w.heap.size+1+1),ptr (w.heap.size+1+1+1)])).run Try.prog W=.ok () (W.setCell ⟨w.heap.size+1+1+1,0,none⟩ (.func (.func 90) #[] #[ptr w.heap.size,ptr (w.heap.size+1+1),ptr (w.heap.size+1+1+1)])):=by
  simp [store,Sem.run,c3,f3]
 gi_upto_region 4 with fail
 have q3:=zaA (i:=0) (v:=.func (.func 90) #[] #[ptr w.heap.size,ptr (w.heap.size+1+1),ptr (w.heap.size+1+1+1)]) g3
 have oth:∀ b,b≠w.heap.size+1+1+1→(W.setCell ⟨w.heap.size+1+1+1,0,none⟩ (.func (.func 90) #[] #[ptr w.heap.size,ptr (w.heap.size+1+1),ptr (w.heap.size+1+1+1)])).heap[b]?=W.heap[b]?:=fun b hb=>zae hb
 have nV:Nx w (W.setCell ⟨w.heap.size+1+1+1,0,none⟩ (.func (.func 90) #[] #[ptr w.heap.size,ptr (w.heap.size+1+1),ptr (w.heap.size+1+1+1)])):=nW.set (by omega)
 generalize W.setCell ⟨w.heap.size+1+1+1,0,none⟩ (.func (.func 90) #[] #[ptr w.heap.size,ptr (w.heap.size+1+1),ptr (w.heap.size+1+1+1)])=V at q3 oth nV ⊢
 have c4:V.cell? ⟨w.heap.size+1+1+1,0,none⟩=some (.func (.func 90) #[] #[ptr w.heap.size,ptr (w.heap.size+1+1),ptr (w.heap.size+1+1+1)]):=zaa q3 rfl
 gi_wp2
 go_ret
 refine⟨w.heap.size,w.heap.size+1+1,w.heap.size+1+1+1,w.heap.size+1,rfl,nV,⟨hst.nx nV,zaa ((oth _ (by omega)).trans g0) rfl,zaa ((oth _ (by omega)).trans g2) rfl,c4⟩,?_⟩
 exact⟨zoS d ((oth _ (by omega)).trans g1),by omega⟩
end Go.Proofs.Ytedomogjmhommaa
namespace Go.Proofs.Ytedomogjmhommaa
open Go.RowKit
abbrev HC (d:Dry) (r:R2) (k:Nat):Prop:=∀ (s:St) (w:World),s.Ok d.heats.length→DrySl w d r →
 CallsIn FW 0 Try.prog 59 #[d.val r,num k,s.val] w fun e w'=>e=.returned (num (chooseS d (d.steps.drop k) s))∧Nx w w'
end Go.Proofs.Ytedomogjmhommaa
namespace Go.Proofs.Ytedomogjmhommaa
open Go.RowKit
def zgr (d:Dry) (step:Int) (s:St):Int×Bool×Int :=
 if dryF d≠0 then (0,false,dryF d) else
 if ¬ (0≤step∧step≤(d.steps.length:Int)-1) then (0,false,7) else
 if stF d s≠0 then (0,false,stF d s) else
 if 0≤chooseS d (d.steps.drop step.toNat) s then (chooseS d (d.steps.drop step.toNat) s,true,0) else (0,false,0)
abbrev chV (x:Int×Bool×Int):Value:=.tuple #[num x.1,.bool x.2.1,num x.2.2]
end Go.Proofs.Ytedomogjmhommaa
namespace Go.Proofs.Ytedomogjmhommaa
open Go.RowKit
end Go.Proofs.Ytedomogjmhommaa
namespace Go.Proofs.Ytedomogjmhommaa
open Go.RowKit
theorem zmc {w w' : World} {d:Dry} {r:R2} {B:Nat} {v:Value} (hd:DrySl w d r) (n:Nx w w') (hB:w'.heap[B]?=some (.cells (zfr d r v) 98 (0,0))) (ho:w'.ownsRow (B+1) 102 7 v d.steps.length (Stg d d.steps.length).flatten):StoveAt w' B d:=by
 have hst:Stg d d.steps.length=d.steps.map (zd5 d.heats.length):=by simp [Stg]
 rw [hst] at ho
 refine⟨zav hB,⟨_,zaa hB rfl,hd.heats.nx n⟩,zaa hB rfl,zaa hB rfl,zaa hB rfl,zaa hB rfl,zaa hB rfl,⟨_,zaa hB rfl,hd.steps.nx n⟩,⟨_,zaa hB rfl,zcF (fun y hy=>?_) (by simp) ho⟩⟩
 obtain⟨x,_,rfl⟩:=List.mem_map.1 hy
 rfl
abbrev opV0 (f:Int):Value:=.tuple #[.pointer none,num f]
abbrev opV (B:Nat):Value:=.tuple #[ptr B,num 0]
theorem zga (d:Dry) (r:R2) (w:World) (hd:DrySl w d r) (h:dryF d≠0):CallsIn FW 0 Try.prog 54 #[d.val r] w fun e w'=>e=.returned (opV0 (dryF d))∧Nx w w' :=
 (zlo d r w hd).mono fun e w' ⟨n,h1,_⟩=>⟨h1 h,n⟩
theorem ziv (d:Dry) (r:R2) (w:World) (hd:DrySl w d r) (h:dryF d=0):CallsIn FW 0 Try.prog 54 #[d.val r] w fun e w'=>∃ B,e=.returned (opV B)∧Nx w w'∧StoveAt w' B d :=
 (zlo d r w hd).mono fun e w' ⟨n,_,h2⟩=>by
  obtain⟨B,v,rfl,_,h3,h4⟩:=h2 h
  exact⟨B,rfl,n,zmc hd n h3 h4⟩
theorem zi5 (d:Dry) (r:R2) (step:Int) (s:St) (w:World) (hd:DrySl w d r) (hst : -1000000000≤step∧step≤1000000000):CallsIn FW 0 Try.prog 18 #[d.val r,num step,s.val] w fun e w'=>e=.returned (chV (zgr d step s))∧Nx w w':=by
 have k54b:=fun (h:dryF d≠0) (w1:World) (n:Nx w w1)=>zga d r w1 (hd.nx n) h
 have k54:=fun (h:dryF d=0) (w1:World) (n:Nx w w1)=>ziv d r w1 (hd.nx n) h
 have k56:=fun (w1:World) (n:Nx w w1)=>zjT d r s w1 (hd.nx n)
 have k55:=fun (w1:World)=>zaK step 0 ((d.steps.length:Int)-1) w1
 have hl:=hd.sl
 obtain⟨v,hv⟩:∃ v,zgr d step s=v:=⟨_,rfl⟩
 rw [hv]
 have HV:=Lib.hid hv
 clear hv
 obtain⟨rh,rs⟩:=r
 obtain⟨ha,hcap,hrs⟩:=hd.heats.cases
 dsimp only at hrs
 subst hrs
 obtain⟨sa,scap,hrs⟩:=hd.steps.cases
 dsimp only at hrs
 subst hrs
 rw [List.length_map,List.length_map] at *
 clear hd
 gi_enter Try.func18,Try.ntmps18
 gi_upto_region 1 with fail
 generalize hW:(w.alloc _).alloc _=W
 obtain⟨nW,sW,g0,g1⟩:=al2 hW
 have s0:W.cell? ⟨w.heap.size+1,0,none⟩=some (num s.w):=zaa g1 rfl
 have s1:W.cell? ⟨w.heap.size+1,1,none⟩=some (num s.c):=zaa g1 rfl
 have s2:W.cell? ⟨w.heap.size+1,2,none⟩=some (num s.h):=zaa g1 rfl
 have hbW:DBox W w.heap.size d ⟨.slice ha d.heats.length hcap,.slice sa d.steps.length scap⟩:=⟨by omega,fun i v h=>zaa g0 h⟩
 clear hW g0 g1
 have c0:=hbW.at' 0 _ rfl
 have c1:=hbW.at' 1 _ rfl
 have c2:=hbW.at' 2 _ rfl
 have c3:=hbW.at' 3 _ rfl
 have c4:=hbW.at' 4 _ rfl
 have c5:=hbW.at' 5 _ rfl
 have c6:=hbW.at' 6 _ rfl
 by_cases h1:dryF d=0
 case neg =>
  have HR:Hid (v=(0,false,dryF d)):=by show _=_;rw [← HV.out];unfold zgr;rw [if_pos h1]
  have b1:(dryF d == 0)=false:=beq_false_of_ne h1
  have k54b:=k54b h1
  clear k54
  generalize dryF d=f at *
  gi_wp2_with (first | (gi_at_call 54;refine CallsIn.mono (k54b _ nW) ?_;rintro e w2 ⟨rfl,n2⟩) | gi_in)
  refine bodyPost_ret (v:=chV v) (by rw [HR.out];simp [results,Try.results18,go_sem]) rfl ⟨rfl,nW.trans n2⟩
 case pos =>
 have hO:=zdc h1
 have HV1:Hid (v=if ¬ (0≤step∧step≤(d.steps.length:Int)-1) then (0,false,7) else if stF d s≠0 then (0,false,stF d s) else if 0≤chooseS d (d.steps.drop step.toNat) s then (chooseS d (d.steps.drop step.toNat) s,true,0) else (0,false,0)):=by show _=_;rw [← HV.out];unfold zgr;rw [if_neg (by simpa using h1)]
 have k54:=k54 h1
 clear k54b
 gi_upto_region 2 with (first | (gi_at_call 54;refine CallsIn.mono (k54 _ nW) ?_;rintro e w2 ⟨B,rfl,n2,hS⟩) | gi_in)
 have k2:=Kc.nx n2
 have hb2:=hbW.nx n2
 have nw2:=nW.trans n2
 have s0:=k2.cell s0
 have s1:=k2.cell s1
 have s2:=k2.cell s2
 clear c0 c1 c2 c3 c4 c5 c6
 have c0:=hb2.at' 0 _ rfl
 have c1:=hb2.at' 1 _ rfl
 have c2:=hb2.at' 2 _ rfl
 have c3:=hb2.at' 3 _ rfl
 have c4:=hb2.at' 4 _ rfl
 have c5:=hb2.at' 5 _ rfl
 have c6:=hb2.at' 6 _ rfl
 by_cases h2:0≤step∧step≤(d.steps.length:Int)-1
 case neg =>
  have HR:Hid (v=(0,false,7)):=by show _=_;rw [HV1.out,if_pos h2]
  have b2:=decide_eq_false h2
  clear h2
  gi_wp2_with (first | ((gi_at_call 55;refine CallsIn.mono (by (with_reducible exact k55 _)) ?_;rintro e w1 ⟨rfl,hw1⟩;replace hw1:=hw1.symm;subst hw1)) | gi_in)
  refine bodyPost_ret (v:=chV v) (by rw [HR.out];simp [results,Try.results18,go_sem]) rfl ⟨rfl,nw2⟩
 case pos =>
 have b2:=decide_eq_true h2
 by_cases h3:stF d s=0
 case neg =>
  have HR:Hid (v=(0,false,stF d s)):=by show _=_;rw [HV1.out,if_neg (by simpa using h2),if_pos h3]
  have b3:(stF d s == 0)=false:=beq_false_of_ne h3
  generalize stF d s=f at *
  clear h2
  gi_wp2_with (first | ((gi_at_call 55;refine CallsIn.mono (by (with_reducible exact k55 _)) ?_;rintro e w1 ⟨rfl,hw1⟩;replace hw1:=hw1.symm;subst hw1)) | (gi_at_call 56;refine CallsIn.mono (k56 _ nw2) ?_;rintro e w3 ⟨rfl,n3⟩) | gi_in)
  refine bodyPost_ret (v:=chV v) (by rw [HR.out];simp [results,Try.results18,go_sem]) rfl ⟨rfl,nw2.trans n3⟩
 case pos =>
 rw [h3] at k56
 have hsO:=stF_ok.1 h3
 have HV2:Hid (v=if 0≤chooseS d (d.steps.drop step.toNat) s then (chooseS d (d.steps.drop step.toNat) s,true,0) else (0,false,0)):=by show _=_;rw [HV1.out,if_neg (by simpa using h2),if_neg (by simpa using h3)]
 have k90:=fun (Bo Bk Bc M:Nat) (w1:World) (hc:Ch w1 d Bo Bk Bc B M) (hm:Memo w1 M d 0)=>zdU d hO Bo Bk Bc B M (d.steps.length-step.toNat) step.toNat (by omega) s w1 0 hsO hc hm (by have:=zcy (j:=d.steps.length-step.toNat) (k:=5) (by have:=hO.s5;omega);rw [zi4] at this;omega)
 rw [show ((step.toNat:Nat):Int)=step by omega] at k90
 clear h2
 generalize chooseS d (d.steps.drop step.toNat) s=c at *
 gi_upto_region 8 with (first | ((gi_at_call 55;refine CallsIn.mono (by (with_reducible exact k55 _)) ?_;rintro e w1 ⟨rfl,hw1⟩;replace hw1:=hw1.symm;subst hw1)) | (gi_at_call 56;refine CallsIn.mono (k56 _ nw2) ?_;rintro e w3 ⟨rfl,n3⟩) | gi_in)
 have k3:=Kc.nx n3
 have nw3:=nw2.trans n3
 have s0:=k3.cell s0
 have s1:=k3.cell s1
 have s2:=k3.cell s2
 have hS3:=hS.nx n3
 have hlb:w.heap.size+1<w3.heap.size:=by have:=n2.size;have:=n3.size;omega
 clear c0 c1 c2 c3 c4 c5 c6
 refine zat (Same [w.heap.size+1] w3) 5 (by kernel_rfl) ?_
 obtain⟨Z,G,hN,hG,hG'⟩:=zaC (C:=Same [w.heap.size+1] w3) (x:=w3) (fun _ _=>rfl)
 have r0:=fun z=>(hG' z).cell (by simp) s0
 have r1:=fun z=>(hG' z).cell (by simp) s1
 have r2:=fun z=>(hG' z).cell (by simp) s2
 change Go.wpAnyZ _ _ _ _ _ _ _ _ 7 #[false,false,false,false,false,false,false] _ _
 obtain⟨nd,sd⟩:Nx w3 w3.drew∧w3.drew.heap.size=w3.heap.size:=⟨Nx.drew (Nx.refl w3),rfl⟩
 generalize w3.drew=w4 at nd sd ⊢
 refine Go.zqE 0 hG (by kernel_rfl) (fun _ _ _ h=>by cases h.1) rfl ?_;intro o ho K hK;simp at ho;subst ho;gi_big_quiet_op;go_big_quiet_on
 refine Go.zqE 2 hG (by kernel_rfl) (fun _ _ _ h=>by cases h.1) rfl ?_;intro o ho K hK;simp at ho;subst ho;gi_big_quiet_op;go_big_quiet_on
 refine Go.zqE 3 hG (by kernel_rfl) (fun _ _ _ h=>by cases h.1) rfl ?_;intro o ho K hK;simp at ho;subst ho;gi_big_quiet_op;go_big_quiet_on
 refine Go.zqE 4 hG (by kernel_rfl) (fun _ _ _ h=>by cases h.1) rfl ?_;intro o ho K hK;simp at ho;subst ho;gi_big_quiet_op;go_big_quiet_on
 have hC0:Same [w.heap.size+1] w3 w4:=fun b hb=>nd.block b (by simp at hb;omega)
 refine Go.zoE 1 (by kernel_rfl) rfl ?_ ?_;rotate_left;intro o ho K hK;simp at ho;subst ho
 gi_wp2_with (first | (gi_at_call 57;refine CallsIn.mono (zgt d B _ (hS3.nx nd)) ?_;rintro e w5 ⟨Bo,Bk,Bc,M,rfl,n5,hCh,hMm,hMl⟩) | gi_in)
 have hC1:Same [w.heap.size+1] w3 w5:=fun b hb=>(nd.trans n5).block b (by simp at hb;omega)
 have nw5:=nw3.trans (nd.trans n5)
 have k90:=k90 Bo Bk Bc M w5 hCh hMm
 refine Go.zoE 5 (by kernel_rfl) rfl ?_ ?_;rotate_left;intro o ho K hK;simp at ho;subst ho
 gi_wp2_with (first | (gi_at_call 90;refine CallsIn.mono k90 ?_;rintro e w6 ⟨rfl,hg6,_⟩) | gi_in)
 have nw6:Nx w w6:=Below.grown nw5 hg6 nw5.size (fun g e=>by cases e;have:=nw3.size;omega)
 refine Go.zoE 6 (by kernel_rfl) rfl ?_ ?_;rotate_left;intro o ho K hK;simp at ho;subst ho
 gi_wp2_with fail
 refine zar (by kernel_rfl) (fun h=>absurd h (by decide)) ⟨rfl,?_⟩
 all_goals (try exact fun _=>by assumption)
 all_goals (try exact fun h=>absurd h (by decide))
 clear hC0 hC1 r0 r1 r2 hG hG' hN
 by_cases h4:0≤c
 ·have HR:Hid (v=(c,true,0)):=by show _=_;rw [HV2.out,if_pos h4]
  have b4:decide (c≥0)=true:=decide_eq_true h4
  gi_wp2
  refine bodyPost_ret (v:=chV v) (by rw [HR.out];simp [results,Try.results18,go_sem]) rfl ⟨rfl,nw6⟩
 ·have HR:Hid (v=(0,false,0)):=by show _=_;rw [HV2.out,if_neg h4]
  have b4:decide (c≥0)=false:=decide_eq_false h4
  gi_wp2
  refine bodyPost_ret (v:=chV v) (by rw [HR.out];simp [results,Try.results18,go_sem]) rfl ⟨rfl,nw6⟩
end Go.Proofs.Ytedomogjmhommaa
namespace Go.Proofs.Ytedomogjmhommaa
open Go.RowKit
abbrev one (x:Int):List Value:=[num x]
def zc2 (d:Dry):List Stp→Int→List Int→Int
 | _,_,[]=>0
 | [],_,_=>0
 | x :: xs,was,h :: hs=>if ¬ (0≤h∧h≤(d.heats.length:Int)-1) then 6 else if mayB d.heats.length x was h=false then 7 else zc2 d xs h hs
def plF (d:Dry) (plan:List Int):Int:=if plan.length≠d.steps.length then 2 else zc2 d d.steps d.start.h plan
def zbp (d:Dry) (plan:List Int):Int:=if dryF d≠0 then dryF d else plF d plan
theorem zjz {d:Dry} {k:Nat} {x:Stp} {h was:Int} {plan:List Int} (hx:d.steps[k]?=some x) (hh:plan[k]?=some h) :
  zc2 d (d.steps.drop k) was (plan.drop k)=if ¬ (0≤h∧h≤(d.heats.length:Int)-1) then 6 else if mayB d.heats.length x was h=false then 7 else zc2 d (d.steps.drop (k+1)) h (plan.drop (k+1)):=by
 have h1:=(List.getElem?_eq_some_iff.1 hx).1
 have h2:=(List.getElem?_eq_some_iff.1 hh).1
 rw [List.drop_eq_getElem_cons h1,List.drop_eq_getElem_cons h2]
 rw [List.getElem?_eq_getElem h1,Option.some.injEq] at hx
 rw [List.getElem?_eq_getElem h2,Option.some.injEq] at hh
 rw [hx,hh]
 rfl
theorem zme (d:Dry) (B:Nat) (u:Value) (plan:List Int) (w:World) (hst:StoveAt w B d) (hO:d.Ok) (hu:Sl w u 1 (plan.map one)) (hl:plan.length≤1000000000) :
  CallsIn FW 0 Try.prog 99 #[ptr B,u] w fun e w'=>e=.returned (num (plF d plan))∧Nx w w':=by
 obtain⟨a,cap,rfl⟩:=hu.cases
 obtain⟨v,c7,hsl⟩:=hst.stages
 obtain⟨sa,scap,rfl⟩:=hsl.cases
 obtain⟨hv,ch,hsh⟩:=hst.heats
 obtain⟨ha,hcap,rfl⟩:=hsh.cases
 have c5:=hst.s2
 rw [List.length_map] at *
 have hs5:=hO.s5
 have hh4:=hO.h4
 have hB:=hst.lt
 have HU:=Lib.hid hu
 have HS:=Lib.hid hsl
 have HO:=Lib.hid hO
 have hsh':=(stF_ok.1 hO.start).h
 clear hu hsl hsh hst hO
 obtain⟨g,hg⟩:∃ g,plF d plan=g:=⟨_,rfl⟩
 rw [hg]
 have HG:=Lib.hid hg
 clear hg
 by_cases hlen:plan.length=d.steps.length
 case neg =>
  have HR:Hid (g=2):=by show _=_;rw [← HG.out];unfold plF;rw [if_pos hlen]
  have b1:((plan.length:Int) == (d.steps.length:Int))=false:=beq_false_of_ne (by omega)
  gi_enter Try.func99,Try.ntmps99
  gi_wp2
  go_ret
  exact⟨by rw [HR.out]<;>rfl,Nx.refl _⟩
 case pos =>
 have HP:Hid (g=zc2 d (d.steps.drop 0) d.start.h (plan.drop 0)):=by show _=_;rw [← HG.out];unfold plF;rw [if_neg (by simpa using hlen),List.drop_zero,List.drop_zero]
 have b1:((plan.length:Int) != (d.steps.length:Int))=false:=by simp [hlen]
 have HL:=Lib.hid hlen
 clear hlen
 gi_enter Try.func99,Try.ntmps99
 gi_wp2
 clear b1
 gi_loopw [5,24] (fun ws i wr=>∃ (k:Nat) (was:Int),k≤plan.length∧i=num k∧ws=num was∧(-1000000000≤was∧was≤1000000000)∧g=zc2 d (d.steps.drop k) was (plan.drop k)∧Nx w wr) (fun _ i _=>plan.length-(intOf i).toNat)
 case atStart=>exact⟨0,d.start.h,Nat.zero_le _,rfl,rfl,by omega,HP.out,Nx.refl _⟩
 case round =>
  obtain⟨k,was,hk,rfl,rfl,hwas,hgo,nr⟩:=hrel
  have kr:=Kc.nx nr
  have q7:=kr.cell c7
  have qh:=kr.cell ch
  by_cases hlt:k<plan.length
  ·obtain⟨b,off,rfl,hbl,hcl⟩:=(HU.out).get (by simp;omega)
   have hh:plan[k]?=some plan[k]:=List.getElem?_eq_getElem hlt
   generalize plan[k]=h at hh
   have e0:wr.cell? ⟨b,off+k,none⟩=some (num h):=by
    have:=Sl.at hcl nr hbl hh 0 (v:=num h) rfl
    simpa using this
   have hx:d.steps[k]?=some d.steps[k]:=List.getElem?_eq_getElem (by have:=HL.out;omega)
   generalize d.steps[k]=x at hx
   have hgo:=Lib.hid (hgo.trans (zjz hx hh))
   have k55:=fun (w1:World)=>zaK h 0 ((d.heats.length:Int)-1) w1
   obtain⟨b',off',rfl,hbl',hcl'⟩:=HS.out.get (by simp;have:=HL.out;omega)
   have z0:wr.cell? ⟨b',off' + k * 7,none⟩=some (num x.lo):=Sl.at hcl' nr hbl' hx 0 (v:=num x.lo) rfl
   have z1:wr.cell? ⟨b',off' + k * 7+1,none⟩=some (num x.hi):=Sl.at hcl' nr hbl' hx 1 (v:=num x.hi) rfl
   have z2:wr.cell? ⟨b',off' + k * 7+2,none⟩=some (.bool x.tended):=Sl.at hcl' nr hbl' hx 2 (v:=.bool x.tended) rfl
   have z3:wr.cell? ⟨b',off' + k * 7+3,none⟩=some (num x.wlo):=Sl.at hcl' nr hbl' hx 3 (v:=num x.wlo) rfl
   have z4:wr.cell? ⟨b',off' + k * 7+4,none⟩=some (num x.whi):=Sl.at hcl' nr hbl' hx 4 (v:=num x.whi) rfl
   have z5:wr.cell? ⟨b',off' + k * 7+5,none⟩=some (num x.col):=Sl.at hcl' nr hbl' hx 5 (v:=num x.col) rfl
   have z6:wr.cell? ⟨b',off' + k * 7+6,none⟩=some (num d.heats.length):=Sl.at hcl' nr hbl' hx 6 (v:=num d.heats.length) rfl
   clear hcl hcl' hh hx
   by_cases h1:0≤h∧h≤(d.heats.length:Int)-1
   case neg =>
    have HR:=Lib.hid (hgo.out.trans (if_pos h1))
    have b2:=decide_eq_false h1
    clear h1
    gi_wp2_with (first | ((gi_at_call 55;refine CallsIn.mono (by (with_reducible exact k55 _)) ?_;rintro e w1 ⟨rfl,hw1⟩;replace hw1:=hw1.symm;subst hw1)) | gi_in)
    go_ret
    exact⟨by rw [HR.out]<;>rfl,nr⟩
   case pos =>
   have hgo:=Lib.hid (hgo.out.trans (if_neg (by simpa using h1)))
   have b2:=decide_eq_true h1
   have k91:=fun (w1:World)=>zkz d.heats.length x was h w1 (by omega) hwas
   have hwb : -1000000000≤h∧h≤1000000000:=by omega
   clear h1
   have hsk:k<d.steps.length:=by have:=HL.out;omega
   cases hmay:mayB d.heats.length x was h with
   | false =>
    rw [hmay] at k91
    have HR:=Lib.hid (hgo.out.trans (if_pos hmay))
    gi_wp2_with (first | ((gi_at_call 55;refine CallsIn.mono (by (with_reducible exact k55 _)) ?_;rintro e w1 ⟨rfl,hw1⟩;replace hw1:=hw1.symm;subst hw1)) | (gi_at_call 91;refine CallsIn.mono (k91 _) ?_;rintro e w2 ⟨rfl,n2⟩) | gi_in)
    go_ret
    exact⟨by rw [HR.out]<;>rfl,nr.trans n2⟩
   | true =>
    rw [hmay] at k91
    have HR:=Lib.hid (hgo.out.trans (if_neg (by rw [hmay];decide)))
    have HW:=Lib.hid hwb
    clear hwb
    gi_wp2_with (first | ((gi_at_call 55;refine CallsIn.mono (by (with_reducible exact k55 _)) ?_;rintro e w1 ⟨rfl,hw1⟩;replace hw1:=hw1.symm;subst hw1)) | (gi_at_call 91;refine CallsIn.mono (k91 _) ?_;rintro e w2 ⟨rfl,n2⟩) | gi_in)
    exact⟨⟨k+1,h,hlt,by simp,rfl,HW.out,HR.out,nr.trans n2⟩,by simp [intOf];omega⟩
  ·obtain rfl:k=plan.length:=by omega
   have HR:Hid (g=0):=by show _=_;rw [hgo,List.drop_length];cases d.steps.drop plan.length<;>rfl
   clear hgo
   gi_wp2
   go_ret
   exact⟨by rw [HR.out]<;>rfl,nr⟩
end Go.Proofs.Ytedomogjmhommaa
namespace Go.Proofs.Ytedomogjmhommaa
open Go.RowKit
theorem zer (d:Dry) (r:R2) (u:Value) (w:World) (hd:DrySl w d r) (h:dryF d≠0) :
  CallsIn FW 0 Try.prog 70 #[d.val r,u] w fun e w'=>e=.returned (opV0 (dryF d))∧Nx w w':=by
 have k54:=fun (w1:World) (n:Nx w w1)=>zga d r w1 (hd.nx n) h
 have b1:(dryF d == 0)=false:=beq_false_of_ne h
 generalize dryF d=f at *
 obtain⟨rh,rs⟩:=r
 obtain⟨ha,hcap,rfl⟩:=hd.heats.cases
 obtain⟨sa,scap,rfl⟩:=hd.steps.cases
 rw [List.length_map,List.length_map] at *
 gi_enter Try.func70,Try.ntmps70
 gi_upto_region 1 with fail
 generalize hW:w.alloc _=W
 obtain⟨nW,hB⟩:=DBox.of (d:=d) (r:=⟨_,_⟩) hW
 clear hW
 have c0:=hB.at' 0 _ rfl
 have c1:=hB.at' 1 _ rfl
 have c2:=hB.at' 2 _ rfl
 have c3:=hB.at' 3 _ rfl
 have c4:=hB.at' 4 _ rfl
 have c5:=hB.at' 5 _ rfl
 have c6:=hB.at' 6 _ rfl
 gi_wp2_with (first | (gi_at_call 54;refine CallsIn.mono (k54 _ nW) ?_;rintro e w2 ⟨rfl,n2⟩) | gi_in)
 go_ret2
 exact⟨rfl,nW.trans n2⟩
theorem zfn (d:Dry) (r:R2) (u:Value) (plan:List Int) (w:World) (hd:DrySl w d r) (h:dryF d=0) (hu:Sl w u 1 (plan.map one)) (hl:plan.length≤1000000000) :
  CallsIn FW 0 Try.prog 70 #[d.val r,u] w fun e w'=>∃ B,e=.returned (.tuple #[ptr B,num (plF d plan)])∧Nx w w'∧StoveAt w' B d:=by
 have k54:=fun (w1:World) (n:Nx w w1)=>ziv d r w1 (hd.nx n) h
 have hO:=zdc h
 have k99:=fun (B:Nat) (w1:World) (n:Nx w w1) (hS:StoveAt w1 B d)=>zme d B u plan w1 hS hO (hu.nx n) hl
 generalize plF d plan=f at *
 obtain⟨ua,ucap,rfl⟩:=hu.cases
 obtain⟨rh,rs⟩:=r
 obtain⟨ha,hcap,rfl⟩:=hd.heats.cases
 obtain⟨sa,scap,rfl⟩:=hd.steps.cases
 rw [List.length_map,List.length_map] at *
 rw [List.length_map] at *
 gi_enter Try.func70,Try.ntmps70
 gi_upto_region 1 with fail
 generalize hW:w.alloc _=W
 obtain⟨nW,hB⟩:=DBox.of (d:=d) (r:=⟨_,_⟩) hW
 clear hW
 have c0:=hB.at' 0 _ rfl
 have c1:=hB.at' 1 _ rfl
 have c2:=hB.at' 2 _ rfl
 have c3:=hB.at' 3 _ rfl
 have c4:=hB.at' 4 _ rfl
 have c5:=hB.at' 5 _ rfl
 have c6:=hB.at' 6 _ rfl
 gi_wp2_with (first | (gi_at_call 54;refine CallsIn.mono (k54 _ nW) ?_;rintro e w2 ⟨B,rfl,n2,hS⟩;have k99:=k99 B w2 (nW.trans n2) hS) | (gi_at_call 99;refine CallsIn.mono k99 ?_;rintro e w3 ⟨rfl,n3⟩) | gi_in)
 go_ret2
 exact⟨B,rfl,nW.trans (n2.trans n3),hS.nx n3⟩
end Go.Proofs.Ytedomogjmhommaa
namespace Go.Proofs.Ytedomogjmhommaa
open Go.RowKit
theorem zhS (d:Dry) (r:R2) (u:Value) (plan:List Int) (w:World) (hd:DrySl w d r) (hu:Sl w u 1 (plan.map one)) (hl:plan.length≤1000000000) :
  CallsIn FW 0 Try.prog 39 #[d.val r,u] w fun e w'=>e=.returned (num (zbp d plan))∧Nx w w':=by
 have k33:=fun (w1:World) (n:Nx w w1)=>zgq d r w1 (hd.nx n)
 have k35:=fun (k:Nat) (x:Stp) (hx:d.steps[k]?=some x) (was h:Int) (hw : -1000000000≤was∧was≤1000000000) (w1:World) (n:Nx w w1)=>zgQ d r k x was h w1 (hd.nx n) hx hw
 obtain⟨ua,ucap,rfl⟩:=hu.cases
 have HU:=Lib.hid hu
 have hsl:=hd.sl
 have hhl:=hd.hl
 obtain⟨rh,rs⟩:=r
 obtain⟨ha,hcap,hrs⟩:=hd.heats.cases
 dsimp only at hrs
 subst hrs
 obtain⟨sa,scap,hrs⟩:=hd.steps.cases
 dsimp only at hrs
 subst hrs
 rw [List.length_map,List.length_map] at *
 rw [List.length_map] at *
 clear hd hu
 obtain⟨g,hg⟩:∃ g,zbp d plan=g:=⟨_,rfl⟩
 rw [hg]
 have HG:=Lib.hid hg
 clear hg
 gi_enter Try.func39,Try.ntmps39
 gi_upto_region 1 with fail
 generalize hW:w.alloc _=W
 obtain⟨nW,hbW⟩:=DBox.of (d:=d) (r:=⟨_,_⟩) hW
 clear hW
 have hlD:=hbW.lt
 generalize w.heap.size=A at *
 have c0:=hbW.at' 0 _ rfl
 have c1:=hbW.at' 1 _ rfl
 have c2:=hbW.at' 2 _ rfl
 have c3:=hbW.at' 3 _ rfl
 have c4:=hbW.at' 4 _ rfl
 have c5:=hbW.at' 5 _ rfl
 have c6:=hbW.at' 6 _ rfl
 by_cases h1:dryF d=0
 case neg =>
  have HR:Hid (g=dryF d):=by show _=_;rw [← HG.out];unfold zbp;rw [if_pos h1]
  have b1:(dryF d == 0)=false:=beq_false_of_ne h1
  generalize dryF d=f at *
  gi_wp2_with (first | (gi_at_call 33;refine CallsIn.mono (k33 _ nW) ?_;rintro e w2 ⟨rfl,n2⟩) | gi_in)
  go_ret
  exact⟨by rw [HR.out]<;>rfl,nW.trans n2⟩
 case pos =>
 have hO:=zdc h1
 have hh4:=hO.h4
 have hs5:=hO.s5
 have hsh':=(stF_ok.1 hO.start).h
 have HG:Hid (g=plF d plan):=by show _=_;rw [← HG.out];unfold zbp;rw [if_neg (by simpa using h1)]
 rw [h1] at k33
 clear h1 hO
 gi_upto_region 4 with (first | (gi_at_call 33;refine CallsIn.mono (k33 _ nW) ?_;rintro e w2 ⟨rfl,n2⟩) | gi_in)
 have nw2:=nW.trans n2
 have hb2:=hbW.nx n2
 clear c0 c1 c2 c3 c4 c5 c6
 have c6:=hb2.at' 6 _ rfl
 have c5:=hb2.at' 5 _ rfl
 by_cases hlen:plan.length=d.steps.length
 case neg =>
  have HR:Hid (g=2):=by show _=_;rw [HG.out];unfold plF;rw [if_pos hlen]
  have b1:((plan.length:Int) != (d.steps.length:Int))=true:=by simp;omega
  gi_wp2
  go_ret
  exact⟨by rw [HR.out]<;>rfl,nw2⟩
 case pos =>
 have HP:Hid (g=zc2 d (d.steps.drop 0) d.start.h (plan.drop 0)):=by show _=_;rw [HG.out];unfold plF;rw [if_neg (by simpa using hlen),List.drop_zero,List.drop_zero]
 have b1:((plan.length:Int) != (d.steps.length:Int))=false:=by simp [hlen]
 have HL:=Lib.hid hlen
 clear hlen
 gi_wp2
 clear b1 c6 c5
 have n0:Nx w2 w2:=Nx.refl _
 gi_loopw [6,7] (fun ws i wr=>∃ (k:Nat) (was:Int),k≤plan.length∧i=num k∧ws=num was∧(-1000000000≤was∧was≤1000000000)∧g=zc2 d (d.steps.drop k) was (plan.drop k)∧Nx w2 wr) (fun _ i _=>plan.length-(intOf i).toNat)
 case atStart=>exact⟨0,d.start.h,Nat.zero_le _,rfl,rfl,by omega,HP.out,n0⟩
 case round =>
  obtain⟨k,was,hk,rfl,rfl,hwas,hgo,nr⟩:=hrel
  have nwr:=nw2.trans nr
  have hbr:=hb2.nx nr
  by_cases hlt:k<plan.length
  ·obtain⟨b,off,rfl,hbl,hcl⟩:=(HU.out).get (by simp;omega)
   have hh:plan[k]?=some plan[k]:=List.getElem?_eq_getElem hlt
   generalize plan[k]=h at hh
   have e0:wr.cell? ⟨b,off+k,none⟩=some (num h):=by
    have:=Sl.at hcl nwr hbl hh 0 (v:=num h) rfl
    simpa using this
   have hx:d.steps[k]?=some d.steps[k]:=List.getElem?_eq_getElem (by have:=HL.out;omega)
   generalize d.steps[k]=x at hx
   have hgo:=Lib.hid (hgo.trans (zjz hx hh))
   have k58:=fun (w1:World)=>zbM h 0 ((d.heats.length:Int)-1) w1
   have k35:=k35 k x hx was h hwas
   clear hcl hh hx
   have c0:=hbr.at' 0 _ rfl
   by_cases h1:0≤h∧h≤(d.heats.length:Int)-1
   case neg =>
    have HR:=Lib.hid (hgo.out.trans (if_pos h1))
    have b2:=decide_eq_false h1
    clear h1
    gi_upto_region 10 with fail
    gi_big_quiet_th (first | (gi_at_call 58;refine CallsIn.quiet_of_same (k58 _)))
    gi_wp2
    go_ret
    exact⟨by rw [HR.out]<;>rfl,nwr.drewN _⟩
   case pos =>
   have hgo:=Lib.hid (hgo.out.trans (if_neg (by simpa using h1)))
   have b2:=decide_eq_true h1
   have hwb : -1000000000≤h∧h≤1000000000:=by omega
   have HW:=Lib.hid hwb
   clear h1 hwb
   gi_upto_region 10 with fail
   gi_big_quiet_th (first | (gi_at_call 58;refine CallsIn.quiet_of_same (k58 _)))
   have nq1:Nx wr (wr.drewN nq):=(Nx.refl wr).drewN nq
   generalize wr.drewN nq=w4 at nq1 ⊢
   have k4:=Kc.nx nq1
   have e0:=k4.cell e0
   have hb4:=hbr.nx nq1
   clear c0
   have c0:=hb4.at' 0 _ rfl
   have c1:=hb4.at' 1 _ rfl
   have c2:=hb4.at' 2 _ rfl
   have c3:=hb4.at' 3 _ rfl
   have c4:=hb4.at' 4 _ rfl
   have c5:=hb4.at' 5 _ rfl
   have c6:=hb4.at' 6 _ rfl
   gi_upto_region 12 with fail
   refine zaX 7 rfl (by kernel_rfl) (by kernel_rfl) ?_
   simp only [List.take_succ_cons,List.take_zero,List.drop_succ_cons,List.drop_zero]
   repeat (gi_big_quiet_step (fail))
   refine wpQuietIn_nil ?_
   rintro w' ⟨nq,rfl⟩
   have nw5:Nx w (w4.drewN nq):=nwr.trans (nq1.drewN nq)
   have n25:Nx w2 (w4.drewN nq):=nr.trans (nq1.drewN nq)
   have e0:(w4.drewN nq).cell? ⟨b,off+k,none⟩=some (num h):=e0
   generalize w4.drewN nq=w5 at nw5 n25 e0 ⊢
   cases hmay:mayB d.heats.length x was h with
   | false =>
    rw [hmay] at k35
    have HR:=Lib.hid (hgo.out.trans (if_pos hmay))
    gi_wp2_with (first | (gi_at_call 35;refine CallsIn.mono (k35 _ nw5) ?_;rintro e w6 ⟨rfl,n6⟩) | gi_in)
    go_ret
    exact⟨by rw [HR.out]<;>rfl,nw5.trans n6⟩
   | true =>
    rw [hmay] at k35
    have HR:=Lib.hid (hgo.out.trans (if_neg (by rw [hmay];decide)))
    gi_wp2_with (first | (gi_at_call 35;refine CallsIn.mono (k35 _ nw5) ?_;rintro e w6 ⟨rfl,n6⟩;have e0:=(Kc.nx n6).cell e0) | gi_in)
    exact⟨⟨k+1,h,hlt,by simp,rfl,HW.out,HR.out,n25.trans n6⟩,by simp [intOf];omega⟩
  ·obtain rfl:k=plan.length:=by omega
   have HR:Hid (g=0):=by show _=_;rw [hgo,List.drop_length];cases d.steps.drop plan.length<;>rfl
   clear hgo
   gi_wp2
   go_ret
   exact⟨by rw [HR.out]<;>rfl,nwr⟩
end Go.Proofs.Ytedomogjmhommaa
namespace Go.Proofs.Ytedomogjmhommaa
open Go.RowKit
theorem T69:ElemT 69 24 (.agg #[num 0,num 0,num 0]) 3 24:=.mk' Try.underlying69 (by kernel_rfl) (by kernel_rfl) (by decide)
theorem zaP {F:Fence} {nF:Nat} {t e:TypeId} {z:Value} {sz by_:Nat} (T:ElemT t e z sz by_) {w:World} {ops:Array Oper} {rest:List Oper} {o:Oper} {a:Act} {Q:Exit→Act→World→Prop} (hgd:o.guard=none) (s x:Operand)
  (ho:o.op=.call { callee:=.builtin .append,args:=#[s,x],argTypes:=#[t,t] }) (hty:o.type=t) (base:Nat) (v:Value) (n:Nat) (rows:List (List Value)) (hs:a.eval s=v) (hown:w.ownsRow base e sz v n rows.flatten) (hn:rows.length=n)
  (g:Nat) (new:List Value) (hx:a.eval x=.slice (some ⟨g,0,none⟩) 1 1) (hg:w.heap[g]?=some (.cells new.toArray e (0,0))) (hnew:new.length=sz) (h1:∀ y∈new,y.oneCell'=true)
  (hl:(n+1) * by_≤140737488355328) (hm:n≤281474976710656) (hb:base≤w.heap.size)
  (h:∀ v' w',w'.ownsRow base e sz v' (n+1) (rows++[new]).flatten→w.grownBy w' v.ownBlock→(v'.ownBlock=v.ownBlock∨v'.ownBlock=some w.heap.size)→wpListIn F nF Try.prog ops Q rest (a.put o.dst v') w') :
  wpListIn F nF Try.prog ops Q (o :: rest) a w:=by
 refine wpListIn_plain hgd fun K hK=>?_
 subst hn
 obtain⟨v',w',r1,r2,r3,r4⟩:=zg2 T base w v rows hown g new hnew hg h1 hl hm hb
 rw [List.length_append] at r2
 unfold Oper.wpIn
 refine⟨by simp [Oper.about,ho,resolve,Target.leads,Sem.run_pure],?_⟩
 rw [Oper.semAt_plain F _ _ (by rw [ho];intro c hc';cases hc')]
 simp [execOp,ho,resolve,invoke,builtin,hs,hx,hty,r1,Result.andThen]
 exact hK _ _ (h v' w' r2 r3 r4)
def zaq (d:Dry):St→List Int→List Int→List St
 | s,h :: hs,a :: aa=>za9 d (zaM d h.toNat) s h a :: zaq d (za9 d (zaM d h.toNat) s h a) hs aa
 | _,_,_=>[]
def stAt (d:Dry):St→List Int→List Int→Nat→St
 | s,_,_,0=>s
 | s,h :: hs,a :: aa,k+1=>stAt d (za9 d (zaM d h.toNat) s h a) hs aa k
 | s,_,_,_+1=>s
theorem zc9 (d:Dry):∀ (s:St) (hs aa:List Int) (k:Nat) (h a:Int),hs[k]?=some h→aa[k]?=some a→stAt d s hs aa (k+1)=za9 d (zaM d h.toNat) (stAt d s hs aa k) h a
 | s,[],_,k,h,a,hh,_=>by simp at hh
 | s,h0 :: hs,[],k,h,a,_,ha=>by simp at ha
 | s,h0 :: hs,a0 :: aa,0,h,a,hh,ha=>by
  simp at hh ha
  subst hh
  subst ha
  cases hs<;>cases aa<;>rfl
 | s,h0 :: hs,a0 :: aa,k+1,h,a,hh,ha=>by
  simp at hh ha
  exact zc9 d _ hs aa k h a hh ha
theorem zbu (d:Dry):∀ (s:St) (hs aa:List Int),hs.length=aa.length→(zaq d s hs aa).length=hs.length
 | s,[],aa,_=>by cases aa<;>rfl
 | s,h :: hs,[],e=>by simp at e
 | s,h :: hs,a :: aa,e=>by
  simp at e
  simp [zaq,zbu d _ hs aa e]
theorem zcO (d:Dry):∀ (s:St) (hs aa:List Int) (k:Nat) (h a:Int),hs[k]?=some h→aa[k]?=some a→(zaq d s hs aa).take (k+1)=(zaq d s hs aa).take k++[stAt d s hs aa (k+1)]
 | s,[],_,k,h,a,hh,_=>by simp at hh
 | s,h0 :: hs,[],k,h,a,_,ha=>by simp at ha
 | s,h0 :: hs,a0 :: aa,0,h,a,hh,ha=>by simp [zaq,stAt]
 | s,h0 :: hs,a0 :: aa,k+1,h,a,hh,ha=>by
  simp at hh ha
  have:=zcO d (za9 d (zaM d h0.toNat) s h0 a0) hs aa k h a hh ha
  simp only [zaq,List.take_succ_cons,stAt,List.cons_append] at this ⊢
  rw [this]
structure PA (d:Dry) (plan air:List Int):Prop where
 len:plan.length=air.length
 p:∀ h∈plan,0≤h∧h≤(d.heats.length:Int)-1
 a:∀ a∈air,0≤a∧a≤3
theorem ziO {d:Dry} (hO:d.Ok) {plan air:List Int} (hP:PA d plan air) {s:St} (hs:s.Ok d.heats.length):∀ k,k≤plan.length→(stAt d s plan air k).Ok d.heats.length
 | 0,_=>by cases plan<;>cases air<;>exact hs
 | k+1,hk=>by
  have h1:plan[k]?=some plan[k]:=List.getElem?_eq_getElem (by omega)
  have hka:k<air.length:=by have:=hP.len;omega
  have h2:air[k]?=some air[k]:=List.getElem?_eq_getElem hka
  rw [zc9 d s plan air k _ _ h1 h2]
  have b1:=hP.p _ (List.mem_of_getElem? h1)
  have b2:=hP.a _ (List.mem_of_getElem? h2)
  refine zep hO ?_ (ziO hO hP hs k (by omega)) b1 b2.1
  have:plan[k].toNat<d.heats.length:=by omega
  unfold zaM
  rw [List.getElem?_eq_getElem this]
  exact List.getElem_mem _
end Go.Proofs.Ytedomogjmhommaa
