import Derived.Test.YtedomogjmhommaaH12
set_option linter.all false
set_option maxRecDepth 100000
set_option maxHeartbeats 8000000
namespace Go.Proofs.Ytedomogjmhommaa
open Go.RowKit Go.Shelf
abbrev zlC (g:(Int×Int)×(Int×Int)×Int):Value:=.tuple #[spV g.1,spV g.2.1,num g.2.2]
theorem zp2 {t:Array Value} {W:World} {b1 b2:Nat} {x y z u:Value} {f:Int} {fz1 fz2:Nat×Nat} (h4:t[4]?=some (ptr b1)) (h5:t[5]?=some (ptr b2)) (h6:t[6]?=some (num f)) (g1:W.heap[b1]?=some (.cells #[x,y] 45 fz1)) (g2:W.heap[b2]?=some (.cells #[z,u] 45 fz2)):(results Try.f28 t).run Try.prog W=.ok (.tuple #[.agg #[x,y],.agg #[z,u],num f]) W:=by
 have c0:=zaa (i:=0) g1 rfl
 have c1:=zaa (i:=1) g1 rfl
 have d0:=zaa (i:=0) g2 rfl
 have d1:=zaa (i:=1) g2 rfl
 simp [results,Try.results28,go_sem,h4,h5,h6,c0,c1,d0,d1]
theorem set2 {w:World} {b:Nat} {e:TypeId} {fz:Nat×Nat} {x0 x1 v0 v1:Value} (h:w.heap[b]?=some (.cells #[x0,x1] e fz)):((w.setCell ⟨b,0,none⟩ v0).setCell ⟨b,1,none⟩ v1).heap[b]?=some (.cells #[v0,v1] e fz):=by
 have h0:(w.setCell ⟨b,0,none⟩ v0).heap[b]?=some (.cells #[v0,x1] e fz):=by simpa using zaA (i:=0) (v:=v0) h
 simpa using zaA (i:=1) (v:=v1) h0
theorem ze4 {w:World} {b1 b2:Nat} {e1 e2:TypeId} {fz1 fz2:Nat×Nat} {x y z u:Value} (v0 v1 v2 v3:Value) (h1:w.heap[b1]?=some (.cells #[x,y] e1 fz1)) (h2:w.heap[b2]?=some (.cells #[z,u] e2 fz2)) (hne:b1≠b2) :
  ((((w.setCell ⟨b1,0,none⟩ v0).setCell ⟨b1,1,none⟩ v1).setCell ⟨b2,0,none⟩ v2).setCell ⟨b2,1,none⟩ v3).heap[b1]?=some (.cells #[v0,v1] e1 fz1)∧((((w.setCell ⟨b1,0,none⟩ v0).setCell ⟨b1,1,none⟩ v1).setCell ⟨b2,0,none⟩ v2).setCell ⟨b2,1,none⟩ v3).heap[b2]?=some (.cells #[v2,v3] e2 fz2) :=
 ⟨(zae hne).trans ((zae hne).trans (set2 h1)),set2 ((zae (fun e=>hne e.symm)).trans ((zae (fun e=>hne e.symm)).trans h2))⟩
theorem znU {f:St→Int} {l:List St} {x0 x1 sw:Int} {s:St} (h:IsSpan f l (x0,x1)) (hs:f s=sw):IsSpan f (s :: l) (if sw<x0 then sw else x0,if x1<sw then sw else x1):=by
 have:=h.cons s
 rw [hs] at this
 have e1:(if sw<x0 then sw else x0)=min x0 sw:=by split<;>omega
 have e2:(if x1<sw then sw else x1)=max x1 sw:=by split<;>omega
 rw [e1,e2]
 exact this
theorem zhd (d:Dry) (r:R2) (u:Value) (plan:List Int) (w:World) (hd:DrySl w d r) (hu:Sl w u 1 (plan.map one)) (hl:plan.length≤1000000000) :
  CallsIn FW 0 Try.prog 28 #[d.val r,u] w fun e w'=>e=.returned (zlC (zcp d plan))∧Nx w w':=by
 have k70b:=fun (h:dryF d≠0) (w1:World) (n:Nx w w1)=>zer d r u w1 (hd.nx n) h
 have k70:=fun (h:dryF d=0) (w1:World) (n:Nx w w1)=>zfn d r u plan w1 (hd.nx n) h (hu.nx n) hl
 obtain⟨ua,ucap,rfl⟩:=hu.cases
 have HU:=Lib.hid hu
 obtain⟨rh,rs⟩:=r
 obtain⟨ha,hcap,hrs⟩:=hd.heats.cases
 dsimp only at hrs
 subst hrs
 obtain⟨sa,scap,hrs⟩:=hd.steps.cases
 dsimp only at hrs
 subst hrs
 rw [List.length_map,List.length_map] at *
 rw [List.length_map] at *
 clear hd hu
 obtain⟨g,hg⟩:∃ g,zcp d plan=g:=⟨_,rfl⟩
 rw [hg]
 have HG:=Lib.hid hg
 clear hg
 have hmm:=@run_makeMap Try.prog
 gi_enter Try.func28,Try.ntmps28
 gi_upto_region 1 with fail
 generalize hWn:((w.alloc _).alloc _).alloc _=W
 obtain⟨nW,sW,g0,g1,g2⟩:=al3 hWn
 have hbW:DBox W w.heap.size d ⟨.slice ha d.heats.length hcap,.slice sa d.steps.length scap⟩:=⟨by omega,fun i v h=>zaa g0 h⟩
 clear hWn g0
 generalize hA:w.heap.size=A at *
 have c0:=hbW.at' 0 _ rfl
 have c1:=hbW.at' 1 _ rfl
 have c2:=hbW.at' 2 _ rfl
 have c3:=hbW.at' 3 _ rfl
 have c4:=hbW.at' 4 _ rfl
 have c5:=hbW.at' 5 _ rfl
 have c6:=hbW.at' 6 _ rfl
 by_cases q0:dryF d=0
 case neg =>
  have HR:Hid (g=((0,0),(0,0),dryF d)):=by
   have e:zbp d plan=dryF d:=by unfold zbp;rw [if_pos q0]
   show _=_;rw [← HG.out];unfold zcp;rw [e,if_pos q0]
  have b1:(dryF d == 0)=false:=beq_false_of_ne q0
  have k70b:=k70b q0
  clear k70
  generalize dryF d=f at *
  gi_upto_region 3 with (first | (gi_at_call 70;refine CallsIn.mono (k70b _ nW) ?_;rintro e w2 ⟨rfl,n2⟩) | gi_in)
  have y1:=(n2.block _ (by omega)).trans g1
  have y2:=(n2.block _ (by omega)).trans g2
  have r0:=zaa (i:=0) (v:=num 0) y1 rfl
  have r1:=zaa (i:=1) (v:=num 0) y1 rfl
  have r2:=zaa (i:=0) (v:=num 0) y2 rfl
  have r3:=zaa (i:=1) (v:=num 0) y2 rfl
  have z0:=zac (i:=0) y1
  have z1:=zac (i:=1) y1
  have z2:=zac (i:=0) y2
  have z3:=zac (i:=1) y2
  clear c0 c1 c2 c3 c4 c5 c6
  gi_wp2
  obtain⟨h3,h2⟩:=ze4 (num 0) (num 0) (num 0) (num 0) y1 y2 (by omega)
  refine bodyPost_ret (zp2 rfl rfl rfl h3 h2) rfl ⟨by rw [HR.out]<;>rfl,?_⟩
  repeat (refine Nx.set ?_ (by omega))
  exact nW.trans n2
 case pos =>
 have hpf:zbp d plan=plF d plan:=by unfold zbp;rw [if_neg (by simpa using q0)]
 have k70:=k70 q0
 clear k70b
 by_cases q1:plF d plan=0
 case neg =>
  have HR:Hid (g=((0,0),(0,0),plF d plan)):=by show _=_;rw [← HG.out];unfold zcp;rw [hpf,if_pos q1]
  have b1:(plF d plan == 0)=false:=beq_false_of_ne q1
  clear hpf
  generalize plF d plan=f at *
  gi_upto_region 3 with (first | (gi_at_call 70;refine CallsIn.mono (k70 _ nW) ?_;rintro e w2 ⟨B,rfl,n2,hS⟩) | gi_in)
  have y1:=(n2.block _ (by omega)).trans g1
  have y2:=(n2.block _ (by omega)).trans g2
  have r0:=zaa (i:=0) (v:=num 0) y1 rfl
  have r1:=zaa (i:=1) (v:=num 0) y1 rfl
  have r2:=zaa (i:=0) (v:=num 0) y2 rfl
  have r3:=zaa (i:=1) (v:=num 0) y2 rfl
  have z0:=zac (i:=0) y1
  have z1:=zac (i:=1) y1
  have z2:=zac (i:=0) y2
  have z3:=zac (i:=1) y2
  clear c0 c1 c2 c3 c4 c5 c6
  gi_wp2
  obtain⟨h3,h2⟩:=ze4 (num 0) (num 0) (num 0) (num 0) y1 y2 (by omega)
  refine bodyPost_ret (zp2 rfl rfl rfl h3 h2) rfl ⟨by rw [HR.out]<;>rfl,?_⟩
  repeat (refine Nx.set ?_ (by omega))
  exact nW.trans n2
 case pos =>
 have HR:Hid (g=(zco (fun s=>d.start.w-s.w) (zci d plan plan.length),zco (fun s=>d.start.c-s.c) (zci d plan plan.length),0)):=by show _=_;rw [← HG.out];unfold zcp;rw [hpf,if_neg (by simpa using q1)]
 obtain⟨hO,hpl,hpp⟩:=zcR (hpf.trans q1)
 have hs5:=hO.s5
 rw [q1] at k70
 have HPL:=Lib.hid hpl
 have HE:=Lib.hid (zie hO hpp)
 have HNE:=Lib.hid (zf6 hO hpl)
 have HPP:=Lib.hid hpp
 have hplen:plan.length≤5:=by omega
 have hst0:=stF_ok.1 hO.start
 have hstI:=hst0.i hO.h4.2
 clear hpf q1 hpp hpl
 gi_upto_region 4 with (first | (gi_at_call 70;refine CallsIn.mono (k70 _ nW) ?_;rintro e w2 ⟨B,rfl,n2,hS⟩) | gi_in)
 have hb2:=hbW.nx n2
 clear c0 c1 c2 c3 c4 c5 c6
 have c3:=hb2.at' 3 _ rfl
 have c4:=hb2.at' 4 _ rfl
 have c5:=hb2.at' 5 _ rfl
 have y1:=(n2.block _ (by omega)).trans g1
 have y2:=(n2.block _ (by omega)).trans g2
 have hA2:A+3≤w2.heap.size:=by have:=n2.size;omega
 have nw2:=nW.trans n2
 have hset0:SetM (w2.alloc (.map #[] 0)) w2.heap.size 0 (fun _=>False):=zgc zaT
 have kcA:Kc w2 (w2.alloc (.map #[] 0)):=Kc.nx (zaj (Nx.refl _) _)
 replace c3:=kcA.cell c3
 replace c4:=kcA.cell c4
 replace c5:=kcA.cell c5
 gi_upto_region 5 with (first | (refine zf2 rfl _ _ _ 104 rfl Try.underlying104 w2.heap.size 0 (fun _=>False) d.start rfl rfl rfl hstI hset0 (by unfold maxLen;omega) ?_;intro w3 hset3 hg3;simp only [Act.put,List.setIfInBounds_toArray,List.set_cons_succ,List.set_cons_zero]) | gi_in)
 have b3:But [w2.heap.size] (w2.alloc (.map #[] 0)) w3:=But.grown hg3 (by simp)
 have nw3:Nx w w3:=b3.toNx (nw2.trans (zaj (Nx.refl _) _)) (by simp;have:=nw2.size;omega)
 have y1:=(b3.block (A+1) (by simp;omega) (by simp;omega)).trans ((zbq (by omega)).trans y1)
 have y2:=(b3.block (A+1+1) (by simp;omega) (by simp;omega)).trans ((zbq (by omega)).trans y2)
 have kc3:Kc (w2.alloc (.map #[] 0)) w3:=Kc.map hg3 zaT
 have hS3:=hS.kc (kcA.trans kc3)
 have c3:=kc3.cell c3
 have c4:=kc3.cell c4
 have c5:=kc3.cell c5
 have hsz3:A+4≤w3.heap.size:=by have:=hg3.size;simp at this;omega
 have hset3' : SetM w3 w2.heap.size 1 (·∈zci d plan 0):=hset3.congr (fun s=>by simp [zci])
 clear hset3 hg3 b3 kcA kc3 hset0 hS hmm
 gi_wp2
 gi_loopw [8,32] (fun u8 u32 wr=>∃ i M n:Nat,i≤plan.length∧u32=num i∧u8=.map (some M)∧SetM wr M n (·∈zci d plan i)∧n≤4 ^ i∧Nx w3 wr) (fun _ u32 _=>plan.length-(intOf u32).toNat)
 case atStart=>exact⟨0,_,1,Nat.zero_le _,rfl,rfl,hset3',Nat.le_refl _,Nx.refl _⟩
 case round =>
  obtain⟨i,M,n,hi,rfl,rfl,hset,hn,nr⟩:=hrel
  by_cases hlt:i<plan.length
  case pos =>
   have hix:i<d.steps.length:=by have:=HPL.out;omega
   have hx:d.steps[i]?=some d.steps[i]:=List.getElem?_eq_getElem hix
   have hh:plan[i]?=some plan[i]:=List.getElem?_eq_getElem hlt
   have hsc:=Lib.hid (zcY (d:=d) hx hh)
   have hph:=HPP.out _ (List.mem_of_getElem? hh)
   generalize d.steps[i]=x at hx hsc
   generalize plan[i]=h at hh hsc hph
   obtain⟨b,off,rfl,hbl,hcl⟩:=(HU.out).get (by simp;omega)
   have e0:=Sl.at1 hcl (nw3.trans nr) hbl hh
   have hpow:4 ^ i≤1024:=Nat.le_trans (Nat.pow_le_pow_right (by omega) (show i≤5 by omega)) (by decide)
   have k75:=zgj d hO B i x hx M n (zci d plan i) (HE.out i) h.toNat _ (zdW (by omega)) (by omega) wr (hS3.nx nr) hset
   rw [show ((h.toNat:Nat):Int)=h by omega] at k75
   clear hcl hh hx hset
   generalize keepL d x h.toNat (zci d plan i)=kb at k75
   gi_wp2_with (first | (gi_at_call 75;refine CallsIn.mono k75 ?_;rintro e w5 ⟨M',rfl,n5,hset5,hM'⟩) | gi_in)
   exact⟨⟨i+1,M',4 * n,hlt,by simp,rfl,by rw [hsc.out];exact hset5,by rw [Nat.pow_succ];omega,nr.trans n5⟩,by simp [intOf];omega⟩
  case neg =>
   obtain rfl:i=plan.length:=by omega
   have hpow:4 ^ plan.length≤1024:=Nat.le_trans (Nat.pow_le_pow_right (by omega) (show plan.length≤5 by omega)) (by decide)
   have hML:=HE.out plan.length
   have hMN:=HNE.out plan.length (Nat.le_refl _)
   generalize zci d plan plan.length=L at *
   have y1r:=(nr.block (A+1) (by omega)).trans y1
   have y2r:=(nr.block (A+1+1) (by omega)).trans y2
   have kcr:=Kc.nx nr
   have r3:=kcr.cell c3
   have r4:=kcr.cell c4
   have r5:=kcr.cell c5
   have nwr:=nw3.trans nr
   have hszr:A+4≤wr.heap.size:=by have:=nr.size;omega
   have hMl:=hset.lt
   have hMA:M≠A+1∧M≠A+1+1:=by
    obtain⟨es,cl,hm⟩:=hset.map
    refine⟨fun e=>?_,fun e=>?_⟩
    ·rw [e,y1r] at hm;cases hm
    ·rw [e,y2r] at hm;cases hm
   clear y1 y2 c3 c4 c5 kcr nr
   gi_wp2_with (first | (refine zcK rfl _ 104 rfl Try.underlying104 M n (·∈L) rfl hset ?_;intro w6 hr6 n6 s6 hc6;simp only [Act.put,List.setIfInBounds_toArray,List.set_cons_succ,List.set_cons_zero]) | gi_in)
   have y1w:=(n6.block (A+1) (by omega)).trans y1r
   have y2w:=(n6.block (A+1+1) (by omega)).trans y2r
   have kc6:=Kc.nx n6
   replace r3:=kc6.cell r3
   replace r4:=kc6.cell r4
   replace r5:=kc6.cell r5
   have nw6:=nwr.trans n6
   have hsz6:A+4≤w6.heap.size:=by omega
   clear y1r y2r kc6 hset
   generalize hRg:wr.heap.size=R at *
   generalize wr=wq at *
   gi_loopw [11] (fun u11 wr=>∃ (ys:List St) (cnt:Nat) (x0 x1 z0 z1:Int),RgS wr M R n (·∈L) ys cnt∧u11=.bool (!ys.isEmpty)∧wr.heap[A+1]?=some (.cells #[num x0,num x1] 45 (0,0))∧wr.heap[A+1+1]?=some (.cells #[num z0,num z1] 45 (0,0))∧(ys≠[]→IsSpan (fun s=>d.start.w-s.w) ys (x0,x1)∧IsSpan (fun s=>d.start.c-s.c) ys (z0,z1))∧But [A+1,A+1+1,R] w6 wr∧∀ s∈ys,s∈L) (fun _ wr=>wr.rangeLeft M R)
   case atStart=>exact⟨[],_,0,0,0,0,hr6,rfl,y1w,y2w,fun h=>absurd rfl h,But.refl _ _,by simp⟩
   case round =>
    obtain⟨ys,cnt,x0,x1,z0,z1,hrg,rfl,gy1,gy2,hsp,hbut,hys⟩:=hrel
    have hleft:=Lib.hid hrg.left_eq
    have hszr2:=hbut.size
    have nwr2:Nx w wr:=hbut.toNx nw6 (by simp;omega)
    have HSP:=Lib.hid hsp
    clear hsp
    gi_wp2_with (first | (refine zcV rfl _ rfl M R n (·∈L) ys cnt rfl hrg ?_ ?_) | gi_in)
    ·intro hall
     have hiff:∀ s,s∈ys↔s∈L:=fun s=>⟨hys s,hall s⟩
     have hyn:ys≠[]:=fun e=>by
      subst e
      exact hMN (List.eq_nil_iff_forall_not_mem.2 fun s hs=>by simpa using hall s hs)
     obtain⟨p1,p2⟩:=HSP.out hyn
     have e1:=Lib.hid (p1.unique (zdK _ hMN) hiff)
     have e2:=Lib.hid (p2.unique (zdK _ hMN) hiff)
     clear p1 p2 hall hrg
     have b1:(!ys.isEmpty)=true:=by cases ys<;>simp at hyn ⊢
     gi_upto_region 19 with fail
     refine zat (Nx wr) 2 (by kernel_rfl) ?_
     obtain⟨Z,G,hN',hG,hG'⟩:=zaC (C:=Nx wr) (x:=wr) (Nx.refl _)
     have t0:=fun z=>(Kc.nx (hG' z)).cell (zaa (i:=0) (v:=num x0) gy1 rfl)
     have t1:=fun z=>(Kc.nx (hG' z)).cell (zaa (i:=1) (v:=num x1) gy1 rfl)
     change Go.wpAnyZ _ _ _ _ _ _ _ _ 5 #[false,false,false,false,false] _ _
     have n7:Nx wr wr.drew:=Nx.drew (Nx.refl wr)
     generalize wr.drew=V7 at n7 ⊢
     refine Go.zqE 0 hG (by kernel_rfl) (fun _ _ _ h=>by cases h.1) rfl ?_;intro o ho K hK;simp at ho;subst ho;gi_big_quiet_op;go_big_quiet_on
     clear t0 t1 hG hG' hN'
     have hv1:=(n7.block (A+1) (by omega)).trans gy1
     have hv2:=(n7.block (A+1+1) (by omega)).trans gy2
     have p0:=zaa (i:=0) (v:=num x0) hv1 rfl
     have p1:=zaa (i:=1) (v:=num x1) hv1 rfl
     have p2:=zaa (i:=0) (v:=num z0) hv2 rfl
     have p3:=zaa (i:=1) (v:=num z1) hv2 rfl
     have q0:=zac (i:=0) hv1
     have q1:=zac (i:=1) hv1
     have q2:=zac (i:=0) hv2
     have q3:=zac (i:=1) hv2
     have nV:Nx w V7:=nwr2.trans n7
     have hb1:=ze4 (num x0) (num x1) (num z0) (num z1) hv1 hv2 (by omega)
     have nF:Nx w ((((V7.setCell ⟨A+1,0,none⟩ (num x0)).setCell ⟨A+1,1,none⟩ (num x1)).setCell ⟨A+1+1,0,none⟩ (num z0)).setCell ⟨A+1+1,1,none⟩ (num z1)):=by
      repeat (refine Nx.set ?_ (by omega))
      exact nV
     have o2:((V7.setCell ⟨A+1,0,none⟩ (num x0)).setCell ⟨A+1,1,none⟩ (num x1)).heap[A+1+1]?=some (.cells #[num z0,num z1] 45 (0,0)):=(zae (by omega)).trans ((zae (by omega)).trans hv2)
     have p4:=zaa (i:=0) (v:=num z0) o2 rfl
     have p5:=zaa (i:=1) (v:=num z1) o2 rfl
     have q4:=zac (i:=0) o2
     have q5:=zac (i:=1) o2
     refine Go.zwE 1 2 (by kernel_rfl) rfl rfl ?_ ?_ ?_;rotate_left;(all_goals (try (intro o ho K hK;simp at ho;subst ho)))
     case' refine_2 =>
      gi_wp2_with fail
      refine Go.zoE 2 (by kernel_rfl) rfl ?_ ?_;rotate_left;intro o ho K hK;simp at ho;subst ho
      gi_wp2_with fail
      refine Go.zoE 3 (by kernel_rfl) rfl ?_ ?_;rotate_left;intro o ho K hK;simp at ho;subst ho
      gi_wp2_with fail
      refine Go.zoE 4 (by kernel_rfl) rfl ?_ ?_;rotate_left;intro o ho K hK;simp at ho;subst ho
      gi_wp2_with fail
      refine zar (by kernel_rfl) (fun h=>absurd h (by decide)) ⟨rfl,?_⟩
     case' refine_3 =>
      gi_wp2_with fail
      refine Go.zoE 1 (by kernel_rfl) rfl ?_ ?_;rotate_left;intro o ho K hK;simp at ho;subst ho
      gi_wp2_with fail
      refine Go.zoE 3 (by kernel_rfl) rfl ?_ ?_;rotate_left;intro o ho K hK;simp at ho;subst ho
      gi_wp2_with fail
      refine Go.zoE 4 (by kernel_rfl) rfl ?_ ?_;rotate_left;intro o ho K hK;simp at ho;subst ho
      gi_wp2_with fail
      refine zar (by kernel_rfl) (fun h=>absurd h (by decide)) ⟨rfl,?_⟩
     all_goals (first | (intro h;first | exact n7 | exact absurd h (by decide)) | skip)
     all_goals
      gi_wp2
      refine bodyPost_ret (zp2 rfl rfl rfl hb1.1 hb1.2) rfl ⟨?_,nF⟩
      rw [HR.out,← e1.out,← e2.out]
    ·intro s v2 w2' cnt' hXs hns hrg2 hlt hg2 hsz2 hen
     have hb2:But [A+1,A+1+1,R] w6 w2':=hbut.trans (But.grown hg2 (by simp))
     have gy1':=(hg2.block (A+1) (by omega) (by simp;omega)).trans gy1
     have gy2':=(hg2.block (A+1+1) (by omega) (by simp;omega)).trans gy2
     clear hrg gy1 gy2 hbut
     gi_upto_region 14 with fail
     generalize hYn:w2'.alloc _=Y
     obtain⟨nY,sY,gY⟩:=al1 hYn
     rw [hsz2] at gY sY
     clear hYn hen
     have SY:=Lib.hid sY
     clear sY
     have hbY:=hb2.trans (But.nx nY:But [A+1,A+1+1,R] w2' Y)
     have hgt:wr.heap.size<Y.heap.size:=by have:=SY.out;omega
     have d3:=hbY.cell (by simp<;>omega) r3
     have d4:=hbY.cell (by simp<;>omega) r4
     have y0:Y.cell? ⟨wr.heap.size,0,none⟩=some (num s.w):=zaa gY rfl
     have y1:Y.cell? ⟨wr.heap.size,1,none⟩=some (num s.c):=zaa gY rfl
     have hv1:=(nY.block (A+1) (by omega)).trans gy1'
     have hv2:=(nY.block (A+1+1) (by omega)).trans gy2'
     have hrgY:=hrg2.kept (nY.grown none) (by simp) (by simp)
     have hsO:=hML s hXs
     have hA1:0≤d.start.w-s.w+5000∧d.start.w-s.w≤5000:=by have:=hsO.w;have:=hst0.w;omega
     have hA2' : 0≤d.start.c-s.c+1000∧d.start.c-s.c≤1000:=by have:=hsO.c;have:=hst0.c;omega
     have nwY:Nx w Y:=hbY.toNx nw6 (by simp;omega)
     have HSW:∃ sw,d.start.w-s.w=sw:=⟨_,rfl⟩
     obtain⟨sw,HSW⟩:=HSW
     have HSC:∃ sc,d.start.c-s.c=sc:=⟨_,rfl⟩
     obtain⟨sc,HSC⟩:=HSC
     clear hgt gy1' gy2' hrg2 hb2 gY nY
     generalize wr.heap.size=T at *
     rw [HSW] at hA1
     rw [HSC] at hA2'
     gi_big_quiet_th (fail)
     have nqV:Nx Y (Y.drewN nq):=(Nx.refl Y).drewN nq
     replace hv1:(Y.drewN nq).heap[A+1]?=some (.cells #[num x0,num x1] 45 (0,0)):=hv1
     replace hv2:(Y.drewN nq).heap[A+1+1]?=some (.cells #[num z0,num z1] 45 (0,0)):=hv2
     clear d3 d4 y0 y1
     generalize Y.drewN nq=V at nqV hv1 hv2 ⊢
     have hbV:=hbY.trans (But.nx nqV:But [A+1,A+1+1,R] Y V)
     have hrgV:=hrgY.kept (nqV.grown none) (by simp) (by simp)
     have nwV:=nwY.trans nqV
     have hYs:A+4≤V.heap.size:=by have:=nqV.size;have:=hbY.size;omega
     cases ys with
     | nil =>
      rw [show (![].isEmpty:Bool)=false from rfl]
      have p0:=zaa (i:=0) (v:=num x0) hv1 rfl
      have p1:=zaa (i:=1) (v:=num x1) hv1 rfl
      have p2:=zaa (i:=0) (v:=num z0) hv2 rfl
      have p3:=zaa (i:=1) (v:=num z1) hv2 rfl
      have q0:=zac (i:=0) hv1
      have q1:=zac (i:=1) hv1
      have q2:=zac (i:=0) hv2
      have q3:=zac (i:=1) hv2
      gi_upto_region 17 with fail
      obtain⟨hs1,hs2⟩:=ze4 (num sw) (num sw) (num sc) (num sc) hv1 hv2 (by omega)
      have hb4:=hbV.trans ((((But.set (a:=V) (b:=A+1) (i:=0) (v:=num sw) (by simp)).trans (But.set (b:=A+1) (i:=1) (v:=num sw) (by simp))).trans (But.set (b:=A+1+1) (i:=0) (v:=num sc) (by simp))).trans (But.set (b:=A+1+1) (i:=1) (v:=num sc) (by simp)))
      have hrgU:=hrgV.blk (w':=(((V.setCell ⟨A+1,0,none⟩ (num sw)).setCell ⟨A+1,1,none⟩ (num sw)).setCell ⟨A+1+1,0,none⟩ (num sc)).setCell ⟨A+1+1,1,none⟩ (num sc)) ((zae (by omega)).trans ((zae (by omega)).trans ((zae (by omega)).trans (zae (by omega))))) ((zae (by omega)).trans ((zae (by omega)).trans ((zae (by omega)).trans (zae (by omega)))))
      clear p0 p1 p2 p3 q0 q1 q2 q3
      generalize (((V.setCell ⟨A+1,0,none⟩ (num sw)).setCell ⟨A+1,1,none⟩ (num sw)).setCell ⟨A+1+1,0,none⟩ (num sc)).setCell ⟨A+1+1,1,none⟩ (num sc)=V4 at hs1 hs2 hb4 hrgU ⊢
      have p0:=zaa (i:=0) (v:=num sw) hs1 rfl
      have p1:=zaa (i:=1) (v:=num sw) hs1 rfl
      have p2:=zaa (i:=0) (v:=num sc) hs2 rfl
      have p3:=zaa (i:=1) (v:=num sc) hs2 rfl
      have q0:=zac (i:=0) hs1
      have q1:=zac (i:=1) hs1
      have q2:=zac (i:=0) hs2
      have q3:=zac (i:=1) hs2
      gi_upto_region 18 with fail
      have gs1:=set2 (v0:=num sw) (v1:=num sw) hs1
      have gs2:=(zae (i:=1) (v:=num sw) (show A+1+1≠A+1 by omega)).trans ((zae (i:=0) (v:=num sw) (show A+1+1≠A+1 by omega)).trans hs2)
      have hbS:=hb4.trans ((But.set (a:=V4) (b:=A+1) (i:=0) (v:=num sw) (by simp)).trans (But.set (b:=A+1) (i:=1) (v:=num sw) (by simp)))
      have hrS:=(hrgU).blk (w':=(V4.setCell ⟨A+1,0,none⟩ (num sw)).setCell ⟨A+1,1,none⟩ (num sw)) ((zae (by omega)).trans (zae (by omega))) ((zae (by omega)).trans (zae (by omega)))
      clear p0 p1 p2 p3 q0 q1 q2 q3
      generalize (V4.setCell ⟨A+1,0,none⟩ (num sw)).setCell ⟨A+1,1,none⟩ (num sw)=S1 at gs1 gs2 hbS hrS ⊢
      have p2:=zaa (i:=0) gs2 rfl
      have p3:=zaa (i:=1) gs2 rfl
      have q2:=zac (i:=0) gs2
      have q3:=zac (i:=1) gs2
      gi_wp2
      have gt2:=set2 (v0:=num sc) (v1:=num sc) gs2
      have gt1:=(zae (i:=1) (v:=num sc) (show A+1≠A+1+1 by omega)).trans ((zae (i:=0) (v:=num sc) (show A+1≠A+1+1 by omega)).trans gs1)
      have hbT:=hbS.trans ((But.set (a:=S1) (b:=A+1+1) (i:=0) (v:=num sc) (by simp)).trans (But.set (b:=A+1+1) (i:=1) (v:=num sc) (by simp)))
      have hrT:=hrS.blk (w':=(S1.setCell ⟨A+1+1,0,none⟩ (num sc)).setCell ⟨A+1+1,1,none⟩ (num sc)) ((zae (by omega)).trans (zae (by omega))) ((zae (by omega)).trans (zae (by omega)))
      have hml:=hrT.left_eq
      exact⟨⟨[s],cnt',_,_,_,_,hrT,rfl,gt1,gt2,fun _=>⟨by rw [← HSW];exact IsSpan.one _ s,by rw [← HSC];exact IsSpan.one _ s⟩,hbT,fun t ht=>by
       rw [List.mem_singleton.1 ht];exact hXs⟩,by rw [hml,hleft.out];exact hlt⟩
     | cons yy ys =>
      rw [show (!(yy :: ys).isEmpty:Bool)=true from rfl]
      have hrgU:=hrgV
      have p0:=zaa (i:=0) (v:=num x0) hv1 rfl
      have p1:=zaa (i:=1) (v:=num x1) hv1 rfl
      have p2:=zaa (i:=0) (v:=num z0) hv2 rfl
      have p3:=zaa (i:=1) (v:=num z1) hv2 rfl
      have q0:=zac (i:=0) hv1
      have q1:=zac (i:=1) hv1
      have q2:=zac (i:=0) hv2
      have q3:=zac (i:=1) hv2
      gi_upto_region 18 with fail
      have gs1:=set2 (v0:=num (if sw<x0 then sw else x0)) (v1:=num (if x1<sw then sw else x1)) hv1
      have gs2:=(zae (i:=1) (v:=num (if x1<sw then sw else x1)) (show A+1+1≠A+1 by omega)).trans ((zae (i:=0) (v:=num (if sw<x0 then sw else x0)) (show A+1+1≠A+1 by omega)).trans hv2)
      have hbS:=(hbV).trans ((But.set (a:=V) (b:=A+1) (i:=0) (v:=num (if sw<x0 then sw else x0)) (by simp)).trans (But.set (b:=A+1) (i:=1) (v:=num (if x1<sw then sw else x1)) (by simp)))
      have hrS:=(hrgU).blk (w':=(V.setCell ⟨A+1,0,none⟩ (num (if sw<x0 then sw else x0))).setCell ⟨A+1,1,none⟩ (num (if x1<sw then sw else x1))) ((zae (by omega)).trans (zae (by omega))) ((zae (by omega)).trans (zae (by omega)))
      clear p0 p1 p2 p3 q0 q1 q2 q3
      generalize (V.setCell ⟨A+1,0,none⟩ (num (if sw<x0 then sw else x0))).setCell ⟨A+1,1,none⟩ (num (if x1<sw then sw else x1))=S1 at gs1 gs2 hbS hrS ⊢
      have p2:=zaa (i:=0) gs2 rfl
      have p3:=zaa (i:=1) gs2 rfl
      have q2:=zac (i:=0) gs2
      have q3:=zac (i:=1) gs2
      gi_wp2
      have gt2:=set2 (v0:=num (if sc<z0 then sc else z0)) (v1:=num (if z1<sc then sc else z1)) gs2
      have gt1:=(zae (i:=1) (v:=num (if z1<sc then sc else z1)) (show A+1≠A+1+1 by omega)).trans ((zae (i:=0) (v:=num (if sc<z0 then sc else z0)) (show A+1≠A+1+1 by omega)).trans gs1)
      have hbT:=hbS.trans ((But.set (a:=S1) (b:=A+1+1) (i:=0) (v:=num (if sc<z0 then sc else z0)) (by simp)).trans (But.set (b:=A+1+1) (i:=1) (v:=num (if z1<sc then sc else z1)) (by simp)))
      have hrT:=hrS.blk (w':=(S1.setCell ⟨A+1+1,0,none⟩ (num (if sc<z0 then sc else z0))).setCell ⟨A+1+1,1,none⟩ (num (if z1<sc then sc else z1))) ((zae (by omega)).trans (zae (by omega))) ((zae (by omega)).trans (zae (by omega)))
      have hml:=hrT.left_eq
      exact⟨⟨s :: yy :: ys,cnt',_,_,_,_,hrT,rfl,gt1,gt2,fun _=>⟨znU (HSP.out (by simp)).1 HSW,znU (HSP.out (by simp)).2 HSC⟩,hbT,fun t ht=>by
       rcases List.mem_cons.1 ht with rfl | ht
       ·exact hXs
       ·exact hys t ht⟩,by rw [hml,hleft.out];exact hlt⟩
end Go.Proofs.Ytedomogjmhommaa
