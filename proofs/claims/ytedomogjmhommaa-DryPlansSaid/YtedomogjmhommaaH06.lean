import Derived.Test.YtedomogjmhommaaH05
set_option linter.all false
set_option maxRecDepth 100000
set_option maxHeartbeats 8000000
namespace Go.Proofs.Ytedomogjmhommaa
open Go.RowKit Go.Shelf
attribute [local go_sem] Oper.semAt_some
theorem set7 {w:World} {b:Nat} {e:TypeId} {fz:Nat×Nat} {x0 x1 x2 x3 x4 x5 x6 v0 v1 v2 v3 v4 v5 v6:Value} (h:w.heap[b]?=some (.cells #[x0,x1,x2,x3,x4,x5,x6] e fz)):(((((((w.setCell ⟨b,0,none⟩ v0).setCell ⟨b,1,none⟩ v1).setCell ⟨b,2,none⟩ v2).setCell ⟨b,3,none⟩ v3).setCell ⟨b,4,none⟩ v4).setCell ⟨b,5,none⟩ v5).setCell ⟨b,6,none⟩ v6).heap[b]?=some (.cells #[v0,v1,v2,v3,v4,v5,v6] e fz):=by
 have h0:(w.setCell ⟨b,0,none⟩ v0).heap[b]?=some (.cells #[v0,x1,x2,x3,x4,x5,x6] e fz):=by simpa using zaA (i:=0) (v:=v0) h
 have h1:((w.setCell ⟨b,0,none⟩ v0).setCell ⟨b,1,none⟩ v1).heap[b]?=some (.cells #[v0,v1,x2,x3,x4,x5,x6] e fz):=by simpa using zaA (i:=1) (v:=v1) h0
 have h2:(((w.setCell ⟨b,0,none⟩ v0).setCell ⟨b,1,none⟩ v1).setCell ⟨b,2,none⟩ v2).heap[b]?=some (.cells #[v0,v1,v2,x3,x4,x5,x6] e fz):=by simpa using zaA (i:=2) (v:=v2) h1
 have h3:((((w.setCell ⟨b,0,none⟩ v0).setCell ⟨b,1,none⟩ v1).setCell ⟨b,2,none⟩ v2).setCell ⟨b,3,none⟩ v3).heap[b]?=some (.cells #[v0,v1,v2,v3,x4,x5,x6] e fz):=by simpa using zaA (i:=3) (v:=v3) h2
 have h4:(((((w.setCell ⟨b,0,none⟩ v0).setCell ⟨b,1,none⟩ v1).setCell ⟨b,2,none⟩ v2).setCell ⟨b,3,none⟩ v3).setCell ⟨b,4,none⟩ v4).heap[b]?=some (.cells #[v0,v1,v2,v3,v4,x5,x6] e fz):=by simpa using zaA (i:=4) (v:=v4) h3
 have h5:((((((w.setCell ⟨b,0,none⟩ v0).setCell ⟨b,1,none⟩ v1).setCell ⟨b,2,none⟩ v2).setCell ⟨b,3,none⟩ v3).setCell ⟨b,4,none⟩ v4).setCell ⟨b,5,none⟩ v5).heap[b]?=some (.cells #[v0,v1,v2,v3,v4,v5,x6] e fz):=by simpa using zaA (i:=5) (v:=v5) h4
 have h6:(((((((w.setCell ⟨b,0,none⟩ v0).setCell ⟨b,1,none⟩ v1).setCell ⟨b,2,none⟩ v2).setCell ⟨b,3,none⟩ v3).setCell ⟨b,4,none⟩ v4).setCell ⟨b,5,none⟩ v5).setCell ⟨b,6,none⟩ v6).heap[b]?=some (.cells #[v0,v1,v2,v3,v4,v5,v6] e fz):=by simpa using zaA (i:=6) (v:=v6) h5
 exact h6
theorem zkg (d:Dry) (hO:d.Ok) (Bo Bk Bc B M:Nat) (k j:Nat) (x:Stp) (hx:d.steps[k]?=some x) (ih:HY d Bo Bk Bc B M (k+1) j):HY d Bo Bk Bc B M k (j+1):=by
 intro s w n hs hc hM hn
 have hkl:k<d.steps.length:=(List.getElem?_eq_some_iff.1 hx).1
 have hdr:d.steps.drop k=x :: d.steps.drop (k+1):=by
  rw [List.drop_eq_getElem_cons hkl]
  congr 1
  rw [List.getElem?_eq_getElem hkl] at hx
  exact Option.some.inj hx
 have hs5:=hO.s5
 have hst:=hO.st x (List.mem_of_getElem? hx)
 have hh4:=hO.h4
 have hcal:calls (j+1)=1+16 * calls j:=rfl
 obtain⟨l,hl⟩:=zri (k:=(k:Int)) (by unfold I64;omega) (hs.i hh4.2)
 obtain⟨v,c7,hsl⟩:=hc.st.stages
 obtain⟨a,cap,rfl⟩:=hsl.cases
 rw [List.length_map] at c7 hsl
 obtain⟨b,off,rfl,hbl,hcl⟩:=hsl.get (by simp;omega)
 have e0:w.cell? ⟨b,off+k * 7,none⟩=some (num x.lo):=Sl.at hcl (Nx.refl w) hbl hx 0 (v:=num x.lo) rfl
 have e1:w.cell? ⟨b,off+k * 7+1,none⟩=some (num x.hi):=Sl.at hcl (Nx.refl w) hbl hx 1 (v:=num x.hi) rfl
 have e2:w.cell? ⟨b,off+k * 7+2,none⟩=some (.bool x.tended):=Sl.at hcl (Nx.refl w) hbl hx 2 (v:=.bool x.tended) rfl
 have e3:w.cell? ⟨b,off+k * 7+3,none⟩=some (num x.wlo):=Sl.at hcl (Nx.refl w) hbl hx 3 (v:=num x.wlo) rfl
 have e4:w.cell? ⟨b,off+k * 7+4,none⟩=some (num x.whi):=Sl.at hcl (Nx.refl w) hbl hx 4 (v:=num x.whi) rfl
 have e5:w.cell? ⟨b,off+k * 7+5,none⟩=some (num x.col):=Sl.at hcl (Nx.refl w) hbl hx 5 (v:=num x.col) rfl
 have e6:w.cell? ⟨b,off+k * 7+6,none⟩=some (num d.heats.length):=Sl.at hcl (Nx.refl w) hbl hx 6 (v:=num d.heats.length) rfl
 clear hcl
 have co:=hc.o
 have ck:=hc.k
 obtain⟨hv,ch,hsh⟩:=hc.st.heats
 obtain⟨ha',hcap',rfl⟩:=hsh.cases
 rw [List.length_map] at ch
 have hbB:=hc.st.lt
 obtain⟨D,hown,hmem⟩:=hM
 have hM:Memo w M d n:=⟨D,hown,hmem⟩
 apply anyN (n:=4)
 refine callsIn_of_wp_marks Try.func90 rfl trivial ?_ rfl
 simp only [Try.ntmps90,List.size_toArray,List.length_cons,List.length_nil,Nat.reduceAdd,Nat.reduceSub,Array.replicate_succ,Array.replicate_zero,List.push_toArray,List.append_toArray,List.nil_append,List.cons_append]
 gi_upto_region 1 with fail
 refine zh8 (fun _ _ _ h=>h) ?_
 gi_upto_region 1 with fail
 generalize hW:w.alloc _=W
 obtain⟨nW,sW,g0⟩:=al1 hW
 have kW:=Kc.nx nW
 have p0:W.cell? ⟨w.heap.size,0,none⟩=some (num k):=zaa g0 rfl
 have p1:W.cell? ⟨w.heap.size,1,none⟩=some (num s.w):=zaa g0 rfl
 have p2:W.cell? ⟨w.heap.size,2,none⟩=some (num s.c):=zaa g0 rfl
 have p3:W.cell? ⟨w.heap.size,3,none⟩=some (num s.h):=zaa g0 rfl
 have q7:=kW.cell c7
 have qo:=kW.cell co
 have qk:=kW.cell ck
 have qh:=kW.cell ch
 have hkne:((k:Int) == (d.steps.length:Int))=false:=beq_false_of_ne (by omega)
 have hownW:W.ownsMap Try.prog 94 (plainElem Try.prog 3) M n D:=hown.kept (nW.grown none) (by simp)
 clear hW g0
 gi_big_quiet_th (fail)
 have hownV:(W.drewN nq).ownsMap Try.prog 94 (plainElem Try.prog 3) M n D:=hownW
 have nV:Nx w (W.drewN nq):=nW.drewN nq
 have kV:Kc W (W.drewN nq):=Kc.nx ((Nx.refl W).drewN nq)
 have szV:(W.drewN nq).heap.size=w.heap.size+1:=sW
 generalize W.drewN nq=V at hownV nV kV szV ⊢
 have p0:=kV.cell p0
 have p1:=kV.cell p1
 have p2:=kV.cell p2
 have p3:=kV.cell p3
 have q7:=kV.cell q7
 have qo:=kV.cell qo
 have qk:=kV.cell qk
 have qh:=kV.cell qh
 clear kV kW nW hownW sW
 generalize hA:w.heap.size=A at *
 have hm0:=Lib.hid hmem
 clear hmem
 cases hhas:Maps.has D l with
 | true =>
  have hval:=Lib.hid (hm0.out k s l hkl hs hl hhas)
  gi_wp2_with (first | (gi_at_lookup;refine wpListIn_lookup_own_ok_int _ rfl _ _ 141 rfl 94 3 .i64 K94 Try.underlying141 Try.underlying3 (zqU _) M n D rfl hownV _ l rfl hl ?_;intro c hat hwc;rw [hhas]) | gi_in)
  have hce:c=chooseS d (d.steps.drop k) s:=by
   have:=hat.symm.trans hval.out
   simpa using this
  exact⟨_,results_tmp rfl _ _ _,by rw [hce]<;>rfl,nV.grown _,n,by omega,hM.nx nV⟩
 | false =>
  gi_upto_region 6 with (first | (gi_at_lookup;refine wpListIn_lookup_own_ok_int _ rfl _ _ 141 rfl 94 3 .i64 K94 Try.underlying141 Try.underlying3 (zqU _) M n D rfl hownV _ l rfl hl ?_;intro c hat hwc;rw [hhas]) | gi_in)
  clear hat hwc
  have kv:=Kc.nx nV
  have e0:=kv.cell e0
  have e1:=kv.cell e1
  have e2:=kv.cell e2
  have e3:=kv.cell e3
  have e4:=kv.cell e4
  have e5:=kv.cell e5
  have e6:=kv.cell e6
  have lt_of:∀ {W:World} {b i:Nat} {v:Value},W.cell? ⟨b,i,none⟩=some v→b<W.heap.size:=fun h=>by
   obtain⟨o,ho,_⟩:=cells_of_cell h
   exact (Array.getElem?_eq_some_iff.1 ho).1
  have l1:=lt_of qo
  have l2:=lt_of q7
  have l3:=lt_of e0
  have l4:=lt_of p0
  refine zat (Same [Bo,B,b,A] V) 9 (by kernel_rfl) ?_
  obtain⟨Z,G,hN,hG,hG'⟩:=zaC (C:=Same [Bo,B,b,A] V) (x:=V) (fun _ _=>rfl)
  have r0:=fun z=>(hG' z).cell (by simp) e0
  have r1:=fun z=>(hG' z).cell (by simp) e1
  have r2:=fun z=>(hG' z).cell (by simp) e2
  have r3:=fun z=>(hG' z).cell (by simp) e3
  have r4:=fun z=>(hG' z).cell (by simp) e4
  have r5:=fun z=>(hG' z).cell (by simp) e5
  have r6:=fun z=>(hG' z).cell (by simp) e6
  have t0:=fun z=>(hG' z).cell (by simp) p0
  have t1:=fun z=>(hG' z).cell (by simp) qo
  have t2:=fun z=>(hG' z).cell (by simp) q7
  change Go.wpAnyZ _ _ _ _ _ _ _ _ 10 #[false,false,false,false,false,false,false,false,false,false] _ _
  obtain⟨n1,s1⟩:Nx V V.drew∧V.drew.heap.size=V.heap.size:=⟨Nx.drew (Nx.refl V),rfl⟩
  generalize V.drew=V1 at n1 s1 ⊢
  refine Go.zqE 0 hG (by kernel_rfl) (fun _ _ _ h=>by cases h.1) rfl ?_;intro o ho K hK;simp at ho;subst ho;gi_big_quiet_op;go_big_quiet_on
  refine Go.ztE 1 (by kernel_rfl) (fun _ _ _ h=>by cases h.1) ?_;intro o ho;simp at ho;subst ho;refine⟨_,Go.yC_nil rfl,?_⟩;simp only [Go.Act.put,List.setIfInBounds_toArray,List.set_cons_succ,List.set_cons_zero]
  refine Go.zqE 2 hG (by kernel_rfl) (fun _ _ _ h=>by cases h.1) rfl ?_;intro o ho K hK;simp at ho;subst ho;gi_big_quiet_op;go_big_quiet_on
  refine Go.zqE 3 hG (by kernel_rfl) (fun _ _ _ h=>by cases h.1) rfl ?_;intro o ho K hK;simp at ho;subst ho;gi_big_quiet_op;go_big_quiet_on
  refine Go.zqE 4 hG (by kernel_rfl) (fun _ _ _ h=>by cases h.1) rfl ?_;intro o ho K hK;simp at ho;subst ho;gi_big_quiet_op;go_big_quiet_on
  refine Go.zqE 5 hG (by kernel_rfl) (fun _ _ _ h=>by cases h.1) rfl ?_;intro o ho K hK;simp at ho;subst ho;gi_big_quiet_op;go_big_quiet_on
  refine Go.zqE 6 hG (by kernel_rfl) (fun _ _ _ h=>by cases h.1) rfl ?_;intro o ho K hK;simp at ho;subst ho;gi_big_quiet_op;go_big_quiet_on
  refine Go.zqE 7 hG (by kernel_rfl) (fun _ _ _ h=>by cases h.1) rfl ?_;intro o ho K hK;simp at ho;subst ho;gi_big_quiet_op;go_big_quiet_on
  have hC0:Same [Bo,B,b,A] V V1:=fun b' hb=>n1.block b' (by simp at hb;omega)
  refine Go.zoE 8 (by kernel_rfl) rfl ?_ ?_;rotate_left;intro o ho K hK;simp at ho;subst ho
  gi_wp2_with fail
  generalize hUn:V1.alloc _=U
  obtain⟨nU,sU,gU⟩:=al1 hUn
  have hC1:Same [Bo,B,b,A] V U:=fun b' hb=>(n1.trans nU).block b' (by simp at hb;omega)
  clear hUn r0 r1 r2 r3 r4 r5 r6 t0 t1 t2
  rw [s1,szV] at gU sU
  have y0:=zaa (i:=0) gU rfl
  have y1:=zaa (i:=1) gU rfl
  have y2:=zaa (i:=2) gU rfl
  have y3:=zaa (i:=3) gU rfl
  have y4:=zaa (i:=4) gU rfl
  have y5:=zaa (i:=5) gU rfl
  have y6:=zaa (i:=6) gU rfl
  have f0:=zac (i:=0) gU
  have f1:=zac (i:=1) gU
  have f2:=zac (i:=2) gU
  have f3:=zac (i:=3) gU
  have f4:=zac (i:=4) gU
  have f5:=zac (i:=5) gU
  have f6:=zac (i:=6) gU
  refine Go.zoE 9 (by kernel_rfl) rfl ?_ ?_;rotate_left;intro o ho K hK;simp at ho;subst ho
  gi_wp2_with fail
  refine zar (by kernel_rfl) (fun h=>absurd h (by decide)) ⟨rfl,?_⟩
  all_goals (try exact fun _=>by assumption)
  have gX:=set7 (v0:=num x.lo) (v1:=num x.hi) (v2:=.bool x.tended) (v3:=num x.wlo) (v4:=num x.whi) (v5:=num x.col) (v6:=num d.heats.length) gU
  have nT:Nx V (((((((U.setCell ⟨A+1,0,none⟩ (num x.lo)).setCell ⟨A+1,1,none⟩ (num x.hi)).setCell ⟨A+1,2,none⟩ (.bool x.tended)).setCell ⟨A+1,3,none⟩ (num x.wlo)).setCell ⟨A+1,4,none⟩ (num x.whi)).setCell ⟨A+1,5,none⟩ (num x.col)).setCell ⟨A+1,6,none⟩ (num d.heats.length)):=by
   repeat (refine Nx.set ?_ (by omega))
   exact n1.trans nU
  generalize (((((((U.setCell ⟨A+1,0,none⟩ (num x.lo)).setCell ⟨A+1,1,none⟩ (num x.hi)).setCell ⟨A+1,2,none⟩ (.bool x.tended)).setCell ⟨A+1,3,none⟩ (num x.wlo)).setCell ⟨A+1,4,none⟩ (num x.whi)).setCell ⟨A+1,5,none⟩ (num x.col)).setCell ⟨A+1,6,none⟩ (num d.heats.length))=T at gX nT ⊢
  have szT:A+2≤T.heap.size:=by have:=zav gX;omega
  have nwT:=nV.trans nT
  clear hC0 hC1 y0 y1 y2 y3 y4 y5 y6 f0 f1 f2 f3 f4 f5 f6 gU nU sU n1 s1 hG hG' hN e0 e1 e2 e3 e4 e5 e6
  have kT:=Kc.nx nT
  have p0:=kT.cell p0
  have p1:=kT.cell p1
  have p2:=kT.cell p2
  have p3:=kT.cell p3
  have qo:=kT.cell qo
  have qk:=kT.cell qk
  have qh:=kT.cell qh
  have x0:T.cell? ⟨A+1,0,none⟩=some (num x.lo):=zaa gX rfl
  have x1:T.cell? ⟨A+1,1,none⟩=some (num x.hi):=zaa gX rfl
  have x2:T.cell? ⟨A+1,2,none⟩=some (.bool x.tended):=zaa gX rfl
  have x3:T.cell? ⟨A+1,3,none⟩=some (num x.wlo):=zaa gX rfl
  have x4:T.cell? ⟨A+1,4,none⟩=some (num x.whi):=zaa gX rfl
  have x5:T.cell? ⟨A+1,5,none⟩=some (num x.col):=zaa gX rfl
  have x6:T.cell? ⟨A+1,6,none⟩=some (num d.heats.length):=zaa gX rfl
  have hcT:=hc.kc (Kc.nx nwT)
  have hMT:=hM.nx nwT
  clear kT gX
  gi_wp2
  refine wpIn_label ?_
  gi_wp2
  clear co ck ch c7 hown hownV
  have p3':=Lib.hid p3
  have hM0:=Lib.hid hMT
  have hC0:=Lib.hid hcT
  obtain⟨esT,clT,hmapT⟩:=hMT.map
  refine wpIn_loop (fun a' w'=>∃ ds u9 u10 u11 u12 u43 u44 u45 u46 u47 u48 u49 u50 u51 u52 u53 u54 u55 u57 u58 u59 u60 u61 u62 u63 u64 u65 u66 u67 u68 u69 u70 u71 u72 u73 u74 u75 u76 u77 u78 u79,(∃ h,h≤List.length (Go.Proofs.Ytedomogjmhommaa.Dry.heats d)∧u43=Go.Proofs.Ytedomogjmhommaa.num ↑h∧u9=Go.Proofs.Ytedomogjmhommaa.num (-1)∧Go.World.grownBy T w' (Option.some M)∧(∃ n',n'≤n+h * (4 * Go.Proofs.Ytedomogjmhommaa.calls j)∧Go.Proofs.Ytedomogjmhommaa.Memo w' M d n')∧Go.Proofs.Ytedomogjmhommaa.Marks (Array.size (Go.World.heap T)) ds w'∧∀ (h' : Nat),h' < h→Go.Proofs.Ytedomogjmhommaa.goodS d (Go.Proofs.Ytedomogjmhommaa.chooseS d (List.drop (k+1) (Go.Proofs.Ytedomogjmhommaa.Dry.steps d))) x s h'=Bool.false)∧a'={ tmps:=(List.toArray ((Go.Proofs.Ytedomogjmhommaa.plV (↑k) s) :: (Go.Proofs.Ytedomogjmhommaa.ptr Bo) :: (Go.Proofs.Ytedomogjmhommaa.ptr Bk) :: (Go.Proofs.Ytedomogjmhommaa.ptr Bc) :: (Go.Value.pointer (Option.some { block:=A,off:=0 })) :: (Go.Value.int Go.IntKind.i64 0) :: (Go.Value.int Go.IntKind.i64 c) :: (Go.Value.bool Bool.false) :: (Go.Value.pointer (Option.some { block:=A+1,off:=0 })) :: u9 :: u10 :: u11 :: u12 :: (Go.Value.pointer (Option.some { block:=A,off:=0 })) :: (Go.Proofs.Ytedomogjmhommaa.num ↑k) :: (Go.Proofs.Ytedomogjmhommaa.ptr B) :: (Go.Value.pointer (Option.some { block:=B,off:=0 })) :: (Go.Value.pointer (Option.some { block:=B,off:=7 })) :: (Go.Value.slice (Option.some { block:=b,off:=off }) (List.length (Go.Proofs.Ytedomogjmhommaa.Dry.steps d)) cap) :: (Go.Value.int Go.IntKind.i64 ↑(List.length (Go.Proofs.Ytedomogjmhommaa.Dry.steps d))) :: (Go.Value.bool Bool.false) :: (Go.Value.tuple #[Go.Value.int Go.IntKind.i64 c,Go.Value.bool Bool.false]) :: (Go.Value.map (Option.some M)) :: (Go.Value.agg #[Go.Proofs.Ytedomogjmhommaa.num ↑k,Go.Proofs.Ytedomogjmhommaa.num (Go.Proofs.Ytedomogjmhommaa.St.w s),Go.Proofs.Ytedomogjmhommaa.num (Go.Proofs.Ytedomogjmhommaa.St.c s),Go.Proofs.Ytedomogjmhommaa.num (Go.Proofs.Ytedomogjmhommaa.St.h s)]) :: (Go.Value.tuple #[Go.Value.int Go.IntKind.i64 c,Go.Value.bool Bool.false]) :: (Go.Value.int Go.IntKind.i64 c) :: (Go.Value.bool Bool.false) :: (Go.Value.bool Bool.false) :: Go.undef :: (Go.Proofs.Ytedomogjmhommaa.ptr B) :: (Go.Value.pointer (Option.some { block:=B,off:=0 })) :: (Go.Value.pointer (Option.some { block:=B,off:=7 })) :: (Go.Value.slice (Option.some { block:=b,off:=off }) (List.length (Go.Proofs.Ytedomogjmhommaa.Dry.steps d)) cap) :: (Go.Value.pointer (Option.some { block:=A,off:=0 })) :: (Go.Proofs.Ytedomogjmhommaa.num ↑k) :: (Go.Value.pointer (Option.some { block:=b,off:=off+k * 7 })) :: (Go.Value.agg #[Go.Proofs.Ytedomogjmhommaa.num (Go.Proofs.Ytedomogjmhommaa.Stp.lo x),Go.Proofs.Ytedomogjmhommaa.num (Go.Proofs.Ytedomogjmhommaa.Stp.hi x),Go.Value.bool (Go.Proofs.Ytedomogjmhommaa.Stp.tended x),Go.Proofs.Ytedomogjmhommaa.num (Go.Proofs.Ytedomogjmhommaa.Stp.wlo x),Go.Proofs.Ytedomogjmhommaa.num (Go.Proofs.Ytedomogjmhommaa.Stp.whi x),Go.Proofs.Ytedomogjmhommaa.num (Go.Proofs.Ytedomogjmhommaa.Stp.col x),Go.Proofs.Ytedomogjmhommaa.num ↑(List.length (Go.Proofs.Ytedomogjmhommaa.Dry.heats d))]) :: (Go.Proofs.Ytedomogjmhommaa.ptr B) :: (Go.Value.pointer (Option.some { block:=B,off:=0 })) :: (Go.Value.pointer (Option.some { block:=B,off:=0 })) :: (Go.Value.pointer (Option.some { block:=B,off:=0 })) :: (Go.Value.slice ha' (List.length (Go.Proofs.Ytedomogjmhommaa.Dry.heats d)) hcap') :: (Go.Value.int Go.IntKind.i64 ↑(List.length (Go.Proofs.Ytedomogjmhommaa.Dry.heats d))) :: u43 :: u44 :: u45 :: u46 :: u47 :: u48 :: u49 :: u50 :: u51 :: u52 :: u53 :: u54 :: u55 :: Go.undef :: u57 :: u58 :: u59 :: u60 :: u61 :: u62 :: u63 :: u64 :: u65 :: u66 :: u67 :: u68 :: u69 :: u70 :: u71 :: u72 :: u73 :: u74 :: u75 :: u76 :: u77 :: u78 :: u79 :: Go.undef :: Go.undef :: Go.undef :: Go.undef :: [])),defers:=ds }) (fun a' w'=>List.length (Go.Proofs.Ytedomogjmhommaa.Dry.heats d)-Int.toNat (Go.RowKit.intOf (Array.getD (Go.Act.tmps a') 43 Go.undef))) ?atStart ?round
  case atStart=>(repeat apply Exists.intro);refine⟨?_,rfl⟩;exact⟨0,Nat.zero_le _,rfl,rfl,⟨rfl,rfl,rfl,Nat.le_refl _,fun _ _ _=>rfl⟩,⟨n,by omega,hMT⟩,Marks.nil _ _,fun h' hh=>absurd hh (Nat.not_lt_zero _)⟩
  case round =>
   rintro _ wr ⟨ds,u9,u10,u11,u12,u43,u44,u45,u46,u47,u48,u49,u50,u51,u52,u53,u54,u55,u57,u58,u59,u60,u61,u62,u63,u64,u65,u66,u67,u68,u69,u70,u71,u72,u73,u74,u75,u76,u77,u78,u79,hrel,rfl⟩;try dsimp only
   obtain⟨h,hhl,rfl,rfl,hgr,⟨n1,hn1,hM1⟩,hmk,hbad⟩:=hrel
   have kr:=Kc.map hgr hmapT
   have hn16:h * (4 * calls j)≤16 * calls j:=by
    have:=Nat.mul_le_mul_right (4 * calls j) (show h≤4 by omega)
    omega
   have hn2:n1≤n+16 * calls j:=by omega
   have hmx:n1<maxLen:=by unfold maxLen;omega
   by_cases hlt:h<d.heats.length
   ·have hhs:d.heats[h]?=some d.heats[h]:=List.getElem?_eq_getElem hlt
    have hat1:zaM d h=d.heats[h]:=by unfold zaM;rw [hhs];rfl
    generalize d.heats[h]=hv at hhs hat1
    have hn4:n1+4 * calls j≤n+16 * calls j:=by
     have:=Nat.mul_le_mul_right (4 * calls j) (show h+1≤4 by omega)
     rw [Nat.add_mul] at this
     omega
    have HB:=Lib.hid hbad
    clear hbad
    gi_upto_region 11 with fail
    generalize hYn:wr.alloc _=Y
    obtain⟨nY,sY,gY⟩:=al1 hYn
    have hH:Y.cell? ⟨wr.heap.size,0,none⟩=some (num h):=zaa gY rfl
    clear hYn gY
    have ky:=kr.trans (Kc.nx nY)
    have r0:=ky.cell p0
    have r1:=ky.cell p1
    have r2:=ky.cell p2
    have r3:=ky.cell p3
    have ro:=ky.cell qo
    have rk:=ky.cell qk
    have z0:=ky.cell x0
    have z1:=ky.cell x1
    have z2:=ky.cell x2
    have z3:=ky.cell x3
    have z4:=ky.cell x4
    have z5:=ky.cell x5
    have z6:=ky.cell x6
    have k91:=fun (w1:World)=>zkz d.heats.length x s.h h w1 (by omega) (by have:=hs.h;omega)
    cases hmay:mayB d.heats.length x s.h h with
    | false =>
     have HG:Hid (goodS d (chooseS d (d.steps.drop (k+1))) x s h=false):=by show _=_;unfold goodS;rw [hmay];rfl
     rw [hmay] at k91
     gi_wp2_with (first | (gi_at_call 91;refine CallsIn.mono (anyN (k91 _)) ?_;rintro e w2 ⟨rfl,n2⟩) | gi_in)
     have n2:=nY.trans n2
     refine⟨?_,?measure⟩
     repeat apply Exists.intro
     refine⟨?rel,rfl⟩
     case rel =>
      refine⟨h+1,?_⟩
      exact⟨ by omega,by simp,rfl,zil hgr n2,⟨n1,by rw [Nat.add_mul];omega,hM1.nx n2⟩,hmk.nx n2,fun h' hh=>by
       rcases Nat.lt_succ_iff_lt_or_eq.1 hh with hh | rfl
       ·exact HB.out h' hh
       ·exact HG.out⟩
     case measure=>simp [intOf];omega
    | true =>
     rw [hmay] at k91
     gi_upto_region 12 with (first | (gi_at_call 91;refine CallsIn.mono (anyN (k91 _)) ?_;rintro e w2 ⟨rfl,n2⟩) | gi_in)
     have ky2:=ky.trans (Kc.nx n2)
     have hH:=(Kc.nx n2).cell hH
     have nY2:=nY.trans n2
     have hM2:=hM1.nx nY2
     have hgr2:=zil hgr nY2
     have hmk2:=hmk.nx nY2
     clear z0 z1 z2 z3 z4 z5 z6 r0 r1 r2 r3 ro rk k91
     have z0:=ky2.cell x0
     have z1:=ky2.cell x1
     have z2:=ky2.cell x2
     have z3:=ky2.cell x3
     have z4:=ky2.cell x4
     have z5:=ky2.cell x5
     have k60:=fun (w1:World)=>zeH x w1
     gi_wp2_with (first | (gi_at_call 60;refine CallsIn.mono (anyN (k60 _)) ?_;rintro e w4 ⟨rfl,hw4⟩;replace hw4:=hw4.symm;subst hw4) | gi_in)
     generalize hXn:w2.alloc _=X
     obtain⟨nX,sX,gX⟩:=al1 hXn
     have b0:X.cell? ⟨w2.heap.size,0,none⟩=some (num x.lo):=zaa gX rfl
     have b1:X.cell? ⟨w2.heap.size,1,none⟩=some (num x.hi):=zaa gX rfl
     clear hXn gX z0 z1 z2 z3 z4 z5
     have hMX:=hM2.nx nX
     have hgX:=zil hgr2 nX
     have hmX:=hmk2.nx nX
     have kX:=ky2.trans (Kc.nx nX)
     have hHX:=(Kc.nx nX).cell hH
     have hlX:w2.heap.size<X.heap.size:=by omega
     generalize w2.heap.size=Bw at *
     obtain⟨esX,clX,hmapX⟩:=hMX.map
     have hMlt:=hMX.lt
     clear hM2 hgr2 hmk2 nY2 hM1 hgr hmk
     have hBM:Bw≠M:=fun e=>by
      obtain⟨o,ho,hco⟩:=cells_of_cell b0
      dsimp only at ho
      rw [e,hmapX] at ho
      cases ho
      cases hco
     refine Go.wpIn_rangeFunc_ownG rfl (by omega) rfl trivial (enters_of Try.func93 (by kernel_rfl) rfl) (zej 3 (by omega) Bw x.lo x.hi X b0 b1 hlX hst.1) zl3 (zoP hlX) (Go.RowKit.Below.refl _ _) (fun _=>rfl) (fun pre W=>X.grownBy W (some M)∧(∃ n',n'≤n1+pre.length * calls j∧Memo W M d n')∧∀ a∈pre,zeG d (chooseS d (d.steps.drop (k+1))) x s h a.1=true) (fun c pre W=>c=.exit 1∧X.grownBy W (some M)∧(∃ n',n'≤n1+4 * calls j∧Memo W M d n')∧∃ a∈pre,zeG d (chooseS d (d.steps.drop (k+1))) x s h a.1=false) ?hI ?hIx ?h0 (fun x_1=>{ tmps:=(List.toArray ((Go.Proofs.Ytedomogjmhommaa.plV (↑k) s) :: (Go.Proofs.Ytedomogjmhommaa.ptr Bo) :: (Go.Proofs.Ytedomogjmhommaa.ptr Bk) :: (Go.Proofs.Ytedomogjmhommaa.ptr Bc) :: (Go.Value.pointer (Option.some { block:=A,off:=0 })) :: (Go.Value.int Go.IntKind.i64 0) :: (Go.Value.int Go.IntKind.i64 c) :: (Go.Value.bool Bool.false) :: (Go.Value.pointer (Option.some { block:=A+1,off:=0 })) :: (Go.Proofs.Ytedomogjmhommaa.num (-1)) :: (Go.Value.pointer (Option.some { block:=Array.size (Go.World.heap wr),off:=0 })) :: (Go.Proofs.Ytedomogjmhommaa.num (Subtype.val x_1)) :: u12 :: (Go.Value.pointer (Option.some { block:=A,off:=0 })) :: (Go.Proofs.Ytedomogjmhommaa.num ↑k) :: (Go.Proofs.Ytedomogjmhommaa.ptr B) :: (Go.Value.pointer (Option.some { block:=B,off:=0 })) :: (Go.Value.pointer (Option.some { block:=B,off:=7 })) :: (Go.Value.slice (Option.some { block:=b,off:=off }) (List.length (Go.Proofs.Ytedomogjmhommaa.Dry.steps d)) cap) :: (Go.Value.int Go.IntKind.i64 ↑(List.length (Go.Proofs.Ytedomogjmhommaa.Dry.steps d))) :: (Go.Value.bool Bool.false) :: (Go.Value.tuple #[Go.Value.int Go.IntKind.i64 c,Go.Value.bool Bool.false]) :: (Go.Value.map (Option.some M)) :: (Go.Value.agg #[Go.Proofs.Ytedomogjmhommaa.num ↑k,Go.Proofs.Ytedomogjmhommaa.num (Go.Proofs.Ytedomogjmhommaa.St.w s),Go.Proofs.Ytedomogjmhommaa.num (Go.Proofs.Ytedomogjmhommaa.St.c s),Go.Proofs.Ytedomogjmhommaa.num (Go.Proofs.Ytedomogjmhommaa.St.h s)]) :: (Go.Value.tuple #[Go.Value.int Go.IntKind.i64 c,Go.Value.bool Bool.false]) :: (Go.Value.int Go.IntKind.i64 c) :: (Go.Value.bool Bool.false) :: (Go.Value.bool Bool.false) :: Go.undef :: (Go.Proofs.Ytedomogjmhommaa.ptr B) :: (Go.Value.pointer (Option.some { block:=B,off:=0 })) :: (Go.Value.pointer (Option.some { block:=B,off:=7 })) :: (Go.Value.slice (Option.some { block:=b,off:=off }) (List.length (Go.Proofs.Ytedomogjmhommaa.Dry.steps d)) cap) :: (Go.Value.pointer (Option.some { block:=A,off:=0 })) :: (Go.Proofs.Ytedomogjmhommaa.num ↑k) :: (Go.Value.pointer (Option.some { block:=b,off:=off+k * 7 })) :: (Go.Value.agg #[Go.Proofs.Ytedomogjmhommaa.num (Go.Proofs.Ytedomogjmhommaa.Stp.lo x),Go.Proofs.Ytedomogjmhommaa.num (Go.Proofs.Ytedomogjmhommaa.Stp.hi x),Go.Value.bool (Go.Proofs.Ytedomogjmhommaa.Stp.tended x),Go.Proofs.Ytedomogjmhommaa.num (Go.Proofs.Ytedomogjmhommaa.Stp.wlo x),Go.Proofs.Ytedomogjmhommaa.num (Go.Proofs.Ytedomogjmhommaa.Stp.whi x),Go.Proofs.Ytedomogjmhommaa.num (Go.Proofs.Ytedomogjmhommaa.Stp.col x),Go.Proofs.Ytedomogjmhommaa.num ↑(List.length (Go.Proofs.Ytedomogjmhommaa.Dry.heats d))]) :: (Go.Proofs.Ytedomogjmhommaa.ptr B) :: (Go.Value.pointer (Option.some { block:=B,off:=0 })) :: (Go.Value.pointer (Option.some { block:=B,off:=0 })) :: (Go.Value.pointer (Option.some { block:=B,off:=0 })) :: (Go.Value.slice ha' (List.length (Go.Proofs.Ytedomogjmhommaa.Dry.heats d)) hcap') :: (Go.Value.int Go.IntKind.i64 ↑(List.length (Go.Proofs.Ytedomogjmhommaa.Dry.heats d))) :: (Go.Proofs.Ytedomogjmhommaa.num ↑h) :: (Go.Value.bool Bool.true) :: (Go.Proofs.Ytedomogjmhommaa.num ↑h) :: (Go.Value.agg #[Go.Proofs.Ytedomogjmhommaa.num (Go.Proofs.Ytedomogjmhommaa.Stp.lo x),Go.Proofs.Ytedomogjmhommaa.num (Go.Proofs.Ytedomogjmhommaa.Stp.hi x),Go.Value.bool (Go.Proofs.Ytedomogjmhommaa.Stp.tended x),Go.Proofs.Ytedomogjmhommaa.num (Go.Proofs.Ytedomogjmhommaa.Stp.wlo x),Go.Proofs.Ytedomogjmhommaa.num (Go.Proofs.Ytedomogjmhommaa.Stp.whi x),Go.Proofs.Ytedomogjmhommaa.num (Go.Proofs.Ytedomogjmhommaa.Stp.col x),Go.Proofs.Ytedomogjmhommaa.num ↑(List.length (Go.Proofs.Ytedomogjmhommaa.Dry.heats d))]) :: (Go.Value.pointer (Option.some { block:=A,off:=1 })) :: (Go.Value.pointer (Option.some { block:=A,off:=3 })) :: (Go.Proofs.Ytedomogjmhommaa.num (Go.Proofs.Ytedomogjmhommaa.St.h s)) :: (Go.Proofs.Ytedomogjmhommaa.num ↑h) :: (Go.Value.bool Bool.true) :: (Go.Value.bool Bool.false) :: (Go.Value.pointer (Option.some { block:=A+1,off:=0 })) :: (Go.Value.agg #[Go.Proofs.Ytedomogjmhommaa.num (Go.Proofs.Ytedomogjmhommaa.Stp.lo x),Go.Proofs.Ytedomogjmhommaa.num (Go.Proofs.Ytedomogjmhommaa.Stp.hi x),Go.Value.bool (Go.Proofs.Ytedomogjmhommaa.Stp.tended x),Go.Proofs.Ytedomogjmhommaa.num (Go.Proofs.Ytedomogjmhommaa.Stp.wlo x),Go.Proofs.Ytedomogjmhommaa.num (Go.Proofs.Ytedomogjmhommaa.Stp.whi x),Go.Proofs.Ytedomogjmhommaa.num (Go.Proofs.Ytedomogjmhommaa.Stp.col x)]) :: (Go.Value.func (Go.Fn.func 93) #[] #[Go.Value.pointer (Option.some { block:=Bw,off:=0 })]) :: (Go.Proofs.Ytedomogjmhommaa.num (Subtype.val x_1)) :: u57 :: u58 :: u59 :: u60 :: u61 :: u62 :: u63 :: u64 :: u65 :: u66 :: u67 :: u68 :: u69 :: u70 :: u71 :: u72 :: u73 :: u74 :: u75 :: u76 :: u77 :: u78 :: u79 :: Go.undef :: Go.undef :: Go.undef :: Go.undef :: [])),defers:=[] }) ?assign ?body ?done ?stop
     case hI =>
      rintro pre A A' row ⟨h1,⟨n',h2,h3⟩,h4⟩ hg hr
      have hne:∀ r,row=some r→X.heap.size≤r:=fun r e=>(hr r e).1
      exact⟨World.grownBy.andThen h1 hg fun r e=>.inl (hne r e),⟨n',h2,h3.kept hg (fun e=>by have:=hne M e.symm;omega)⟩,h4⟩
     case hIx =>
      rintro c' pre A A' row ⟨h0,h1,⟨n',h2,h3⟩,h4⟩ hg hr
      have hne:∀ r,row=some r→X.heap.size≤r:=fun r e=>(hr r e).1
      exact⟨h0,World.grownBy.andThen h1 hg fun r e=>.inl (hne r e),⟨n',h2,h3.kept hg (fun e=>by have:=hne M e.symm;omega)⟩,h4⟩
     case h0=>exact⟨⟨rfl,rfl,rfl,Nat.le_refl _,fun _ _ _=>rfl⟩,⟨n1,by simp,hMX⟩,fun a ha=>absurd ha (List.not_mem_nil)⟩
     case assign =>
      intro l x W K hK
      gi_wp2
      exact hK
     case body =>
      rintro l pre a W ⟨hg1,⟨n',hn',hMW⟩,hall⟩ hlen
      have kXW:=Kc.map hg1 hmapX
      have kW:=kX.trans kXW
      have hHW:=kXW.cell hHX
      have r0:=kW.cell p0
      have r1:=kW.cell p1
      have r2:=kW.cell p2
      have r3:=kW.cell p3
      have ro:=kW.cell qo
      have chW:=hcT.kc kW
      have hs':=zep hO (List.mem_of_getElem? hhs) hs (heat:=h) (damp:=a.1) (n:=d.heats.length) (by omega) a.2.1
      have k61:=zf9 d B s h hv a.1 W chW.st hO hhs hs a.2
      have hall':=Lib.hid hall
      clear hall
      have hdk:Hid (zeG d (chooseS d (d.steps.drop (k+1))) x s h a.1=(za5 x (za9 d hv s h a.1) && decide (0≤chooseS d (d.steps.drop (k+1)) (za9 d hv s h a.1)))):=by show _=_;unfold zeG;rw [hat1]
      generalize za9 d hv s h a.1=s' at *
      have hbM:n' + calls j≤n1+4 * calls j:=by
       have:=Nat.mul_le_mul_right (calls j) (show pre.length+1≤4 by omega)
       rw [Nat.add_mul] at this
       omega
      have hbN:n' + calls j≤n1+(pre.length+1) * calls j:=by rw [Nat.add_mul];omega
      gi_upto_region 15 with (first | (gi_at_call 61;refine CallsIn.mono (CallsIn.inRound l (anyN k61)) ?_;rintro e w5 ⟨rfl,n5⟩) | gi_in)
      generalize hYn:w5.alloc _=Y5
      obtain⟨nY5,sY5,gY5⟩:=al1 hYn
      have n6:=n5.trans nY5
      have t0:Y5.cell? ⟨w5.heap.size,0,none⟩=some (num s'.w):=zaa gY5 rfl
      have t1:Y5.cell? ⟨w5.heap.size,1,none⟩=some (num s'.c):=zaa gY5 rfl
      have t2:Y5.cell? ⟨w5.heap.size,2,none⟩=some (num s'.h):=zaa gY5 rfl
      clear hYn gY5 r0 r1 r2 r3 ro k61
      have k6:=kW.trans (Kc.nx n6)
      have z0:=k6.cell x0
      have z1:=k6.cell x1
      have z2:=k6.cell x2
      have z3:=k6.cell x3
      have z4:=k6.cell x4
      have z5:=k6.cell x5
      have k73:=fun (w1:World)=>zgO x s' w1
      cases hkp:za5 x s' with
      | false =>
       rw [hkp] at k73
       have hF:Hid (zeG d (chooseS d (d.steps.drop (k+1))) x s h a.1=false):=by show _=_;rw [hdk.out,hkp];rfl
       gi_wp2_with (first | (gi_at_call 73;refine CallsIn.mono (CallsIn.inRound l (anyN (k73 _))) ?_;rintro e w7 ⟨rfl,n7⟩) | gi_in)
       have n8:=n6.trans n7
       exact⟨KeepsFrom.of_grownBy (n8.grown none) (by simp),rfl,zil hg1 n8,⟨n',by omega,hMW.nx n8⟩,a,by simp,hF.out⟩
      | true =>
       rw [hkp] at k73
       have k90:=fun (w7:World) (n7:Nx Y5 w7)=>ih s' w7 n' hs' (chW.kc (Kc.nx (n6.trans n7))) (hMW.nx (n6.trans n7)) (by clear hmx hn1 hn16;omega)
       have hcs:=(chW.kc (Kc.nx n6)).c
       have z6:=k6.cell p0
       by_cases hch:chooseS d (d.steps.drop (k+1)) s' < 0
       ·have hF:Hid (zeG d (chooseS d (d.steps.drop (k+1))) x s h a.1=false):=by show _=_;rw [hdk.out,hkp];simpa using hch
        have dch:=decide_eq_true hch
        clear hch
        gi_wp2_with (first | (gi_at_call 73;refine CallsIn.mono (CallsIn.inRound l (anyN (k73 _))) ?_;rintro e w7 ⟨rfl,n7⟩;have k90:=k90 _ n7;have hcs:=(Kc.nx n7).cell hcs;have z6:=(Kc.nx n7).cell z6;have t0:=(Kc.nx n7).cell t0;have t1:=(Kc.nx n7).cell t1;have t2:=(Kc.nx n7).cell t2) | (gi_at_call 90;refine CallsIn.mono (CallsIn.inRound l (anyN k90)) ?_;rintro e w8 ⟨rfl,hg8,n'',hn'',hM8⟩) | gi_in)
        have hgW:=ziu (n6.trans n7) hg8
        exact⟨KeepsFrom.of_grownBy hgW (fun r e=>by cases e;exact hMlt),rfl,zca hg1 hgW,⟨n'',by omega,hM8⟩,a,by simp,hF.out⟩
       ·have hF:Hid (zeG d (chooseS d (d.steps.drop (k+1))) x s h a.1=true):=by show _=_;rw [hdk.out,hkp];simp;omega
        have dch:=decide_eq_false hch
        clear hch
        gi_wp2_with (first | (gi_at_call 73;refine CallsIn.mono (CallsIn.inRound l (anyN (k73 _))) ?_;rintro e w7 ⟨rfl,n7⟩;have k90:=k90 _ n7;have hcs:=(Kc.nx n7).cell hcs;have z6:=(Kc.nx n7).cell z6;have t0:=(Kc.nx n7).cell t0;have t1:=(Kc.nx n7).cell t1;have t2:=(Kc.nx n7).cell t2) | (gi_at_call 90;refine CallsIn.mono (CallsIn.inRound l (anyN k90)) ?_;rintro e w8 ⟨rfl,hg8,n'',hn'',hM8⟩) | gi_in)
        have hgW:=ziu (n6.trans n7) hg8
        exact⟨KeepsFrom.of_grownBy hgW (fun r e=>by cases e;exact hMlt),⟨hgW.size,hgW.block Bw (Nat.lt_of_lt_of_le hlX kXW.size) (fun e=>hBM (by cases e;rfl))⟩,zca hg1 hgW,⟨n'',by simp;omega,hM8⟩,fun y hy=>by
         rcases List.mem_append.1 hy with hy | hy
         ·exact hall'.out y hy
         ·rw [List.mem_singleton.1 hy];exact hF.out⟩
     case done =>
      rintro D' ys W hD hS ⟨hg1,⟨n',hn',hMW⟩,hall⟩ hK
      have hlen:ys.length≤4:=by
       have:=congrArg List.length hS
       rw [List.length_map,zcz] at this
       omega
      have hG:goodS d (chooseS d (d.steps.drop (k+1))) x s h=true:=by
       unfold goodS
       rw [hmay,Bool.true_and,List.all_eq_true,Stp.damps,← hS]
       intro y hy
       obtain⟨z,hz,rfl⟩:=List.mem_map.1 hy
       exact hall z hz
      have hval:chooseS d (d.steps.drop k) s=h:=by rw [hdr];exact zcN HB.out hlt hG
      have HV:=Lib.hid hval
      have hn'' : n'≤n+16 * calls j:=by
       have:=Nat.mul_le_mul_right (calls j) hlen
       clear hmx hn1 hn16
       omega
      have hmx' : n' < maxLen:=by unfold maxLen;clear hmx hn1 hn16;omega
      clear hval hG hall hS
      obtain⟨D1,hown1,hmem1⟩:=hMW
      have HM:=Lib.hid hmem1
      clear hmem1
      have hmW:=Marks.cons hmX (hmX.grown hg1 (fun r e=>by cases e;rw [hmapX];intro e;cases e)) hD (hgX.size) hK
      have kXW:=Kc.map hg1 hmapX
      have kW:=kX.trans kXW
      have qk:=kW.cell qk
      have p0:=kW.cell p0
      have p1:=kW.cell p1
      have p2:=kW.cell p2
      have p3:=kW.cell p3
      have hHW:=kXW.cell hHX
      have hwf:(Lit.int .i64 (h:Int)).wf=true:=wf64 (by unfold I64;omega)
      gi_wp2_with (first | (gi_at_mapUpdate;refine wpListIn_mapUpdate_own _ rfl _ _ _ 141 rfl 94 3 K94 Try.underlying141 _ M n' D1 rfl hown1 hmx' _ _ l rfl rfl hl _ [] (plainElem_int Try.underlying3 hwf) ?_;intro w1 hown2 hgrow) | gi_in)
      have hb2:T.heap.size≤w1.heap.size:=Nat.le_trans (zca hgX hg1).size hgrow.size
      refine zdD (B:=T.heap.size) (hmW.grown hgrow (fun r e=>by cases e;obtain⟨es,cl,hmm,_⟩:=hown1;rw [hmm];intro e;cases e)) (fun w' hb=>⟨_,results_tmp rfl _ _ _,?_⟩) hb2
      refine⟨by rw [HV.out]<;>rfl,zhK (zca (ziu nwT (zca hgX hg1)) hgrow) hb nwT.size,n' + 1,by omega,?_⟩
      exact (zlk hown1.isMap HM.out hl (by rw [HV.out];exact hown2)).blk (hb.block M hMT.lt)
     case stop =>
      rintro D' c' pre W hD hS ⟨rfl,hg1,⟨n',hn',hMW⟩,y,hy,hbad⟩ hK
      have hmW:=Marks.cons hmX (hmX.grown hg1 (fun r e=>by cases e;rw [hmapX];intro e;cases e)) hD (hgX.size) hK
      gi_wp2
      obtain⟨k',hk',hpre⟩:=hS
      have hplen:pre.length≤4:=by
       have:=congrArg List.length hpre
       rw [List.length_map,zcz] at this
       omega
      have hG:Hid (goodS d (chooseS d (d.steps.drop (k+1))) x s h=false):=by
       show _=_
       unfold goodS
       rw [hmay,Bool.true_and,List.all_eq_false]
       refine⟨y.1,zlT hk' (by rw [← hpre];exact List.mem_map.2 ⟨y,hy,rfl⟩),by rw [hbad];decide⟩
      refine⟨?_,?measure⟩
      repeat apply Exists.intro
      refine⟨?rel,rfl⟩
      case rel =>
       refine⟨h+1,?_⟩
       exact⟨by omega,by simp,rfl,zca hgX hg1,⟨n',by rw [Nat.add_mul];omega,hMW⟩,hmW,fun h' hh=>by
        rcases Nat.lt_succ_iff_lt_or_eq.1 hh with hh | rfl
        ·exact HB.out h' hh
        ·exact hG.out⟩
      case measure=>simp [intOf];omega
   ·obtain rfl:h=d.heats.length:=by omega
    have hval:chooseS d (d.steps.drop k) s=-1:=by rw [hdr];exact zdg hbad
    have HV:=Lib.hid hval
    have HB:=Lib.hid hbad
    clear hval hbad
    obtain⟨D1,hown1,hmem1⟩:=hM1
    have HM:=Lib.hid hmem1
    clear hmem1
    have qk:=kr.cell qk
    have p0:=kr.cell p0
    have p1:=kr.cell p1
    have p2:=kr.cell p2
    have p3:=kr.cell p3
    gi_wp2_with (first | (gi_at_mapUpdate;refine wpListIn_mapUpdate_own _ rfl _ _ _ 141 rfl 94 3 K94 Try.underlying141 _ M n1 D1 rfl hown1 hmx _ _ l rfl rfl hl _ [] (plainElem_int Try.underlying3 (by decide)) ?_;intro w1 hown2 hgrow) | gi_in)
    have hb2:T.heap.size≤w1.heap.size:=Nat.le_trans hgr.size hgrow.size
    refine zdD (B:=T.heap.size) (hmk.grown hgrow (fun r e=>by cases e;obtain⟨es,cl,hmm,_⟩:=hown1;rw [hmm];intro e;cases e)) (fun w' hb=>⟨_,results_tmp rfl _ _ _,?_⟩) hb2
    refine⟨by rw [HV.out]<;>rfl,zhK (zca (ziu nwT hgr) hgrow) hb nwT.size,n1+1,by omega,?_⟩
    exact (zlk hown1.isMap HM.out hl (by rw [HV.out];exact hown2)).blk (hb.block M hMT.lt)
end Go.Proofs.Ytedomogjmhommaa
