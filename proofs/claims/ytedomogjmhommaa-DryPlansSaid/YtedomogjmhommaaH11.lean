import Derived.Test.YtedomogjmhommaaH10
import Derived.Test.YtedomogjmhommaaH02
set_option linter.all false
set_option maxRecDepth 100000
set_option maxHeartbeats 8000000
namespace Go.Proofs.Ytedomogjmhommaa
open Go.RowKit Go.Shelf
attribute [local go_sem] Oper.semAt_some
theorem al6 {w W:World} {o1 o2 o3 o4 o5 o6:Obj} (h:(((((w.alloc o1).alloc o2).alloc o3).alloc o4).alloc o5).alloc o6=W):Nx w W∧W.heap.size=w.heap.size+6∧W.heap[w.heap.size]?=some o1∧W.heap[w.heap.size+1]?=some o2∧W.heap[w.heap.size+1+1]?=some o3∧W.heap[w.heap.size+1+1+1]?=some o4∧W.heap[w.heap.size+1+1+1+1]?=some o5∧W.heap[w.heap.size+1+1+1+1+1]?=some o6:=by
 obtain⟨n1,s1,g1,g2,g3,g4⟩:=al4 (w:=w) (o1:=o1) (o2:=o2) (o3:=o3) (o4:=o4) rfl
 obtain⟨n2,s2,g5,g6⟩:=al2 h
 rw [s1] at s2 g5 g6
 exact⟨n1.trans n2,s2,(n2.block _ (by omega)).trans g1,(n2.block _ (by omega)).trans g2,(n2.block _ (by omega)).trans g3,(n2.block _ (by omega)).trans g4,g5,g6⟩
theorem mem_after {d:Dry} {x:Stp} {h:Nat} {l:List St} {t:St}:t∈afterL d x h l↔∃ s∈l,∃ a∈x.damps,t=za9 d (zaM d h) s h a:=by
 simp [afterL,List.mem_flatMap,List.mem_map,eq_comm]
theorem zlK {d:Dry} {x:Stp} {h:Nat} {s:St} {l:List St} {t:St}:t∈afterL d x h (s :: l)↔t∈afterL d x h l∨∃ a∈x.damps,t=za9 d (zaM d h) s h a:=by
 rw [mem_after,mem_after]
 simp only [List.mem_cons,exists_eq_or_imp]
 exact or_comm
theorem zno {d:Dry} {x:Stp} {h:Nat} {s:St} {l:List St}:keepL d x h (s :: l)=(keepL d x h l && x.damps.all fun a=>za5 x (za9 d (zaM d h) s h a)):=by
 unfold keepL afterL
 rw [List.flatMap_cons,List.all_append,List.all_map,Bool.and_comm]
 rfl
theorem zl0 {d:Dry} {x:Stp} {h:Nat} {l k:List St} (e:∀ s,s∈l↔s∈k):keepL d x h l=keepL d x h k:=by
 rw [Bool.eq_iff_iff]
 simp only [keepL,List.all_eq_true,mem_after,e]
theorem zgj (d:Dry) (hO:d.Ok) (B k:Nat) (x:Stp) (hx:d.steps[k]?=some x) (M0 n:Nat) (l:List St) (hl:∀ s∈l,s.Ok d.heats.length) (h:Nat) (hv:Int×Int) (hh:d.heats[h]?=some hv) (hn:n≤1000000000) (w:World) (hst:StoveAt w B d) (hM:SetM w M0 n (·∈l)) :
  CallsIn FW 0 Try.prog 75 #[ptr B,num k,.map (some M0),num h] w fun e w'=>∃ M',e=.returned (.tuple #[.map (some M'),.bool (keepL d x h l)])∧Nx w w'∧SetM w' M' (4 * n) (·∈afterL d x h l)∧w.heap.size≤M':=by
 have hkl:k<d.steps.length:=(List.getElem?_eq_some_iff.1 hx).1
 have hs5:=hO.s5
 have hstx:=hO.st x (List.mem_of_getElem? hx)
 have hh4:=hO.h4
 obtain⟨v,c7,hsl⟩:=hst.stages
 obtain⟨a,cap,rfl⟩:=hsl.cases
 rw [List.length_map] at c7 hsl
 obtain⟨b,off,rfl,hbl,hcl⟩:=hsl.get (by simp<;>omega)
 have e0:w.cell? ⟨b,off+k * 7,none⟩=some (num x.lo):=Sl.at hcl (Nx.refl w) hbl hx 0 (v:=num x.lo) rfl
 have e1:w.cell? ⟨b,off+k * 7+1,none⟩=some (num x.hi):=Sl.at hcl (Nx.refl w) hbl hx 1 (v:=num x.hi) rfl
 have e2:w.cell? ⟨b,off+k * 7+2,none⟩=some (.bool x.tended):=Sl.at hcl (Nx.refl w) hbl hx 2 (v:=.bool x.tended) rfl
 have e3:w.cell? ⟨b,off+k * 7+3,none⟩=some (num x.wlo):=Sl.at hcl (Nx.refl w) hbl hx 3 (v:=num x.wlo) rfl
 have e4:w.cell? ⟨b,off+k * 7+4,none⟩=some (num x.whi):=Sl.at hcl (Nx.refl w) hbl hx 4 (v:=num x.whi) rfl
 have e5:w.cell? ⟨b,off+k * 7+5,none⟩=some (num x.col):=Sl.at hcl (Nx.refl w) hbl hx 5 (v:=num x.col) rfl
 have e6:w.cell? ⟨b,off+k * 7+6,none⟩=some (num d.heats.length):=Sl.at hcl (Nx.refl w) hbl hx 6 (v:=num d.heats.length) rfl
 have hBl:=hst.lt
 have hmm:=@run_makeMap Try.prog
 apply anyN (n:=4)
 refine callsIn_of_wp_marks Try.func75 rfl trivial ?_ rfl
 simp only [Try.ntmps75,List.size_toArray,List.length_cons,List.length_nil,Nat.reduceAdd,Nat.reduceSub,Array.replicate_succ,Array.replicate_zero,List.push_toArray,List.append_toArray,List.nil_append,List.cons_append]
 clear hsl hcl
 gi_upto_region 3 with fail
 generalize hWn:(((((w.alloc _).alloc _).alloc _).alloc _).alloc _).alloc _=W
 obtain⟨nW,sW,g0,g1,g2,g3,g4,g5⟩:=al6 hWn
 clear hWn hmm e0 e1 e2 e3 e4 e5 e6 c7
 have hstW:=hst.nx nW
 have hM1:SetM W M0 n (·∈l):=hM.kept (nW.grown none) (by simp)
 have hM0:=hM.lt
 generalize hA:w.heap.size=A at *
 gi_wp2_with (first | (refine zcK rfl _ 104 rfl Try.underlying104 M0 n (·∈l) rfl hM1 ?_;intro w1 hr1 n1 s1 hc1;simp only [Act.put,List.setIfInBounds_toArray,List.set_cons_succ,List.set_cons_zero]) | gi_in)
 rw [sW] at hr1 s1 hc1 ⊢
 have hN1:=nW.trans n1
 refine wpIn_loop (fun a' w'=>∃ ds u13 u14 u15 u26 u27 u28 u29 u30 u31 u32 u34 u35 u36 u37 u38 u39 u40 u41 u42 u43 u44 u45 u46 u47,(∃ ys cnt n',Go.Proofs.Ytedomogjmhommaa.RgS w' M0 (A+6) n (fun x=>x∈l) ys cnt∧(Go.Proofs.Ytedomogjmhommaa.SetM w' (A+1+1+1) n' fun x_1=>x_1∈Go.Proofs.Ytedomogjmhommaa.afterL d x h ys)∧n'≤4 * List.length ys∧(Go.World.heap w')[A+1+1+1+1+1]?=Option.some (Go.Obj.cells #[Go.Value.bool (Go.Proofs.Ytedomogjmhommaa.keepL d x h ys)] 4)∧Go.Proofs.Ytedomogjmhommaa.But [A+1+1+1,A+1+1+1+1+1,A+6] w1 w'∧Go.Proofs.Ytedomogjmhommaa.Marks (A+7) ds w'∧List.length ys+cnt≤n∧∀ (s:Go.Proofs.Ytedomogjmhommaa.St),s∈ys→s∈l)∧a'={ tmps:=(List.toArray ((Go.Proofs.Ytedomogjmhommaa.ptr B) :: (Go.Proofs.Ytedomogjmhommaa.num ↑k) :: (Go.Value.map (Option.some M0)) :: (Go.Proofs.Ytedomogjmhommaa.num ↑h) :: (Go.Value.pointer (Option.some { block:=A,off:=0 })) :: Go.undef :: Go.undef :: (Go.Value.pointer (Option.some { block:=A+1,off:=0 })) :: (Go.Value.map Option.none) :: (Go.Value.bool Bool.false) :: (Go.Value.pointer (Option.some { block:=A+1+1,off:=0 })) :: (Go.Value.pointer (Option.some { block:=A+1+1+1+1,off:=0 })) :: (Go.Value.pointer (Option.some { block:=A+1+1+1+1+1,off:=0 })) :: u13 :: u14 :: u15 :: (Go.Proofs.Ytedomogjmhommaa.ptr B) :: (Go.Value.pointer (Option.some { block:=B,off:=0 })) :: (Go.Value.pointer (Option.some { block:=B,off:=7 })) :: (Go.Value.slice (Option.some { block:=b,off:=off }) (List.length (Go.Proofs.Ytedomogjmhommaa.Dry.steps d)) cap) :: (Go.Proofs.Ytedomogjmhommaa.num ↑k) :: (Go.Value.pointer (Option.some { block:=b,off:=off+k * 7 })) :: (Go.Value.agg #[Go.Proofs.Ytedomogjmhommaa.num (Go.Proofs.Ytedomogjmhommaa.Stp.lo x),Go.Proofs.Ytedomogjmhommaa.num (Go.Proofs.Ytedomogjmhommaa.Stp.hi x),Go.Value.bool (Go.Proofs.Ytedomogjmhommaa.Stp.tended x),Go.Proofs.Ytedomogjmhommaa.num (Go.Proofs.Ytedomogjmhommaa.Stp.wlo x),Go.Proofs.Ytedomogjmhommaa.num (Go.Proofs.Ytedomogjmhommaa.Stp.whi x),Go.Proofs.Ytedomogjmhommaa.num (Go.Proofs.Ytedomogjmhommaa.Stp.col x),Go.Proofs.Ytedomogjmhommaa.num ↑(List.length (Go.Proofs.Ytedomogjmhommaa.Dry.heats d))]) :: (Go.Value.map (Option.some (A+1+1+1))) :: (Go.Value.map (Option.some M0)) :: (Go.Value.pointer (Option.some { block:=A+6,off:=0 })) :: u26 :: u27 :: u28 :: u29 :: u30 :: u31 :: u32 :: Go.undef :: u34 :: u35 :: u36 :: u37 :: u38 :: u39 :: u40 :: u41 :: u42 :: u43 :: u44 :: u45 :: u46 :: u47 :: Go.undef :: Go.undef :: [])),defers:=ds }) (fun a' w'=>Go.World.rangeLeft w' M0 (A+6)) ?atStart ?round
 case atStart=>(repeat apply Exists.intro);refine⟨?_,rfl⟩;exact⟨[],_,0,hr1,(zgc ((n1.block _ (by omega)).trans g3)).congr (fun s=>by simp [afterL]),by simp,(n1.block _ (by omega)).trans g5,But.refl _ _,Marks.nil _ _,by simpa using hc1,by simp⟩
 case round =>
  rintro _ wr ⟨ds,u13,u14,u15,u26,u27,u28,u29,u30,u31,u32,u34,u35,u36,u37,u38,u39,u40,u41,u42,u43,u44,u45,u46,u47,hrel,rfl⟩;try dsimp only
  obtain⟨ys,cnt,n',hrg,hout,hn',hkp,hbut,hmk,hcnt,hys⟩:=hrel
  have hleft:=Lib.hid hrg.left_eq
  have hszr:A+7≤wr.heap.size:=by have:=hbut.size;omega
  have hNr:Nx w wr:=hbut.toNx hN1 (by simp<;>omega)
  gi_wp2_with (first | (refine zcV rfl _ rfl M0 (A+6) n (·∈l) ys cnt rfl hrg ?_ ?_) | gi_in)
  ·intro hall
   have hiff:∀ s,s∈ys↔s∈l:=fun s=>⟨hys s,hall s⟩
   have q4:wr.cell? ⟨A+1+1+1+1,0,none⟩=some (.map (some (A+1+1+1))):=hbut.cell (by simp) ((Kc.nx n1).cell (zaa (i:=0) g4 rfl))
   have q5:wr.cell? ⟨A+1+1+1+1+1,0,none⟩=some (.bool (keepL d x h ys)):=zaa hkp rfl
   rw [zl0 hiff] at q5
   clear hall hrg hkp hleft
   gi_upto_region 10 with fail
   gi_big_quiet_th (fail)
   have nq4:=hNr.drewN nq
   have houtq:SetM (wr.drewN nq) (A+1+1+1) n' (·∈afterL d x h ys):=hout.blk rfl
   have hmkq:Marks (A+7) ds (wr.drewN nq):=hmk.keep (fun _ _ h=>h)
   have hszV:A+7≤(wr.drewN nq).heap.size:=hszr
   generalize wr.drewN nq=V at nq4 houtq hmkq hszV ⊢
   gi_wp2
   refine zdD (B:=A+7) hmkq (fun w' hb=>⟨.tuple #[.map (some (A+1+1+1)),.bool (keepL d x h l)],by simp [results,Try.results75,go_sem],A+1+1+1,rfl,?_,?_,by omega⟩) hszV
   ·exact Below.trans nq4 (hb.mono (by omega))
   ·exact ((houtq.blk (hb.block _ (by omega))).more (by omega)).congr (fun t=>by simp only [mem_after,hiff])
  ·intro s v2 w2 cnt' hXs hns hrg2 hlt hg2 hsz2 hen
   have hb2:But [A+1+1+1,A+1+1+1+1+1,A+6] w1 w2:=hbut.trans (But.grown hg2 (by simp))
   have hout2:SetM w2 (A+1+1+1) n' (·∈afterL d x h ys):=hout.blk (hg2.block _ (by omega) (by simp))
   have hkp2:=(hg2.block (A+1+1+1+1+1) (by omega) (by simp)).trans hkp
   have hmk2:Marks (A+7) ds w2:=hmk.keep (fun D hD hD2=>(hg2.block D (Array.getElem?_eq_some_iff.1 hD2).1 (by simp<;>omega)).trans hD2)
   clear hrg hout hkp hbut hmk
   gi_upto_region 6 with fail
   generalize hYn:w2.alloc _=Y
   obtain⟨nY,sY,gY⟩:=al1 hYn
   clear hYn hen
   rw [hsz2] at gY sY
   have SY:=Lib.hid sY
   clear sY
   have n2Y:=(But.nx nY:But [A+1+1+1,A+1+1+1+1+1,A+6] w2 Y)
   have hbY:=hb2.trans n2Y
   have kW:∀ {p i:Nat} {v:Value},p∉[A+1+1+1,A+1+1+1+1+1,A+6]→W.cell? ⟨p,i,none⟩=some v→Y.cell? ⟨p,i,none⟩=some v:=fun hp hc=>hbY.cell hp ((Kc.nx n1).cell hc)
   have z0:=kW (by simp) (zaa (i:=0) g2 rfl)
   have z1:=kW (by simp) (zaa (i:=1) g2 rfl)
   have z2:=kW (by simp) (zaa (i:=2) g2 rfl)
   have z3:=kW (by simp) (zaa (i:=3) g2 rfl)
   have z4:=kW (by simp) (zaa (i:=4) g2 rfl)
   have z5:=kW (by simp) (zaa (i:=5) g2 rfl)
   have z6:=kW (by simp) (zaa (i:=6) g2 rfl)
   have k60:=fun (w1:World)=>zeH x w1
   gi_wp2_with (first | (gi_at_call 60;refine CallsIn.mono (anyN (k60 _)) ?_;rintro e w4 ⟨rfl,hw4⟩;replace hw4:=hw4.symm;subst hw4) | gi_in)
   generalize hXn:Y.alloc _=X
   obtain⟨nX,sX,gX⟩:=al1 hXn
   have b0:X.cell? ⟨Y.heap.size,0,none⟩=some (num x.lo):=zaa gX rfl
   have b1:X.cell? ⟨Y.heap.size,1,none⟩=some (num x.hi):=zaa gX rfl
   clear hXn z0 z1 z2 z3 z4 z5 z6
   have hlX:Y.heap.size<X.heap.size:=by omega
   have hYl:A+8≤Y.heap.size:=by have:=SY.out;omega
   have hCl:wr.heap.size<Y.heap.size:=by have:=SY.out;omega
   have hbX:=hbY.trans (But.nx nX)
   have houtX:SetM X (A+1+1+1) n' (·∈afterL d x h ys):=(hout2.blk (nY.block _ (by omega))).blk (nX.block _ (by omega))
   have hkpX:=(nX.block _ (by omega)).trans ((nY.block (A+1+1+1+1+1) (by omega)).trans hkp2)
   have hmkX:=(hmk2.nx nY).nx nX
   have gYX:=(nX.block _ (zav gY)).trans gY
   have hat1:zaM d h=hv:=by unfold zaM;rw [hh];rfl
   have nYX:=nY.trans nX
   clear gX gY hout2 hkp2 hmk2 nY nX n2Y hb2 hbY kW
   generalize Y.heap.size=Bw at *
   have hNX:=hbX.toNx hN1 (by simp<;>omega)
   have hsO:=hl s hXs
   generalize wr.heap.size=Cs at *
   have x0:X.cell? ⟨A,0,none⟩=some (ptr B):=hbX.cell (by simp<;>omega) ((Kc.nx n1).cell (zaa (i:=0) g0 rfl))
   have x1:X.cell? ⟨A+1,0,none⟩=some (num h):=hbX.cell (by simp<;>omega) ((Kc.nx n1).cell (zaa (i:=0) g1 rfl))
   have x4:X.cell? ⟨A+1+1+1+1,0,none⟩=some (.map (some (A+1+1+1))):=hbX.cell (by simp<;>omega) ((Kc.nx n1).cell (zaa (i:=0) g4 rfl))
   have gX2:X.heap[A+1+1]?=W.heap[A+1+1]?:=(hbX.block _ (by omega) (by simp)).trans (n1.block _ (by omega))
   refine Go.wpIn_rangeFunc_ownG rfl (by omega) rfl trivial (enters_of Try.func93 (by kernel_rfl) rfl) (zej 3 (by omega) Bw x.lo x.hi X b0 b1 hlX hstx.1) zl3 (zoP hlX) (Go.RowKit.Below.refl _ _) (fun _=>rfl) (fun pre U=>But [A+1+1+1,A+1+1+1+1+1] X U∧SetM U (A+1+1+1) (n' + pre.length) (fun t=>t∈afterL d x h ys∨∃ a∈pre,t=za9 d hv s h a.1)∧U.heap[A+1+1+1+1+1]?=some (.cells #[.bool (keepL d x h ys && pre.all fun a=>za5 x (za9 d hv s h a.1))] 4 (0,0))) (fun c pre U=>False) ?hI ?hIx ?h0 (fun x_1=>{ tmps:=(List.toArray ((Go.Proofs.Ytedomogjmhommaa.ptr B) :: (Go.Proofs.Ytedomogjmhommaa.num ↑k) :: (Go.Value.map (Option.some M0)) :: (Go.Proofs.Ytedomogjmhommaa.num ↑h) :: (Go.Value.pointer (Option.some { block:=A,off:=0 })) :: Go.undef :: Go.undef :: (Go.Value.pointer (Option.some { block:=A+1,off:=0 })) :: (Go.Value.map Option.none) :: (Go.Value.bool Bool.false) :: (Go.Value.pointer (Option.some { block:=A+1+1,off:=0 })) :: (Go.Value.pointer (Option.some { block:=A+1+1+1+1,off:=0 })) :: (Go.Value.pointer (Option.some { block:=A+1+1+1+1+1,off:=0 })) :: (Go.Value.pointer (Option.some { block:=Cs,off:=0 })) :: (Go.Proofs.Ytedomogjmhommaa.num (Subtype.val x_1)) :: u15 :: (Go.Proofs.Ytedomogjmhommaa.ptr B) :: (Go.Value.pointer (Option.some { block:=B,off:=0 })) :: (Go.Value.pointer (Option.some { block:=B,off:=7 })) :: (Go.Value.slice (Option.some { block:=b,off:=off }) (List.length (Go.Proofs.Ytedomogjmhommaa.Dry.steps d)) cap) :: (Go.Proofs.Ytedomogjmhommaa.num ↑k) :: (Go.Value.pointer (Option.some { block:=b,off:=off+k * 7 })) :: (Go.Value.agg #[Go.Proofs.Ytedomogjmhommaa.num (Go.Proofs.Ytedomogjmhommaa.Stp.lo x),Go.Proofs.Ytedomogjmhommaa.num (Go.Proofs.Ytedomogjmhommaa.Stp.hi x),Go.Value.bool (Go.Proofs.Ytedomogjmhommaa.Stp.tended x),Go.Proofs.Ytedomogjmhommaa.num (Go.Proofs.Ytedomogjmhommaa.Stp.wlo x),Go.Proofs.Ytedomogjmhommaa.num (Go.Proofs.Ytedomogjmhommaa.Stp.whi x),Go.Proofs.Ytedomogjmhommaa.num (Go.Proofs.Ytedomogjmhommaa.Stp.col x),Go.Proofs.Ytedomogjmhommaa.num ↑(List.length (Go.Proofs.Ytedomogjmhommaa.Dry.heats d))]) :: (Go.Value.map (Option.some (A+1+1+1))) :: (Go.Value.map (Option.some M0)) :: (Go.Value.pointer (Option.some { block:=A+6,off:=0 })) :: (Go.Value.tuple #[Go.Value.bool Bool.true,Go.Proofs.Ytedomogjmhommaa.St.val s,v2]) :: (Go.Value.bool Bool.true) :: (Go.Value.tuple #[Go.Proofs.Ytedomogjmhommaa.St.val s,v2]) :: (Go.Proofs.Ytedomogjmhommaa.St.val s) :: (Go.Value.pointer (Option.some { block:=A+1+1,off:=0 })) :: (Go.Value.agg #[Go.Value.int Go.IntKind.i64 (Go.Proofs.Ytedomogjmhommaa.Stp.lo x),Go.Value.int Go.IntKind.i64 (Go.Proofs.Ytedomogjmhommaa.Stp.hi x),Go.Value.bool (Go.Proofs.Ytedomogjmhommaa.Stp.tended x),Go.Value.int Go.IntKind.i64 (Go.Proofs.Ytedomogjmhommaa.Stp.wlo x),Go.Value.int Go.IntKind.i64 (Go.Proofs.Ytedomogjmhommaa.Stp.whi x),Go.Value.int Go.IntKind.i64 (Go.Proofs.Ytedomogjmhommaa.Stp.col x)]) :: (Go.Value.func (Go.Fn.func 93) #[] #[Go.Value.pointer (Option.some { block:=Bw,off:=0 })]) :: (Go.Proofs.Ytedomogjmhommaa.num (Subtype.val x_1)) :: u34 :: u35 :: u36 :: u37 :: u38 :: u39 :: u40 :: u41 :: u42 :: u43 :: u44 :: u45 :: u46 :: u47 :: Go.undef :: Go.undef :: [])),defers:=[] }) ?assign ?body ?done ?stop
   case hI =>
    rintro pre U U' row ⟨h1,h2,h3⟩ hg hr
    have hne:∀ r,row=some r→X.heap.size≤r:=fun r e=>(hr r e).1
    exact⟨h1.own hg hne,h2.kept hg (fun e=>by have:=hne _ e.symm;omega),(hg.block _ (by have:=h1.size;omega) (fun e=>by have:=hne _ e.symm;omega)).trans h3⟩
   case hIx=>exact fun _ _ _ _ _ h=>h.elim
   case h0=>exact⟨But.refl _ _,houtX.congr (by simp),by simpa using hkpX⟩
   case assign =>
    intro l x W K hK
    gi_wp2
    exact hK
   case body =>
    rintro l pre a U ⟨hU1,hU2,hU3⟩ hlen
    have NU:Nx w U:=hU1.toNx hNX (by simp<;>omega)
    have k61:=zf9 d B s h hv a.1 U (hst.nx NU) hO hh hsO a.2
    have hs':=zep hO (List.mem_of_getElem? hh) hsO (heat:=h) (damp:=a.1) (n:=d.heats.length) (by have:=(List.getElem?_eq_some_iff.1 hh).1;omega) a.2.1
    have HU3:=Lib.hid hU3
    have r0:=hU1.cell (by simp<;>omega) x0
    have r1:=hU1.cell (by simp<;>omega) x1
    have sU:=hU1.size
    have gS:=(hU1.block Cs (by omega) (by simp<;>omega)).trans gYX
    have t0:U.cell? ⟨Cs,0,none⟩=some (num s.w):=zaa gS rfl
    have t1:U.cell? ⟨Cs,1,none⟩=some (num s.c):=zaa gS rfl
    have t2:U.cell? ⟨Cs,2,none⟩=some (num s.h):=zaa gS rfl
    have hb0:∃ b0,(keepL d x h ys && pre.all fun a=>za5 x (za9 d hv s h a.1))=b0:=⟨_,rfl⟩
    obtain⟨b0,hb0⟩:=hb0
    rw [hb0] at hU3
    have HB0:=Lib.hid hb0
    have HA:=Lib.hid (rfl:za9 d hv s h a.1=za9 d hv s h a.1)
    generalize hs1:za9 d hv s h a.1=s' at *
    have HS1:=Lib.hid hs1
    clear hs1 hb0 HA
    gi_upto_region 9 with (first | (gi_at_call 61;refine CallsIn.mono (CallsIn.inRound l (anyN k61)) ?_;rintro e w5 ⟨rfl,n5⟩) | gi_in)
    generalize hYn:w5.alloc _=Y5
    obtain⟨nY5,sY5,gY5⟩:=al1 hYn
    clear hYn r0 r1 t0 t1 t2 k61
    have SY5:=Lib.hid sY5
    clear sY5
    have n6:=n5.trans nY5
    generalize hE:w5.heap.size=E at *
    have hEl:X.heap.size≤E:=by have:=n5.size;omega
    have t0:Y5.cell? ⟨E,0,none⟩=some (num s'.w):=zaa gY5 rfl
    have t1:Y5.cell? ⟨E,1,none⟩=some (num s'.c):=zaa gY5 rfl
    have t2:Y5.cell? ⟨E,2,none⟩=some (num s'.h):=zaa gY5 rfl
    have u4:=(Kc.nx n6).cell (hU1.cell (by simp<;>omega) x4)
    have h5:=(n6.block _ (by omega)).trans hU3
    have u5:Y5.cell? ⟨A+1+1+1+1+1,0,none⟩=some (.bool b0):=zaa h5 rfl
    have gY2:Y5.heap[A+1+1]?=W.heap[A+1+1]?:=((n6.block _ (by omega)).trans (hU1.block _ (by omega) (by simp<;>omega))).trans gX2
    rw [g2] at gY2
    have v0:Y5.cell? ⟨A+1+1,0,none⟩=some (num x.lo):=zaa gY2 rfl
    have v1:Y5.cell? ⟨A+1+1,1,none⟩=some (num x.hi):=zaa gY2 rfl
    have v2:Y5.cell? ⟨A+1+1,2,none⟩=some (.bool x.tended):=zaa gY2 rfl
    have v3:Y5.cell? ⟨A+1+1,3,none⟩=some (num x.wlo):=zaa gY2 rfl
    have v4:Y5.cell? ⟨A+1+1,4,none⟩=some (num x.whi):=zaa gY2 rfl
    have v5:Y5.cell? ⟨A+1+1,5,none⟩=some (num x.col):=zaa gY2 rfl
    have sY5:E<Y5.heap.size:=by have:=SY5.out;omega
    have sXE:X.heap.size≤Y5.heap.size:=by omega
    refine zat (But [A+1+1+1] Y5) 10 (by kernel_rfl) ?_
    obtain⟨Z,G,hN,hG,hG'⟩:=zaC (C:=But [A+1+1+1] Y5) (x:=Y5) (But.refl _ _)
    have t0:=fun z=>(hG' z).cell (by simp<;>omega) t0
    have t1:=fun z=>(hG' z).cell (by simp<;>omega) t1
    have t2:=fun z=>(hG' z).cell (by simp<;>omega) t2
    have u4:=fun z=>(hG' z).cell (by simp<;>omega) u4
    have u5:=fun z=>(hG' z).cell (by simp<;>omega) u5
    have v0:=fun z=>(hG' z).cell (by simp<;>omega) v0
    have v1:=fun z=>(hG' z).cell (by simp<;>omega) v1
    have v2:=fun z=>(hG' z).cell (by simp<;>omega) v2
    have v3:=fun z=>(hG' z).cell (by simp<;>omega) v3
    have v4:=fun z=>(hG' z).cell (by simp<;>omega) v4
    have v5:=fun z=>(hG' z).cell (by simp<;>omega) v5
    change Go.wpAnyZ _ _ _ _ _ _ _ _ 11 #[false,false,false,false,false,false,false,false,false,false,false] _ _
    have n7:Nx Y5 Y5.drew:=Nx.drew (Nx.refl Y5)
    generalize Y5.drew=V at n7 ⊢
    refine Go.zqE 0 hG (by kernel_rfl) (fun _ _ _ h=>by cases h.1) rfl ?_;intro o ho K hK;simp at ho;subst ho;gi_big_quiet_op;go_big_quiet_on
    refine Go.zqE 1 hG (by kernel_rfl) (fun _ _ _ h=>by cases h.1) rfl ?_;intro o ho K hK;simp at ho;subst ho;gi_big_quiet_op;go_big_quiet_on
    refine Go.zqE 2 hG (by kernel_rfl) (fun _ _ _ h=>by cases h.1) rfl ?_;intro o ho K hK;simp at ho;subst ho;gi_big_quiet_op;go_big_quiet_on
    refine Go.zqE 3 hG (by kernel_rfl) (fun _ _ _ h=>by cases h.1) rfl ?_;intro o ho K hK;simp at ho;subst ho;gi_big_quiet_op;go_big_quiet_on
    have k73:=fun (w1:World)=>zgO x s' w1
    have hsets0:SetM V (A+1+1+1) (n' + pre.length) (fun t=>t∈afterL d x h ys∨∃ a∈pre,t=za9 d hv s h a.1):=((hU2.blk (n6.block _ (by omega))).blk (n7.block _ (by omega)))
    have hsI:=hs'.i hh4.2
    have hlen2:n' + pre.length<maxLen:=by unfold maxLen;omega
    cases b0 with
    | true =>
     refine Go.zqE 4 hG (by kernel_rfl) (fun _ _ _ h=>by cases h.1) rfl ?_;intro o ho K hK;simp at ho;subst ho;gi_big_quiet_op;go_big_quiet_on
     refine Go.zqE 5 hG (by kernel_rfl) (fun _ _ _ h=>by cases h.1) rfl ?_;intro o ho K hK;simp at ho;subst ho;gi_big_quiet_op;go_big_quiet_on
     refine Go.zqE 6 hG (by kernel_rfl) (fun _ _ _ h=>by cases h.1) rfl ?_;intro o ho K hK;simp at ho;subst ho;gi_big_quiet_op;go_big_quiet_on
     clear t0 t1 t2 u4 u5 v0 v1 v2 v3 v4 v5
     refine Go.zoE 7 (by kernel_rfl) rfl ?_ ?_;rotate_left;intro o ho K hK;simp at ho;subst ho
     gi_wp2_with (first | (gi_at_call 73;refine CallsIn.mono (CallsIn.inRound l (anyN (k73 _))) ?_;rintro e w8 ⟨rfl,n8⟩) | gi_in)
     have hsets:=hsets0.blk (n8.block _ (by have:=(n6.trans n7).size;omega))
     refine Go.zqE 8 hG (by kernel_rfl) (fun _ _ _ h=>by cases h.1) rfl ?_;intro o ho K hK;simp at ho;subst ho;gi_big_quiet_op;go_big_quiet_on
     clear hG hG' hN
     refine Go.zoE 9 (by kernel_rfl) rfl ?_ ?_;rotate_left;intro o ho K hK;simp at ho;subst ho
     refine zhi (.inr ⟨_,rfl⟩) _ _ _ 104 rfl Try.underlying104 (A+1+1+1) _ _ s' rfl rfl rfl hsI hsets hlen2 ?_
     intro w9 hS9 g9
     refine hK _ _ ?_
     simp only [Act.put,List.setIfInBounds_toArray,List.set_cons_succ,List.set_cons_zero]
     have hb9:But [A+1+1+1,A+1+1+1+1+1] U w9:=(But.nx (((n6.trans n7).trans n8))).trans (But.grown g9 (by simp))
     have h59:w9.heap[A+1+1+1+1+1]?=some (.cells #[.bool true] 4 (0,0)):=(g9.block _ (by have:=(((n6.trans n7).trans n8)).size;omega) (by simp<;>omega)).trans (((((n6.trans n7).trans n8)).block _ (by omega)).trans hU3)
     have c59:=zaa (i:=0) h59 rfl
     have f59:=zac (i:=0) h59
     refine Go.zoE 10 (by kernel_rfl) rfl ?_ ?_;rotate_left;intro o ho K hK;simp at ho;subst ho
     gi_wp2_with fail
     refine zar (by kernel_rfl) (fun h=>absurd h (by decide)) ⟨rfl,?_⟩
     ·have hF:But [A+1+1+1,A+1+1+1+1+1] U (w9.setCell ⟨A+1+1+1+1+1,0,none⟩ (.bool (za5 x s'))):=hb9.trans (But.set (by simp))
      have hSF:=hS9.blk (w':=w9.setCell ⟨A+1+1+1+1+1,0,none⟩ (.bool (za5 x s'))) (zae (by omega))
      have hgF:=zaA (i:=0) (v:=.bool (za5 x s')) h59
      refine (show KeepsFrom X.heap.size U _∧KpB Bw U _∧(But [A+1+1+1,A+1+1+1+1+1] X _∧_∧_) from ⟨hF.keeps (by simp<;>omega),⟨hF.size,hF.block Bw (by omega) (by simp<;>omega)⟩,hU1.trans hF,?_,?_⟩)
      ·rw [show n' + (pre++[a]).length=n' + pre.length+1 by simp;omega]
       refine hSF.congr fun t=>?_
       rw [← HS1.out]
       simp only [List.mem_append,List.mem_singleton,or_and_right,exists_or,exists_eq_left,or_assoc]
      ·refine hgF.trans ?_
       rw [List.all_append,← Bool.and_assoc,HB0.out]
       simp [HS1.out]
     all_goals (intro _;first | exact But.nx n7 | exact But.nx (n7.trans n8) | exact (But.nx (n7.trans n8)).trans (But.grown g9 (by simp)) | exact (But.nx n7).trans (But.grown g9 (by simp)))
    | false =>
     refine Go.ztE 4 (by kernel_rfl) (fun _ _ _ h=>by cases h.1) ?_;intro o ho;simp at ho;subst ho;refine⟨_,Go.yC_not (fun _=>trivial) rfl,?_⟩;simp only [Go.Act.put,List.setIfInBounds_toArray,List.set_cons_succ,List.set_cons_zero]
     refine Go.ztE 5 (by kernel_rfl) (fun _ _ _ h=>by cases h.1) ?_;intro o ho;simp at ho;subst ho;refine⟨_,Go.yC_not (fun _=>trivial) rfl,?_⟩;simp only [Go.Act.put,List.setIfInBounds_toArray,List.set_cons_succ,List.set_cons_zero]
     refine Go.ztE 6 (by kernel_rfl) (fun _ _ _ h=>by cases h.1) ?_;intro o ho;simp at ho;subst ho;refine⟨_,Go.yC_not (fun _=>trivial) rfl,?_⟩;simp only [Go.Act.put,List.setIfInBounds_toArray,List.set_cons_succ,List.set_cons_zero]
     clear t0 t1 t2 u4 u5 v0 v1 v2 v3 v4 v5
     refine Go.zsE 7 (by kernel_rfl) (by simp) (fun o ho=>by simp at ho;subst ho;rfl) (fun _=>trivial) ?_ ?_;rotate_left;intro o ho;simp at ho;subst ho;simp only [Go.Act.put,List.setIfInBounds_toArray,List.set_cons_succ,List.set_cons_zero]
     have hsets:=hsets0
     refine Go.zqE 8 hG (by kernel_rfl) (fun _ _ _ h=>by cases h.1) rfl ?_;intro o ho K hK;simp at ho;subst ho;gi_big_quiet_op;go_big_quiet_on
     clear hG hG' hN
     refine Go.zoE 9 (by kernel_rfl) rfl ?_ ?_;rotate_left;intro o ho K hK;simp at ho;subst ho
     refine zhi (.inr ⟨_,rfl⟩) _ _ _ 104 rfl Try.underlying104 (A+1+1+1) _ _ s' rfl rfl rfl hsI hsets hlen2 ?_
     intro w9 hS9 g9
     refine hK _ _ ?_
     simp only [Act.put,List.setIfInBounds_toArray,List.set_cons_succ,List.set_cons_zero]
     have hb9:But [A+1+1+1,A+1+1+1+1+1] U w9:=(But.nx (n6.trans n7)).trans (But.grown g9 (by simp))
     have h59:w9.heap[A+1+1+1+1+1]?=some (.cells #[.bool false] 4 (0,0)):=(g9.block _ (by have:=(n6.trans n7).size;omega) (by simp<;>omega)).trans (((n6.trans n7).block _ (by omega)).trans hU3)
     have c59:=zaa (i:=0) h59 rfl
     have f59:=zac (i:=0) h59
     refine Go.zoE 10 (by kernel_rfl) rfl ?_ ?_;rotate_left;intro o ho K hK;simp at ho;subst ho
     gi_wp2_with fail
     refine zar (by kernel_rfl) (fun h=>absurd h (by decide)) ⟨rfl,?_⟩
     ·have hF:But [A+1+1+1,A+1+1+1+1+1] U (w9.setCell ⟨A+1+1+1+1+1,0,none⟩ (.bool false)):=hb9.trans (But.set (by simp))
      have hSF:=hS9.blk (w':=w9.setCell ⟨A+1+1+1+1+1,0,none⟩ (.bool false)) (zae (by omega))
      have hgF:=zaA (i:=0) (v:=.bool false) h59
      refine (show KeepsFrom X.heap.size U _∧KpB Bw U _∧(But [A+1+1+1,A+1+1+1+1+1] X _∧_∧_) from ⟨hF.keeps (by simp<;>omega),⟨hF.size,hF.block Bw (by omega) (by simp<;>omega)⟩,hU1.trans hF,?_,?_⟩)
      ·rw [show n' + (pre++[a]).length=n' + pre.length+1 by simp;omega]
       refine hSF.congr fun t=>?_
       rw [← HS1.out]
       simp only [List.mem_append,List.mem_singleton,or_and_right,exists_or,exists_eq_left,or_assoc]
      ·refine hgF.trans ?_
       rw [List.all_append,← Bool.and_assoc,HB0.out]
       simp [HS1.out]
     all_goals (intro _;first | exact But.nx n7 | exact But.nx (n7.trans n8) | exact (But.nx (n7.trans n8)).trans (But.grown g9 (by simp)) | exact (But.nx n7).trans (But.grown g9 (by simp)))
   case done =>
    rintro D ys2 U hD hS2 ⟨hU1,hU2,hU3⟩ hK
    have hlen:ys2.length≤4:=by
     have:=congrArg List.length hS2
     rw [List.length_map,zcz] at this
     omega
    have hmU:=Marks.cons (W0:=X) (W:=U) hmkX (hmkX.keep (fun D hD hD2=>(hU1.block D (Array.getElem?_eq_some_iff.1 hD2).1 (by simp<;>omega)).trans hD2)) hD (by omega) hK
    have hrgU:RgS U M0 (A+6) n (·∈l) (s :: ys) cnt':=((hrg2.kept (nYX.grown none) (by simp) (by simp))).blk (hU1.block _ (by omega) (by simp<;>omega)) (hU1.block _ (by omega) (by simp<;>omega))
    have hml:U.rangeLeft M0 (A+6)<wr.rangeLeft M0 (A+6):=by rw [hleft.out,hrgU.left_eq];exact hlt
    have hall2:∀ t,(t∈afterL d x h ys∨∃ a∈ys2,t=za9 d hv s h a.1)↔t∈afterL d x h (s :: ys):=fun t=>by
     rw [zlK,hat1,Stp.damps,← hS2]
     simp
    have hkp2:(keepL d x h ys && ys2.all fun a=>za5 x (za9 d hv s h a.1))=keepL d x h (s :: ys):=by
     rw [zno,hat1,Stp.damps,← hS2,List.all_map]
     rfl
    rw [hkp2] at hU3
    replace hU2:=hU2.congr hall2
    have hbU:=hbX.trans (hU1.mono (by simp))
    clear hall2 hkp2 hK hS2
    gi_wp2
    refine⟨?_,?measure⟩
    repeat apply Exists.intro
    refine⟨?rel,rfl⟩
    case rel =>
     refine⟨s :: ys,cnt',n' + ys2.length,hrgU,hU2,?_,hU3,hbU,hmU,?_,?_⟩
     ·rw [List.length_cons];omega
     ·rw [List.length_cons];omega
     ·intro t ht
      rcases List.mem_cons.1 ht with rfl | ht
      ·exact hXs
      ·exact hys t ht
    case measure=>exact hml
   case stop =>
    rintro D c pre U _ _ h _
    exact h.elim
end Go.Proofs.Ytedomogjmhommaa
namespace Go.Proofs.Ytedomogjmhommaa
open Go.RowKit Go.Shelf
theorem zgE {p:Nat→Bool} {n:Nat} (h:0≤zcM p n):∃ k,k<n∧zcM p n=k∧p k=true:=by
 unfold zcM at *
 cases hf:(List.range n).find? p with
 | none=>rw [hf] at h;simp at h
 | some k=>exact⟨k,List.mem_range.1 (List.mem_of_find?_eq_some hf),rfl,List.find?_some hf⟩
def nextL (d:Dry) (x:Stp) (c:St→Int) (l:List St):List St:=l.flatMap fun s=>x.damps.map fun a=>za9 d (zaM d (c s).toNat) s (c s) a
def setAt (d:Dry):Nat→List St
 | 0=>[d.start]
 | i+1=>match d.steps[i]? with | some x=>setS (nextL d x (chooseS d (d.steps.drop i)) (setAt d i)) | none=>[]
theorem zfp {d:Dry} {i:Nat} {x:Stp} (h:d.steps[i]?=some x):setAt d (i+1)=setS (nextL d x (chooseS d (d.steps.drop i)) (setAt d i)):=by rw [setAt,h]
theorem zdx {α:Type} {l:List α} {i:Nat} {x:α} (h:l[i]?=some x):l.drop i=x :: l.drop (i+1):=by
 have hl:=(List.getElem?_eq_some_iff.1 h).1
 rw [List.drop_eq_getElem_cons hl]
 rw [List.getElem?_eq_getElem hl,Option.some.injEq] at h
 rw [h]
theorem mem_nextL {d:Dry} {x:Stp} {c:St→Int} {l:List St} {t:St}:t∈nextL d x c l↔∃ s∈l,∃ a∈x.damps,t=za9 d (zaM d (c s).toNat) s (c s) a:=by
 simp [nextL,List.mem_flatMap,List.mem_map,eq_comm]
theorem zeI {x:Stp} {a:Int} (h:a∈x.damps):x.lo≤a∧a≤x.hi:=by
 simp only [Stp.damps,zbj,List.mem_map,List.mem_range] at h
 obtain⟨i,hi,rfl⟩:=h
 omega
theorem zgy {x:Stp} (h:0≤x.lo∧x.lo≤x.hi∧x.hi≤3):x.damps.length≤4:=by
 rw [Stp.damps,zcz]
 omega
theorem zgs {d:Dry} {x:Stp} {xs:List Stp} {s:St} (h:0≤chooseS d (x :: xs) s):∃ k,k<d.heats.length∧chooseS d (x :: xs) s=k∧goodS d (chooseS d xs) x s k=true:=by
 simp only [chooseS] at h ⊢
 exact zgE h
theorem znf {d:Dry} {x:Stp} {c:St→Int} {s:St} {k:Nat} (h:goodS d c x s k=true):mayB d.heats.length x s.h k=true∧∀ a∈x.damps,za5 x (za9 d (zaM d k) s k a)=true∧0≤c (za9 d (zaM d k) s k a):=by
 unfold goodS at h
 rw [Bool.and_eq_true,List.all_eq_true] at h
 refine⟨h.1,fun a ha=>?_⟩
 have:=h.2 a ha
 unfold zeG at this
 simpa using this
theorem zdW {d:Dry} {k:Nat} (h:k<d.heats.length):d.heats[k]?=some (zaM d k):=by
 unfold zaM
 rw [List.getElem?_eq_getElem h]
 rfl
theorem zll {d:Dry} (hO:d.Ok) {x:Stp} {xs:List Stp} (hx:x∈d.steps) {l:List St} (hl:∀ s∈l,s.Ok d.heats.length∧0≤chooseS d (x :: xs) s):∀ t∈nextL d x (chooseS d (x :: xs)) l,t.Ok d.heats.length∧0≤chooseS d xs t∧za5 x t=true:=by
 intro t ht
 obtain⟨s,hs,a,ha,rfl⟩:=mem_nextL.1 ht
 obtain⟨h1,h2⟩:=hl s hs
 obtain⟨k,hk,e,hg⟩:=zgs h2
 have:=(znf hg).2 a ha
 rw [e,Int.toNat_natCast]
 have hst:=(hO.st x hx).1
 have hda:=zeI ha
 exact⟨zep hO (List.mem_of_getElem? (zdW hk)) h1 (by omega) (by omega),this.2,this.1⟩
theorem zlw {d:Dry} (hO:d.Ok) (h0:0≤chooseS d d.steps d.start):∀ i,i≤d.steps.length→∀ s∈setAt d i,s.Ok d.heats.length∧0≤chooseS d (d.steps.drop i) s
 | 0,_,s,hs=>by
  simp only [setAt,List.mem_singleton] at hs
  subst hs
  exact⟨stF_ok.1 hO.start,h0⟩
 | i+1,hi,s,hs=>by
  have hx:d.steps[i]?=some d.steps[i]:=List.getElem?_eq_getElem (by omega)
  have ih:=zlw hO h0 i (by omega)
  rw [zfp hx,znA] at hs
  rw [zdx hx] at ih hs
  have:=zll hO (List.mem_of_getElem? hx) ih s hs
  exact⟨this.1,this.2.1⟩
theorem zlI (s:St):∀ l:List St,(zex l s).length≤l.length+1
 | []=>by simp [zex]
 | x :: l=>by
  unfold zex
  split
  ·have:=zlI s l;simp only [List.length_cons];omega
  ·split<;>simp
theorem zle:∀ l k:List St,(l.foldl zex k).length≤k.length+l.length
 | [],k=>by simp
 | x :: l,k=>by
  have h1:=zle l (zex k x)
  have h2:=zlI x k
  rw [List.foldl_cons,List.length_cons]
  omega
theorem zp6 (l:List St):(setS l).length≤l.length:=by have:=zle l [];simpa [setS] using this
theorem zjr {d:Dry} {x:Stp} {c:St→Int} (h:x.damps.length≤4):∀ l:List St,(nextL d x c l).length≤4 * l.length
 | []=>by simp [nextL]
 | s :: l=>by
  have ih:=zjr (d:=d) (c:=c) h l
  unfold nextL at *
  rw [List.flatMap_cons,List.length_append,List.length_map,List.length_cons]
  omega
theorem zjG {d:Dry} (hO:d.Ok):∀ i,(setAt d i).length≤4 ^ i
 | 0=>by simp [setAt]
 | i+1=>by
  have ih:=zjG hO i
  cases hx:d.steps[i]? with
  | none=>rw [setAt,hx];exact Nat.zero_le _
  | some x =>
   rw [zfp hx]
   have h1:=zp6 (nextL d x (chooseS d (d.steps.drop i)) (setAt d i))
   have h2:=zjr (d:=d) (c:=chooseS d (d.steps.drop i)) (zgy (hO.st x (List.mem_of_getElem? hx)).1) (setAt d i)
   rw [Nat.pow_succ]
   omega
theorem zhX {d:Dry} (hO:d.Ok) {i:Nat} (hi:i≤d.steps.length):(setAt d i).length≤1024 :=
 Nat.le_trans (zjG hO i) (by have:=hO.s5;exact Nat.pow_le_pow_right (by omega) (show i≤5 by omega))
def ze0 (d:Dry):List (List St)×Bool×Int :=
 if dryF d≠0 then ([],false,dryF d) else if chooseS d d.steps d.start<0 then ([],false,0) else ((List.range (d.steps.length+1)).map (setAt d),true,0)
def SetsSl (w:World) (v:Value) (L:List (List St)):Prop:=∃ vs:List Value,Sl w v 1 (vs.map fun u=>[u])∧vs.length=L.length∧∀ (i:Nat) (u:Value) (l:List St),vs[i]?=some u→L[i]?=some l→Sl w u 3 (l.map St.cells)
theorem SetsSl.nx {w w' : World} {v:Value} {L:List (List St)} (h:SetsSl w v L) (n:Nx w w'):SetsSl w' v L:=by
 obtain⟨vs,h1,h2,h3⟩:=h
 exact⟨vs,h1.nx n,h2,fun i u l hu hl=>(h3 i u l hu hl).nx n⟩
end Go.Proofs.Ytedomogjmhommaa
