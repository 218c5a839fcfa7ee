import Derived.Test.YtedomogjmhommaaH15
import Derived.Test.YtedomogjmhommaaH17
set_option linter.all false
set_option maxRecDepth 100000
set_option maxHeartbeats 8000000
namespace Go.Proofs.Ytedomogjmhommaa
open Go.RowKit Go.Shelf
attribute [local go_sem] Oper.semAt_some
theorem zo5 {t:Array Value} {W:World} {b1 b2 b3 b4:Nat} {x y z u:Value} {f1 f2 f3 f4:Nat×Nat} (h4:t[4]?=some (ptr b1)) (h5:t[5]?=some (ptr b2)) (h6:t[6]?=some (ptr b3)) (h7:t[7]?=some (ptr b4)) (g1:W.heap[b1]?=some (.cells #[x] 38 f1)) (g2:W.heap[b2]?=some (.cells #[y] 3 f2)) (g3:W.heap[b3]?=some (.cells #[z] 4 f3)) (g4:W.heap[b4]?=some (.cells #[u] 30 f4)):(results Try.f26 t).run Try.prog W=.ok (.tuple #[x,y,z,u]) W:=by
 have c0:=zaa (i:=0) g1 rfl
 have c1:=zaa (i:=0) g2 rfl
 have c2:=zaa (i:=0) g3 rfl
 have c3:=zaa (i:=0) g4 rfl
 simp [results,Try.results26,go_sem,h4,h5,h6,h7,c0,c1,c2,c3]
structure Bx (W:World) (A:Nat) (x y z u:Value):Prop where
 a:W.heap[A+1+1]?=some (.cells #[x] 38 (0,0))
 b:W.heap[A+1+1+1]?=some (.cells #[y] 3 (0,0))
 c:W.heap[A+1+1+1+1]?=some (.cells #[z] 4 (0,0))
 d:W.heap[A+1+1+1+1+1]?=some (.cells #[u] 30 (0,0))
theorem Bx.same {W W' : World} {A:Nat} {x y z u:Value} (h:Bx W A x y z u) (hk:∀ b,A≤b→b≤A+5→W'.heap[b]?=W.heap[b]?):Bx W' A x y z u :=
 ⟨(hk _ (by omega) (by omega)).trans h.a,(hk _ (by omega) (by omega)).trans h.b,(hk _ (by omega) (by omega)).trans h.c,(hk _ (by omega) (by omega)).trans h.d⟩
theorem Bx.set {W:World} {A:Nat} {x y z u x' y' z' u' : Value} (h:Bx W A x y z u):Bx ((((W.setCell ⟨A+1+1,0,none⟩ x').setCell ⟨A+1+1+1,0,none⟩ y').setCell ⟨A+1+1+1+1,0,none⟩ z').setCell ⟨A+1+1+1+1+1,0,none⟩ u') A x' y' z' u' :=
 ⟨(zae (by omega)).trans ((zae (by omega)).trans ((zae (by omega)).trans (zaA h.a))),(zae (by omega)).trans ((zae (by omega)).trans (zaA ((zae (by omega)).trans h.b))),
  (zae (by omega)).trans (zaA ((zae (by omega)).trans ((zae (by omega)).trans h.c))),zaA ((zae (by omega)).trans ((zae (by omega)).trans ((zae (by omega)).trans h.d)))⟩
theorem zg4 (d:Dry) (r:R2) (u:Value) (plan:List Int) (w:World) (hd:DrySl w d r) (hu:Sl w u 1 (plan.map one)) (hl:plan.length≤1000000000) :
  CallsIn FW 0 Try.prog 26 #[d.val r,u] w fun e w'=>∃ v,e=.returned (.tuple #[v,num (zbL d plan).2.1,.bool (zbL d plan).2.2.1,num (zbL d plan).2.2.2])∧Nx w w'∧Sl w' v 1 ((zbL d plan).1.map one):=by
 have k70b:=fun (h:dryF d≠0) (w1:World) (n:Nx w w1)=>zer d r u w1 (hd.nx n) h
 have k70:=fun (h:dryF d=0) (w1:World) (n:Nx w w1)=>zfn d r u plan w1 (hd.nx n) h (hu.nx n) hl
 obtain⟨ua,ucap,rfl⟩:=hu.cases
 have HU:=Lib.hid hu
 obtain⟨rh,rs⟩:=r
 obtain⟨ha,hcap,hrs⟩:=hd.heats.cases
 dsimp only at hrs
 subst hrs
 obtain⟨sa,scap,hrs⟩:=hd.steps.cases
 dsimp only at hrs
 subst hrs
 rw [List.length_map,List.length_map] at *
 rw [List.length_map] at *
 clear hd hu
 obtain⟨g,hg⟩:∃ g,zbL d plan=g:=⟨_,rfl⟩
 rw [hg]
 have HG:=Lib.hid hg
 clear hg
 apply anyN (n:=4)
 refine callsIn_of_wp_marks Try.func26 rfl trivial ?_ rfl
 simp only [Try.ntmps26,List.size_toArray,List.length_cons,List.length_nil,Nat.reduceAdd,Nat.reduceSub,Array.replicate_succ,Array.replicate_zero,List.push_toArray,List.append_toArray,List.nil_append,List.cons_append]
 gi_upto_region 1 with fail
 generalize hWn:(((((w.alloc _).alloc _).alloc _).alloc _).alloc _).alloc _=W
 obtain⟨nW,sW,g0,g1,g2,g3,g4,g5⟩:=al6 hWn
 have hbW:DBox W w.heap.size d ⟨.slice ha d.heats.length hcap,.slice sa d.steps.length scap⟩:=⟨by omega,fun i v h=>zaa g0 h⟩
 clear hWn g0
 generalize hA:w.heap.size=A at *
 have hBx:Bx W A (.slice none 0 0) (num 0) (.bool false) (num 0):=⟨g2,g3,g4,g5⟩
 clear g2 g3 g4
 have p1:=zaa (i:=0) (v:=.slice ua plan.length ucap) g1 rfl
 have c0:=hbW.at' 0 _ rfl
 have c1:=hbW.at' 1 _ rfl
 have c2:=hbW.at' 2 _ rfl
 have c3:=hbW.at' 3 _ rfl
 have c4:=hbW.at' 4 _ rfl
 have c5:=hbW.at' 5 _ rfl
 have c6:=hbW.at' 6 _ rfl
 by_cases q0:dryF d=0
 case neg =>
  have HR:Hid (g=([],0,false,dryF d)):=by
   have e:zbp d plan=dryF d:=by unfold zbp;rw [if_pos q0]
   show _=_;rw [← HG.out];unfold zbL;rw [e,if_pos q0]
  have b1:(dryF d == 0)=false:=beq_false_of_ne q0
  have k70b:=k70b q0
  clear k70
  generalize dryF d=f at *
  gi_upto_region 2 with (first | (gi_at_call 70;refine CallsIn.mono (anyN (k70b _ nW)) ?_;rintro e w2 ⟨rfl,n2⟩;have gx:=(zbq (o:=.cells #[.pointer none] 87) (show A+1+1+1+1+1<w2.heap.size by have:=n2.size;omega)).trans ((n2.block (A+1+1+1+1+1) (by omega)).trans g5);have cx:=zaa (i:=0) (v:=num 0) gx rfl;have fx:=zac (i:=0) gx) | gi_in)
  have hsz2:A+5<w2.heap.size:=by have:=n2.size;omega
  have gy:(w2.alloc (.cells #[.pointer none] 87)).heap[A+1+1+1+1+1]?=some (.cells #[num 0] 30 (0,0)):=(zbq (by omega)).trans ((n2.block _ (by omega)).trans g5)
  have hBy:Bx (w2.alloc (.cells #[.pointer none] 87)) A (.slice none 0 0) (num 0) (.bool false) (num 0):=hBx.same (fun b h1 h2=>(zbq (by omega)).trans (n2.block b (by omega)))
  have nZ:Nx w ((w2.alloc (.cells #[.pointer none] 87)).setCell ⟨A+1+1+1+1+1,0,none⟩ (num f)):=Nx.set (zaj (nW.trans n2) _) (by omega)
  have hBz:Bx ((w2.alloc (.cells #[.pointer none] 87)).setCell ⟨A+1+1+1+1+1,0,none⟩ (num f)) A (.slice none 0 0) (num 0) (.bool false) (num f):=⟨(zae (by omega)).trans hBy.a,(zae (by omega)).trans hBy.b,(zae (by omega)).trans hBy.c,zaA hBy.d⟩
  clear cx fx gx
  generalize (w2.alloc (.cells #[.pointer none] 87)).setCell ⟨A+1+1+1+1+1,0,none⟩ (num f)=Z at nZ hBz ⊢
  have cz:=zaa (i:=0) (v:=num f) hBz.d rfl
  gi_upto_region 3 with fail
  refine zat (Same [A+1+1+1+1+1] Z) 4 (by kernel_rfl) ?_
  obtain⟨Y,G,hN',hG,hG'⟩:=zaC (C:=Same [A+1+1+1+1+1] Z) (x:=Z) (fun _ _=>rfl)
  have t0:=fun z=>(hG' z).cell (by simp) cz
  change Go.wpAnyZ _ _ _ _ _ _ _ _ 5 #[false,false,false,false,false] _ _
  have n7:Nx Z Z.drew:=Nx.drew (Nx.refl Z)
  have hB7:Bx Z.drew A (.slice none 0 0) (num 0) (.bool false) (num f):=hBz.same (fun _ _ _=>rfl)
  have hC7:Same [A+1+1+1+1+1] Z Z.drew:=fun _ _=>rfl
  have nZ7:=nZ.trans n7
  generalize Z.drew=V7 at n7 hB7 hC7 nZ7 ⊢
  refine Go.zqE 0 hG (by kernel_rfl) (fun _ _ _ h=>by cases h.1) rfl ?_;intro o ho K hK;simp at ho;subst ho;gi_big_quiet_op;go_big_quiet_on
  have v0:=zaa (i:=0) (v:=.slice none 0 0) hB7.a rfl
  have v1:=zaa (i:=0) (v:=num 0) hB7.b rfl
  have v2:=zaa (i:=0) (v:=.bool false) hB7.c rfl
  have v3:=zaa (i:=0) (v:=num f) hB7.d rfl
  have x0:=zac (i:=0) hB7.a
  have x1:=zac (i:=0) hB7.b
  have x2:=zac (i:=0) hB7.c
  have x3:=zac (i:=0) hB7.d
  refine Go.zoE 1 (by kernel_rfl) rfl ?_ ?_;rotate_left;intro o ho K hK;simp at ho;subst ho
  gi_wp2_with fail
  refine Go.zoE 2 (by kernel_rfl) rfl ?_ ?_;rotate_left;intro o ho K hK;simp at ho;subst ho
  gi_wp2_with fail
  refine Go.zoE 3 (by kernel_rfl) rfl ?_ ?_;rotate_left;intro o ho K hK;simp at ho;subst ho
  gi_wp2_with fail
  refine Go.zoE 4 (by kernel_rfl) rfl ?_ ?_;rotate_left;intro o ho K hK;simp at ho;subst ho
  gi_wp2_with fail
  have hBF:=hB7.set (x':=.slice none 0 0) (y':=num 0) (z':=.bool false) (u':=num f)
  refine zar (by kernel_rfl) (fun h=>absurd h (by decide)) ⟨rfl,?_⟩
  ·gi_wp2
   refine⟨_,zo5 rfl rfl rfl rfl hBF.a hBF.b hBF.c hBF.d,_,by rw [HR.out]<;>rfl,?_,by rw [HR.out];exact⟨0,.inl ⟨rfl,rfl⟩⟩⟩
   repeat (refine Nx.set ?_ (by omega))
   exact nZ7
  all_goals (intro _ b hb;simp at hb;subst hb;first | exact hC7 _ (by simp) | (repeat (refine (zae (by omega)).trans ?_));exact hC7 _ (by simp))
 case pos =>
 have hpf:zbp d plan=plF d plan:=by unfold zbp;rw [if_neg (by simpa using q0)]
 have k70:=k70 q0
 clear k70b
 by_cases q1:plF d plan=0
 case neg =>
  have HR:Hid (g=([],0,false,plF d plan)):=by show _=_;rw [← HG.out];unfold zbL;rw [hpf,if_pos q1]
  have b1:(plF d plan == 0)=false:=beq_false_of_ne q1
  clear hpf
  generalize plF d plan=f at *
  gi_upto_region 2 with (first | (gi_at_call 70;refine CallsIn.mono (anyN (k70 _ nW)) ?_;rintro e w2 ⟨B,rfl,n2,hS⟩;have gx:=(zbq (o:=.cells #[ptr B] 87) (show A+1+1+1+1+1<w2.heap.size by have:=n2.size;omega)).trans ((n2.block (A+1+1+1+1+1) (by omega)).trans g5);have cx:=zaa (i:=0) (v:=num 0) gx rfl;have fx:=zac (i:=0) gx) | gi_in)
  have hsz2:A+5<w2.heap.size:=by have:=n2.size;omega
  have gy:(w2.alloc (.cells #[ptr B] 87)).heap[A+1+1+1+1+1]?=some (.cells #[num 0] 30 (0,0)):=(zbq (by omega)).trans ((n2.block _ (by omega)).trans g5)
  have hBy:Bx (w2.alloc (.cells #[ptr B] 87)) A (.slice none 0 0) (num 0) (.bool false) (num 0):=hBx.same (fun b h1 h2=>(zbq (by omega)).trans (n2.block b (by omega)))
  have nZ:Nx w ((w2.alloc (.cells #[ptr B] 87)).setCell ⟨A+1+1+1+1+1,0,none⟩ (num f)):=Nx.set (zaj (nW.trans n2) _) (by omega)
  have hBz:Bx ((w2.alloc (.cells #[ptr B] 87)).setCell ⟨A+1+1+1+1+1,0,none⟩ (num f)) A (.slice none 0 0) (num 0) (.bool false) (num f):=⟨(zae (by omega)).trans hBy.a,(zae (by omega)).trans hBy.b,(zae (by omega)).trans hBy.c,zaA hBy.d⟩
  clear cx fx gx
  generalize (w2.alloc (.cells #[ptr B] 87)).setCell ⟨A+1+1+1+1+1,0,none⟩ (num f)=Z at nZ hBz ⊢
  have cz:=zaa (i:=0) (v:=num f) hBz.d rfl
  gi_upto_region 3 with fail
  refine zat (Same [A+1+1+1+1+1] Z) 4 (by kernel_rfl) ?_
  obtain⟨Y,G,hN',hG,hG'⟩:=zaC (C:=Same [A+1+1+1+1+1] Z) (x:=Z) (fun _ _=>rfl)
  have t0:=fun z=>(hG' z).cell (by simp) cz
  change Go.wpAnyZ _ _ _ _ _ _ _ _ 5 #[false,false,false,false,false] _ _
  have n7:Nx Z Z.drew:=Nx.drew (Nx.refl Z)
  have hB7:Bx Z.drew A (.slice none 0 0) (num 0) (.bool false) (num f):=hBz.same (fun _ _ _=>rfl)
  have hC7:Same [A+1+1+1+1+1] Z Z.drew:=fun _ _=>rfl
  have nZ7:=nZ.trans n7
  generalize Z.drew=V7 at n7 hB7 hC7 nZ7 ⊢
  refine Go.zqE 0 hG (by kernel_rfl) (fun _ _ _ h=>by cases h.1) rfl ?_;intro o ho K hK;simp at ho;subst ho;gi_big_quiet_op;go_big_quiet_on
  have v0:=zaa (i:=0) (v:=.slice none 0 0) hB7.a rfl
  have v1:=zaa (i:=0) (v:=num 0) hB7.b rfl
  have v2:=zaa (i:=0) (v:=.bool false) hB7.c rfl
  have v3:=zaa (i:=0) (v:=num f) hB7.d rfl
  have x0:=zac (i:=0) hB7.a
  have x1:=zac (i:=0) hB7.b
  have x2:=zac (i:=0) hB7.c
  have x3:=zac (i:=0) hB7.d
  refine Go.zoE 1 (by kernel_rfl) rfl ?_ ?_;rotate_left;intro o ho K hK;simp at ho;subst ho
  gi_wp2_with fail
  refine Go.zoE 2 (by kernel_rfl) rfl ?_ ?_;rotate_left;intro o ho K hK;simp at ho;subst ho
  gi_wp2_with fail
  refine Go.zoE 3 (by kernel_rfl) rfl ?_ ?_;rotate_left;intro o ho K hK;simp at ho;subst ho
  gi_wp2_with fail
  refine Go.zoE 4 (by kernel_rfl) rfl ?_ ?_;rotate_left;intro o ho K hK;simp at ho;subst ho
  gi_wp2_with fail
  have hBF:=hB7.set (x':=.slice none 0 0) (y':=num 0) (z':=.bool false) (u':=num f)
  refine zar (by kernel_rfl) (fun h=>absurd h (by decide)) ⟨rfl,?_⟩
  ·gi_wp2
   refine⟨_,zo5 rfl rfl rfl rfl hBF.a hBF.b hBF.c hBF.d,_,by rw [HR.out]<;>rfl,?_,by rw [HR.out];exact⟨0,.inl ⟨rfl,rfl⟩⟩⟩
   repeat (refine Nx.set ?_ (by omega))
   exact nZ7
  all_goals (intro _ b hb;simp at hb;subst hb;first | exact hC7 _ (by simp) | (repeat (refine (zae (by omega)).trans ?_));exact hC7 _ (by simp))
 case pos =>
 have HR:Hid (g=ziG d plan ((zaH d.steps).find? (fun a=>decide (0≤brk d (zaq d d.start plan a))))):=by show _=_;rw [← HG.out];unfold zbL;rw [hpf,if_neg (by simpa using q1)]
 obtain⟨hO,hpl,hpp⟩:=zcR (hpf.trans q1)
 have hs5:=hO.s5
 rw [q1] at k70
 have HPL:=Lib.hid hpl
 have HPP:=Lib.hid hpp
 have hplen:plan.length≤5:=by omega
 clear hpf q1 hpp hpl
 gi_upto_region 2 with (first | (gi_at_call 70;refine CallsIn.mono (anyN (k70 _ nW)) ?_;rintro e w2 ⟨B,rfl,n2,hS⟩;have gx:=(zbq (o:=.cells #[ptr B] 87) (show A+1+1+1+1+1<w2.heap.size by have:=n2.size;omega)).trans ((n2.block (A+1+1+1+1+1) (by omega)).trans g5);have cx:=zaa (i:=0) (v:=num 0) gx rfl;have fx:=zac (i:=0) gx) | gi_in)
 have hsz2:A+5<w2.heap.size:=by have:=n2.size;omega
 have hBy:Bx (w2.alloc (.cells #[ptr B] 87)) A (.slice none 0 0) (num 0) (.bool false) (num 0):=hBx.same (fun b h1 h2=>(zbq (by omega)).trans (n2.block b (by omega)))
 have nZ:Nx w ((w2.alloc (.cells #[ptr B] 87)).setCell ⟨A+1+1+1+1+1,0,none⟩ (num 0)):=Nx.set (zaj (nW.trans n2) _) (by omega)
 have hBz:Bx ((w2.alloc (.cells #[ptr B] 87)).setCell ⟨A+1+1+1+1+1,0,none⟩ (num 0)) A (.slice none 0 0) (num 0) (.bool false) (num 0):=⟨(zae (by omega)).trans hBy.a,(zae (by omega)).trans hBy.b,(zae (by omega)).trans hBy.c,zaA hBy.d⟩
 have hSz:StoveAt ((w2.alloc (.cells #[ptr B] 87)).setCell ⟨A+1+1+1+1+1,0,none⟩ (num 0)) B d:=(hS.nx (zaj (Nx.refl _) _)).one hBy.d (But.set (by simp))
 have hOz:((w2.alloc (.cells #[ptr B] 87)).setCell ⟨A+1+1+1+1+1,0,none⟩ (num 0)).cell? ⟨w2.heap.size,0,none⟩=some (ptr B):=zaa ((zae (by omega)).trans zaT) rfl
 have hPz:((w2.alloc (.cells #[ptr B] 87)).setCell ⟨A+1+1+1+1+1,0,none⟩ (num 0)).cell? ⟨A+1,0,none⟩=some (.slice ua plan.length ucap):=zaa ((zae (by omega)).trans ((zbq (by omega)).trans ((n2.block _ (by omega)).trans g1))) rfl
 have hszZ:((w2.alloc (.cells #[ptr B] 87)).setCell ⟨A+1+1+1+1+1,0,none⟩ (num 0)).heap.size=w2.heap.size+1:=by rw [zay];simp
 clear cx fx gx
 generalize (w2.alloc (.cells #[ptr B] 87)).setCell ⟨A+1+1+1+1+1,0,none⟩ (num 0)=Z at nZ hBz hSz hOz hPz hszZ ⊢
 have cz:=zaa (i:=0) (v:=num 0) hBz.d rfl
 have HZ:=Lib.hid hszZ
 clear hszZ c0 c1 c2 c3 c4 c5 c6 hS hBx hBy p1 g1 g5
 have k71:=fun (w1:World)=>zhv B w1
 gi_wp2_with (first | (gi_at_call 71;refine CallsIn.mono (anyN (k71 _)) ?_;rintro e w4 ⟨rfl,hw4⟩;replace hw4:=hw4.symm;subst hw4) | gi_in)
 generalize hXn:Z.alloc _=X
 obtain⟨nX,sX,gX⟩:=al1 hXn
 clear hXn cz
 have hBX:=hBz.same (fun b h1 h2=>nX.block b (by have:=HZ.out;omega))
 have hSX:=hSz.nx nX
 have hCX:=zaa (i:=0) (v:=ptr B) gX rfl
 have kcX:=Kc.nx nX
 have hOX:=kcX.cell hOz
 have hPX:=kcX.cell hPz
 have nwX:=nZ.trans nX
 have hZl:A+6≤Z.heap.size:=by have:=HZ.out;omega
 have hXs:X.heap.size=Z.heap.size+1:=sX
 have HX:=Lib.hid hXs
 clear hXs sX gX nX hBz hSz hOz hPz nZ kcX
 generalize hCo:Z.heap.size=Co at *
 have hOCo:w2.heap.size<Co:=by have:=HZ.out;omega
 generalize w2.heap.size=O at *
 refine Go.wpIn_rangeFunc_ownR rfl (by omega) rfl trivial (enters_of Try.func100 (by kernel_rfl) rfl) (zhx d hO B Co X hSX hCX) (fun h k=>KpR.trans h k) (fun W r o' hr=>⟨by simp,fun t=>t.one' hr,fun q o h1 _ h3 _=>(World.putObj_heap_other (by omega)).trans h3⟩) (fun x W r o' hr h=>⟨h.1,(World.putObj_heap_other (by omega)).trans h.2⟩) (fun _=>rfl) (fun pre U=>Nx X U∧∀ a∈pre,brk d (zaq d d.start plan a)<0) (fun c pre U=>c=.ret∧Nx w U∧∃ v init a,pre=init++[a]∧(∀ b∈init,brk d (zaq d d.start plan b)<0)∧0≤brk d (zaq d d.start plan a)∧Bx U A v (num (brk d (zaq d d.start plan a))) (.bool true) (num 0)∧U.ownsRow w.heap.size 3 1 v a.length (a.map num)) ?hI ?hIx ?h0 (fun x=>{ tmps:=(List.toArray ((Go.Proofs.Ytedomogjmhommaa.Dry.val d { h:=Go.Value.slice ha (List.length (Go.Proofs.Ytedomogjmhommaa.Dry.heats d)) hcap,s:=Go.Value.slice sa (List.length (Go.Proofs.Ytedomogjmhommaa.Dry.steps d)) scap }) :: (Go.Value.slice ua (List.length plan) ucap) :: (Go.Value.pointer (Option.some { block:=A,off:=0 })) :: (Go.Value.pointer (Option.some { block:=A+1,off:=0 })) :: (Go.Value.pointer (Option.some { block:=A+1+1,off:=0 })) :: (Go.Value.pointer (Option.some { block:=A+1+1+1,off:=0 })) :: (Go.Value.pointer (Option.some { block:=A+1+1+1+1,off:=0 })) :: (Go.Value.pointer (Option.some { block:=A+1+1+1+1+1,off:=0 })) :: (Go.Value.pointer (Option.some { block:=O,off:=0 })) :: (Go.Value.slice (Option.some { block:=Array.size (Go.World.heap X)+2+1,off:=0 }) (List.length (Go.Proofs.Ytedomogjmhommaa.Dry.steps d)) (List.length (Go.Proofs.Ytedomogjmhommaa.Dry.steps d))) :: Go.undef :: Go.undef :: (Go.Value.tuple #[Go.Proofs.Ytedomogjmhommaa.ptr B,Go.Proofs.Ytedomogjmhommaa.num 0]) :: (Go.Value.agg #[Go.Value.slice ha (List.length (Go.Proofs.Ytedomogjmhommaa.Dry.heats d)) hcap,Go.Proofs.Ytedomogjmhommaa.num (Go.Proofs.Ytedomogjmhommaa.Dry.soak d),Go.Proofs.Ytedomogjmhommaa.num (Go.Proofs.Ytedomogjmhommaa.Dry.brittle d),Go.Proofs.Ytedomogjmhommaa.num (Go.Proofs.Ytedomogjmhommaa.St.w (Go.Proofs.Ytedomogjmhommaa.Dry.start d)),Go.Proofs.Ytedomogjmhommaa.num (Go.Proofs.Ytedomogjmhommaa.St.c (Go.Proofs.Ytedomogjmhommaa.Dry.start d)),Go.Proofs.Ytedomogjmhommaa.num (Go.Proofs.Ytedomogjmhommaa.St.h (Go.Proofs.Ytedomogjmhommaa.Dry.start d)),Go.Value.slice sa (List.length (Go.Proofs.Ytedomogjmhommaa.Dry.steps d)) scap]) :: (Go.Value.slice ua (List.length plan) ucap) :: (Go.Value.tuple #[Go.Proofs.Ytedomogjmhommaa.ptr B,Go.Proofs.Ytedomogjmhommaa.num 0]) :: (Go.Proofs.Ytedomogjmhommaa.ptr B) :: (Go.Proofs.Ytedomogjmhommaa.num 0) :: (Go.Proofs.Ytedomogjmhommaa.num 0) :: (Go.Value.bool Bool.false) :: Go.undef :: (Go.Proofs.Ytedomogjmhommaa.ptr B) :: (Go.Value.func (Go.Fn.func 100) #[] #[Go.Proofs.Ytedomogjmhommaa.ptr Co]) :: (Go.Value.slice (Option.some { block:=Array.size (Go.World.heap X)+2+1,off:=0 }) (List.length (Go.Proofs.Ytedomogjmhommaa.Dry.steps d)) (List.length (Go.Proofs.Ytedomogjmhommaa.Dry.steps d))) :: Go.undef :: Go.undef :: Go.undef :: Go.undef :: Go.undef :: Go.undef :: Go.undef :: Go.undef :: Go.undef :: Go.undef :: Go.undef :: Go.undef :: Go.undef :: Go.undef :: Go.undef :: Go.undef :: Go.undef :: Go.undef :: Go.undef :: Go.undef :: Go.undef :: Go.undef :: Go.undef :: Go.undef :: Go.undef :: [])),defers:=[] }) ?assign ?body ?done ?stop
 case hI =>
  rintro pre U U' row ⟨h1,h2⟩ hg hr
  exact⟨Below.grown h1 hg h1.size (fun r e=>(hr r e).1),h2⟩
 case hIx =>
  rintro c pre U U' row ⟨h0,h1,v,init,a,h2,h3,h4,h5,h6⟩ hg hr
  have hne:∀ r,row=some r→X.heap.size≤r:=fun r e=>(hr r e).1
  have hXl:A+6≤X.heap.size:=by have:=HX.out;omega
  have hUl:A+5<U.heap.size:=zav h5.d
  refine⟨h0,Below.grown h1 hg h1.size (fun r e=>by have:=hne r e;omega),v,init,a,h2,h3,h4,h5.same (fun b b1 b2=>hg.block b (by omega) (fun e=>by have:=hne b e.symm;omega)),zbn h6 (fun q hq=>hg.block q (h6.lt q hq).2 (fun e=>?_))⟩
  obtain⟨cur,hc⟩:=zbX h6 hq
  obtain⟨_,o,ho,hx⟩:=hr q e.symm
  rw [hc] at ho
  cases ho
  rcases hx with hx | ⟨cs,fz,hx⟩<;>cases hx
 case h0=>exact⟨Nx.refl _,fun a ha=>absurd ha (List.not_mem_nil)⟩
 case assign =>
  intro l x W K hK
  gi_wp2
  exact hK
 case body =>
  rintro l pre a U ⟨hU1,hU2⟩ ⟨hR1,hR2⟩
  have hPA:=zfe hO HPL.out HPP.out hR1
  have hal:=(airs_mem.1 hR1).1
  have hUs:=hU1.size
  have nwU:=nwX.trans hU1
  have k72:=zfM d B (.slice ua plan.length ucap) (.slice (some ⟨X.heap.size+2+1,0,none⟩) d.steps.length d.steps.length) plan a U (hSX.nx hU1) hO hPA (HU.out.nx nwU) (znT hR2 hal) (by omega)
  have kcU:=Kc.nx hU1
  have r8:=kcU.cell hOX
  have r3:=kcU.cell hPX
  have hfl:=zbu d d.start plan a hPA.len
  generalize hLs:zaq d d.start plan a=L at *
  gi_upto_region 7 with (first | (gi_at_call 72;refine CallsIn.mono (CallsIn.inRound l (anyN k72)) ?_;rintro e w5 ⟨v5,rfl,n5,hown5⟩;obtain⟨a5,c5,rfl⟩:=zaB hown5) | gi_in)
  have hS5:=Lib.hid (zcF (n:=plan.length) (zo6 L) (by simpa using hfl) hown5)
  have kc5:=Kc.nx n5
  have r8':=kc5.cell r8
  have n15:=hU1.trans n5
  have nw5:=nwU.trans n5
  have hR5:=(n5.block _ (zav hR2)).trans hR2
  have hst5:=hSX.nx n15
  have h5s:=n15.size
  obtain⟨v7,c7,hsl⟩:=hst5.stages
  obtain⟨sta,stc,rfl⟩:=hsl.cases
  rw [List.length_map] at c7
  have HSL:=Lib.hid hsl
  clear hsl hown5 k72 r8 r3 kcU
  have hBl:=hst5.lt
  have hXl:A+6≤X.heap.size:=by have:=HX.out;omega
  gi_loopw [29] (fun u29 wr=>∃ i:Nat,i≤plan.length∧u29=num i∧Nx w5 wr∧∀ j,j<i→zeD d L j=false) (fun u29 _=>plan.length-(intOf u29).toNat)
  case atStart=>exact⟨0,Nat.zero_le _,rfl,Nx.refl _,fun j h=>absurd h (Nat.not_lt_zero _)⟩
  case round =>
   obtain⟨i,hi,rfl,nr,hbad⟩:=hrel
   have HB:=Lib.hid hbad
   clear hbad
   have hszr:=nr.size
   by_cases hlt:i<plan.length
   case neg =>
    obtain rfl:i=plan.length:=by omega
    have hbr:brk d L=-1:=by unfold brk;exact zdg (by rw [hfl];exact HB.out)
    have hkp:=(n5.trans nr)
    gi_wp2
    refine (show KeepsFrom X.heap.size U _∧KpR (X.heap.size+2) (Tw (X.heap.size+2) B Co d) none U _∧(_∧_) from ⟨KeepsFrom.of_grownBy (hkp.grown none) (by simp),KpR.nx hkp ?_,n15.trans nr,fun b hb=>?_⟩)
    ·have:=zav hR2;omega
    ·rcases List.mem_append.1 hb with hb | hb
     ·exact hU2 b hb
     ·rw [List.mem_singleton.1 hb,hLs,hbr];decide
   case pos =>
   have hix:i<d.steps.length:=by have:=HPL.out;omega
   have hx:d.steps[i]?=some d.steps[i]:=List.getElem?_eq_getElem hix
   have hh:L[i]?=some (L[i]'(by omega)):=List.getElem?_eq_getElem (by omega)
   generalize d.steps[i]=x at hx
   generalize L[i]'(by omega)=s at hh
   have hbi:Hid (zeD d L i=!za5 x s):=by show _=_;unfold zeD;rw [hx,hh]
   obtain⟨bs,offs,rfl,hbsl,hcls⟩:=(hS5.out).get (by simp;omega)
   obtain⟨b,off,rfl,hbl,hcl⟩:=(HSL.out).get (by simp;omega)
   have kr:=Kc.nx nr
   have f0:wr.cell? ⟨bs,offs+i * 3,none⟩=some (num s.w):=Sl.at hcls nr hbsl hh 0 (v:=num s.w) rfl
   have f1:wr.cell? ⟨bs,offs+i * 3+1,none⟩=some (num s.c):=Sl.at hcls nr hbsl hh 1 (v:=num s.c) rfl
   have f2:wr.cell? ⟨bs,offs+i * 3+2,none⟩=some (num s.h):=Sl.at hcls nr hbsl hh 2 (v:=num s.h) rfl
   gi_upto_region 9 with fail
   generalize hVn:wr.alloc _=V
   obtain⟨nV,sV,gV⟩:=al1 hVn
   clear hVn f0 f1 f2
   have SV:=Lib.hid sV
   clear sV
   have n5V:=nr.trans nV
   have t0:V.cell? ⟨wr.heap.size,0,none⟩=some (num s.w):=zaa gV rfl
   have t1:V.cell? ⟨wr.heap.size,1,none⟩=some (num s.c):=zaa gV rfl
   have t2:V.cell? ⟨wr.heap.size,2,none⟩=some (num s.h):=zaa gV rfl
   have nXV:=n15.trans n5V
   have e0:V.cell? ⟨b,off+i * 7,none⟩=some (num x.lo):=Sl.at hcl n5V hbl hx 0 (v:=num x.lo) rfl
   have e1:V.cell? ⟨b,off+i * 7+1,none⟩=some (num x.hi):=Sl.at hcl n5V hbl hx 1 (v:=num x.hi) rfl
   have e2:V.cell? ⟨b,off+i * 7+2,none⟩=some (.bool x.tended):=Sl.at hcl n5V hbl hx 2 (v:=.bool x.tended) rfl
   have e3:V.cell? ⟨b,off+i * 7+3,none⟩=some (num x.wlo):=Sl.at hcl n5V hbl hx 3 (v:=num x.wlo) rfl
   have e4:V.cell? ⟨b,off+i * 7+4,none⟩=some (num x.whi):=Sl.at hcl n5V hbl hx 4 (v:=num x.whi) rfl
   have e5:V.cell? ⟨b,off+i * 7+5,none⟩=some (num x.col):=Sl.at hcl n5V hbl hx 5 (v:=num x.col) rfl
   have kc5V:=Kc.nx n5V
   have r8'':=kc5V.cell r8'
   have c7'':=kc5V.cell c7
   have k73:=fun (w1:World)=>zgO x s w1
   clear hcl hcls
   generalize wr.heap.size=T at *
   refine zat (Nx V) 9 (by kernel_rfl) ?_
   obtain⟨Y,G,hN',hG,hG'⟩:=zaC (C:=Nx V) (x:=V) (Nx.refl _)
   have t0:=fun z=>(Kc.nx (hG' z)).cell t0
   have t1:=fun z=>(Kc.nx (hG' z)).cell t1
   have t2:=fun z=>(Kc.nx (hG' z)).cell t2
   have e0:=fun z=>(Kc.nx (hG' z)).cell e0
   have e1:=fun z=>(Kc.nx (hG' z)).cell e1
   have e2:=fun z=>(Kc.nx (hG' z)).cell e2
   have e3:=fun z=>(Kc.nx (hG' z)).cell e3
   have e4:=fun z=>(Kc.nx (hG' z)).cell e4
   have e5:=fun z=>(Kc.nx (hG' z)).cell e5
   have r8'':=fun z=>(Kc.nx (hG' z)).cell r8''
   have c7'':=fun z=>(Kc.nx (hG' z)).cell c7''
   change Go.wpAnyZ _ _ _ _ _ _ _ _ 11 #[false,false,false,false,false,false,false,false,false,false,false] _ _
   have n7:Nx V V.drew:=Nx.drew (Nx.refl V)
   generalize V.drew=V7 at n7 ⊢
   refine Go.zqE 0 hG (by kernel_rfl) (fun _ _ _ h=>by cases h.1) rfl ?_;intro o ho K hK;simp at ho;subst ho;gi_big_quiet_op;go_big_quiet_on
   refine Go.ztE 1 (by kernel_rfl) (fun _ _ _ h=>by cases h.1) ?_;intro o ho;simp at ho;subst ho;refine⟨_,Go.yC_nil rfl,?_⟩;simp only [Go.Act.put,List.setIfInBounds_toArray,List.set_cons_succ,List.set_cons_zero]
   refine Go.zqE 2 hG (by kernel_rfl) (fun _ _ _ h=>by cases h.1) rfl ?_;intro o ho K hK;simp at ho;subst ho;gi_big_quiet_op;go_big_quiet_on
   refine Go.zqE 3 hG (by kernel_rfl) (fun _ _ _ h=>by cases h.1) rfl ?_;intro o ho K hK;simp at ho;subst ho;gi_big_quiet_op;go_big_quiet_on
   refine Go.zqE 4 hG (by kernel_rfl) (fun _ _ _ h=>by cases h.1) rfl ?_;intro o ho K hK;simp at ho;subst ho;gi_big_quiet_op;go_big_quiet_on
   refine Go.zqE 5 hG (by kernel_rfl) (fun _ _ _ h=>by cases h.1) rfl ?_;intro o ho K hK;simp at ho;subst ho;gi_big_quiet_op;go_big_quiet_on
   refine Go.zqE 6 hG (by kernel_rfl) (fun _ _ _ h=>by cases h.1) rfl ?_;intro o ho K hK;simp at ho;subst ho;gi_big_quiet_op;go_big_quiet_on
   refine Go.zqE 7 hG (by kernel_rfl) (fun _ _ _ h=>by cases h.1) rfl ?_;intro o ho K hK;simp at ho;subst ho;gi_big_quiet_op;go_big_quiet_on
   refine Go.zqE 8 hG (by kernel_rfl) (fun _ _ _ h=>by cases h.1) rfl ?_;intro o ho K hK;simp at ho;subst ho;gi_big_quiet_op;go_big_quiet_on
   clear hG hG' hN' t0 t1 t2 e0 e1 e2 e3 e4 e5 r8'' c7''
   refine Go.zoE 9 (by kernel_rfl) rfl ?_ ?_;rotate_left;intro o ho K hK;simp at ho;subst ho
   all_goals (try exact fun _=>n7)
   cases hkp:za5 x s with
   | true =>
    rw [hkp] at k73
    have hbF:Hid (zeD d L i=false):=by show _=_;rw [hbi.out,hkp];rfl
    gi_wp2_with (first | (gi_at_call 73;refine CallsIn.mono (CallsIn.inRound l (anyN (k73 _))) ?_;rintro e w8 ⟨rfl,n8⟩) | gi_in)
    refine Go.zoE 10 (by kernel_rfl) rfl ?_ ?_;rotate_left;intro o ho K hK;simp at ho;subst ho
    gi_wp2_with fail
    refine zar (by kernel_rfl) (fun h=>absurd h (by decide)) ⟨rfl,?_⟩
    ·gi_wp2
     exact⟨⟨i+1,hlt,by simp,n5V.trans (n7.trans n8),fun j hj=>by
      rcases Nat.lt_succ_iff_lt_or_eq.1 hj with hj | rfl
      ·exact HB.out j hj
      ·exact hbF.out⟩,by simp [intOf];omega⟩
    all_goals (intro h;first | exact n7 | exact absurd h (by decide))
   | false =>
    rw [hkp] at k73
    have hbT:Hid (brk d L=i):=by
     show _=_
     unfold brk
     exact zcN HB.out (by omega) (by rw [hbi.out,hkp];rfl)
    gi_wp2_with (first | (gi_at_call 73;refine CallsIn.mono (CallsIn.inRound l (anyN (k73 _))) ?_;rintro e w8 ⟨rfl,n8⟩) | gi_in)
    refine Go.zoE 10 (by kernel_rfl) rfl ?_ ?_;rotate_left;intro o ho K hK;simp at ho;subst ho
    gi_wp2_with fail
    refine zar (by kernel_rfl) (fun h=>absurd h (by decide)) ⟨rfl,?_⟩
    ·have n58:=n5V.trans (n7.trans n8)
     have hR8:=(n58.block _ (zav hR5)).trans hR5
     have k74:=zkh _ d.steps.length d.steps.length a w8 (znT hR8 hal) (by omega)
     have hBX8:=hBX.same (fun b h1 h2=>(n15.trans n58).block b (by omega))
     have h8s:=n58.size
     gi_upto_region 10 with fail
     gi_wp2_with (first | (gi_at_call 74;refine CallsIn.mono (CallsIn.inRound l (anyN k74)) ?_;rintro e w9 ⟨v9,rfl,n9,hown9⟩;have hB9:=hBX8.same (fun b h1 h2=>n9.block b (by omega));have y0:=zaa (i:=0) (v:=.slice none 0 0) hB9.a rfl;have y1:=zaa (i:=0) (v:=num 0) hB9.b rfl;have y2:=zaa (i:=0) (v:=.bool false) hB9.c rfl;have y3:=zaa (i:=0) (v:=num 0) hB9.d rfl;have z0:=zac (i:=0) hB9.a;have z1:=zac (i:=0) hB9.b;have z2:=zac (i:=0) hB9.c;have z3:=zac (i:=0) hB9.d;obtain⟨a9,c9,rfl⟩:=zaB hown9) | gi_in)
     rw [hal] at hown9
     have n59:=n5.trans (n58.trans n9)
     have hCoA:A+6≤Co:=hZl
     have h9s:X.heap.size≤w9.heap.size:=by have:=n9.size;omega
     have hNq:X.heap.size+2+1<U.heap.size:=zav hR2
     have h9N:X.heap.size+2≤w9.heap.size:=by have:=n59.size;omega
     have bF:But [A+1+1,A+1+1+1,A+1+1+1+1,A+1+1+1+1+1] w9 ((((w9.setCell ⟨A+1+1,0,none⟩ (.slice a9 d.steps.length c9)).setCell ⟨A+1+1+1,0,none⟩ (num i)).setCell ⟨A+1+1+1+1,0,none⟩ (.bool true)).setCell ⟨A+1+1+1+1+1,0,none⟩ (num 0)) :=
      (((But.set (by simp)).trans (But.set (by simp))).trans (But.set (by simp))).trans (But.set (by simp))
     have hBF:=hB9.set (x':=.slice a9 d.steps.length c9) (y':=num i) (z':=.bool true) (u':=num 0)
     have hTF:Tw (X.heap.size+2) B Co d w9→Tw (X.heap.size+2) B Co d ((((w9.setCell ⟨A+1+1,0,none⟩ (.slice a9 d.steps.length c9)).setCell ⟨A+1+1+1,0,none⟩ (num i)).setCell ⟨A+1+1+1+1,0,none⟩ (.bool true)).setCell ⟨A+1+1+1+1+1,0,none⟩ (num 0)):=fun h =>
      (((h.one hB9.a (But.set (by simp)) (by omega) (by omega) h9N).one ((zae (by omega)).trans hB9.b) (But.set (by simp)) (by omega) (by omega) (by rw [zay];exact h9N)).one ((zae (by omega)).trans ((zae (by omega)).trans hB9.c)) (But.set (by simp)) (by omega) (by omega) (by rw [zay,zay];exact h9N)).one ((zae (by omega)).trans ((zae (by omega)).trans ((zae (by omega)).trans hB9.d))) (But.set (by simp)) (by omega) (by omega) (by rw [zay,zay,zay];exact h9N)
     have nF:Nx w ((((w9.setCell ⟨A+1+1,0,none⟩ (.slice a9 d.steps.length c9)).setCell ⟨A+1+1+1,0,none⟩ (num i)).setCell ⟨A+1+1+1+1,0,none⟩ (.bool true)).setCell ⟨A+1+1+1+1+1,0,none⟩ (num 0)):=by
      repeat (refine Nx.set ?_ (by omega))
      exact nwU.trans n59
     have h8l:A+6≤w8.heap.size:=by omega
     have hoF:=zbn (w':=(((w9.setCell ⟨A+1+1,0,none⟩ (.slice a9 d.steps.length c9)).setCell ⟨A+1+1+1,0,none⟩ (num i)).setCell ⟨A+1+1+1+1,0,none⟩ (.bool true)).setCell ⟨A+1+1+1+1+1,0,none⟩ (num 0)) hown9 (fun q hq=>bF.block q (hown9.lt q hq).2 (by have:=(hown9.lt q hq).1;simp;omega))
     generalize (((w9.setCell ⟨A+1+1,0,none⟩ (.slice a9 d.steps.length c9)).setCell ⟨A+1+1+1,0,none⟩ (num i)).setCell ⟨A+1+1+1+1,0,none⟩ (.bool true)).setCell ⟨A+1+1+1+1+1,0,none⟩ (num 0)=Fw at *
     have hbe:brk d (zaq d d.start plan a)=i:=by rw [hLs];exact hbT.out
     have bUF:=(But.nx n59).trans bF
     refine (show KeepsFrom X.heap.size U _∧KpR (X.heap.size+2) (Tw (X.heap.size+2) B Co d) none U _∧(_∧_∧_) from ⟨bUF.keeps (fun r hr=>by simp at hr;omega),⟨bUF.size,fun h=>hTF ((KpR.nx (qx:=none) n59 (by omega)).st h),fun q o h1 _ h3 _=>(bUF.block q (zav h3) (fun hr=>by simp at hr;omega)).trans h3⟩,rfl,nF,_,pre,a,rfl,hU2,by rw [hbe];omega,by rw [hbe];exact hBF,zgT (zeV hoF (by omega)) hal⟩)
    all_goals (intro h;first | exact n7 | exact absurd h (by decide))
 case done =>
  rintro D ys U hD rfl ⟨hU1,hU2⟩ hK
  have hnone:(zaH d.steps).find? (fun a=>decide (0≤brk d (zaq d d.start plan a)))=none:=by
   rw [List.find?_eq_none]
   intro a ha
   have:=hU2 a ha
   simp
   omega
  rw [hnone] at HR
  have hBU:=hBX.same (fun b h1 h2=>hU1.block b (by have:=HX.out;omega))
  have y0:=zaa (i:=0) (v:=.slice none 0 0) hBU.a rfl
  have y1:=zaa (i:=0) (v:=num 0) hBU.b rfl
  have y2:=zaa (i:=0) (v:=.bool false) hBU.c rfl
  have y3:=zaa (i:=0) (v:=num 0) hBU.d rfl
  have z0:=zac (i:=0) hBU.a
  have z1:=zac (i:=0) hBU.b
  have z2:=zac (i:=0) hBU.c
  have z3:=zac (i:=0) hBU.d
  have hXl:A+6≤X.heap.size:=by have:=HX.out;omega
  clear hnone
  gi_wp2
  have hK':=(zae (i:=0) (v:=num 0) (show D≠A+1+1+1+1+1 by omega)).trans ((zae (i:=0) (v:=.bool false) (show D≠A+1+1+1+1 by omega)).trans ((zae (i:=0) (v:=num 0) (show D≠A+1+1+1 by omega)).trans ((zae (i:=0) (v:=.slice none 0 0) (show D≠A+1+1 by omega)).trans hK)))
  have hBF:=(hBU.set (x':=.slice none 0 0) (y':=num 0) (z':=.bool false) (u':=num 0)).same (W':=((((U.setCell ⟨A+1+1,0,none⟩ (.slice none 0 0)).setCell ⟨A+1+1+1,0,none⟩ (num 0)).setCell ⟨A+1+1+1+1,0,none⟩ (.bool false)).setCell ⟨A+1+1+1+1+1,0,none⟩ (num 0)).putObj D (.deferred none)) (fun b h1 h2=>World.putObj_heap_other (by omega))
  refine⟨by simp,.inl ⟨_,_,rfl,run_takeDeferred hK',?_⟩⟩
  refine⟨_,zo5 rfl rfl rfl rfl hBF.a hBF.b hBF.c hBF.d,_,by rw [HR.out]<;>rfl,?_,by rw [HR.out];exact⟨0,.inl ⟨rfl,rfl⟩⟩⟩
  refine Below.grown ?_ (grownBy_putObj' _ D _) ?_ (fun r e=>by cases e;omega)
  ·repeat (refine Nx.set ?_ (by omega))
   exact nwX.trans hU1
  ·simp only [zay];have:=hU1.size;omega
 case stop =>
  rintro D c pre U hD hpre ⟨rfl,h1,v,init,a,rfl,h3,h4,h5,h6⟩ hK
  have hfind:(zaH d.steps).find? (fun a=>decide (0≤brk d (zaq d d.start plan a)))=some a:=by
   obtain⟨more,hm⟩:=hpre
   rw [← hm,List.append_assoc,List.find?_append,List.find?_eq_none.2 (fun b hb=>by have:=h3 b hb;simp;omega)]
   simp [h4]
  rw [hfind] at HR
  have hXl:A+6≤X.heap.size:=by have:=HX.out;omega
  gi_wp2
  have hBF:=h5.same (W':=U.putObj D (.deferred none)) (fun b h1 h2=>World.putObj_heap_other (by omega))
  refine⟨by simp,.inl ⟨_,_,rfl,run_takeDeferred hK,?_⟩⟩
  refine⟨_,zo5 rfl rfl rfl rfl hBF.a hBF.b hBF.c hBF.d,_,by rw [HR.out]<;>rfl,?_,?_⟩
  ·exact Below.grown h1 (grownBy_putObj' _ D _) h1.size (fun r e=>by cases e;omega)
  ·rw [HR.out]
   have hDg:∀ q,v.ownBlock=some q→(U.putObj D (.deferred none)).heap[q]?=U.heap[q]?:=fun q hq=>World.putObj_heap_other (fun e=>by
    obtain⟨cur,hc⟩:=zbX h6 hq
    rw [e,hK] at hc
    cases hc)
   have:=zcF (rows:=a.map one) (n:=a.length) (zjv a) (by simp) (by rw [zcj];exact zbn h6 hDg)
   exact this
end Go.Proofs.Ytedomogjmhommaa
