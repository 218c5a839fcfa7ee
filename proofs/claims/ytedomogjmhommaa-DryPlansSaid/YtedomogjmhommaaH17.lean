import Derived.Test.YtedomogjmhommaaH11
import Derived.Test.YtedomogjmhommaaH16
set_option linter.all false
set_option maxRecDepth 100000
set_option maxHeartbeats 8000000
namespace Go.Proofs.Ytedomogjmhommaa
open Go.RowKit Go.Shelf
attribute [local go_sem] Oper.semAt_some
theorem T33:ElemT 33 69 (.slice none 0 0) 1 24:=.mk' Try.underlying33 (by kernel_rfl) (by kernel_rfl) (by decide)
theorem zdl {t:Array Value} {W:World} {v:Value} {b:Bool} {f:Int} (h2:t[2]?=some v) (h3:t[3]?=some (.bool b)) (h4:t[4]?=some (num f)):(results Try.f20 t).run Try.prog W=.ok (.tuple #[v,.bool b,num f]) W:=by
 simp [results,Try.results20,go_sem,h2,h3,h4]
theorem zhY {w:World} {g:List (List St)×Bool×Int} {b:Bool} {f:Int} (h:g=([],b,f)):SetsSl w (.slice none 0 0) g.1:=by
 subst h
 exact⟨[],⟨0,.inl ⟨rfl,rfl⟩⟩,rfl,fun i u l hu=>by simp at hu⟩
theorem zpZ {W:World} {base g e sz:Nat} {cells:List Value} (hg:W.heap[g]?=some (.cells cells.toArray e (0,0))) (hb:base≤g) (hl:cells.length=sz):W.ownsRow base e sz (.slice (some ⟨g,0,none⟩) 1 1) 1 cells :=
 ⟨by rw [hl,Nat.one_mul],.inr ⟨g,1,cells.toArray,rfl,hb,hg,Nat.le_refl _,by simp [maxLen],by simp [hl],by rw [Nat.one_mul,← hl,List.take_of_length_le (Nat.le_refl _)]⟩⟩
def Rows (d:Dry) (W:World) (base:Nat) (v:Value) (vs:List Value):Prop :=
 W.ownsRow base 69 1 v vs.length vs∧∀ (j:Nat) (u:Value),vs[j]?=some u→W.ownsRow base 24 3 u (setAt d j).length ((setAt d j).map St.cells).flatten∧∀ g,u.ownBlock=some g→v.ownBlock≠some g
theorem Rows.but {d:Dry} {W W' : World} {N:Nat} {v:Value} {vs:List Value} (h:Rows d W N v vs) {bs:List Nat} (hb:But bs W W') (hbs:∀ r∈bs,r<N∨W.heap.size≤r):Rows d W' N v vs:=by
 have key:∀ {e sz n:Nat} {u:Value} {xs:List Value},W.ownsRow N e sz u n xs→W'.ownsRow N e sz u n xs:=fun ho=>zbn ho fun g hg=>by
  have:=ho.lt g hg
  exact hb.block g this.2 (fun e=>by rcases hbs g e with h1 | h1<;>omega)
 exact⟨key h.1,fun j u hu=>⟨key (h.2 j u hu).1,(h.2 j u hu).2⟩⟩
theorem But.kc {bs:List Nat} {a b:World} (h:But bs a b) (hm:∀ r∈bs,∃ es cl,a.heap[r]?=some (.map es cl)):Kc a b :=
 ⟨h.size,fun {p v} hc=>by
  obtain⟨o,ho,hco⟩:=cells_of_cell hc
  refine (World.cell?_of_block (h.block _ (Array.getElem?_eq_some_iff.1 ho).1 (fun e=>?_))).trans hc
  obtain⟨es,cl,hm⟩:=hm _ e
  rw [hm] at ho
  cases ho
  cases hco⟩
theorem zl9 {d:Dry} {x:Stp} {c:St→Int} {l:List St} {s:St} {t:St}:t∈nextL d x c (l++[s])↔t∈nextL d x c l∨∃ a∈x.damps,t=za9 d (zaM d (c s).toNat) s (c s) a:=by
 rw [mem_nextL,mem_nextL]
 simp only [List.mem_append,List.mem_singleton,or_and_right,exists_or,exists_eq_left]
theorem Rows.kept {d:Dry} {W W' : World} {N:Nat} {v:Value} {vs:List Value} (h:Rows d W N v vs) (hk:∀ (b:Nat) (o:Obj),W.heap[b]?=some o→o≠.deferred (some [])→W'.heap[b]?=some o):Rows d W' N v vs:=by
 have key:∀ {e sz n:Nat} {u:Value} {xs:List Value},W.ownsRow N e sz u n xs→W'.ownsRow N e sz u n xs:=by
  rintro e sz n u xs ⟨h1,h2⟩
  refine⟨h1,h2.imp id ?_⟩
  rintro ⟨g,cap,cur,rfl,hb,hg,r⟩
  exact⟨g,cap,cur,rfl,hb,hk g _ hg (fun e=>by cases e),r⟩
 exact⟨key h.1,fun j u hu=>⟨key (h.2 j u hu).1,(h.2 j u hu).2⟩⟩
theorem But.fresh {bs cs:List Nat} {a b c:World} (h:But bs a b) (k:But cs b c) (hc:∀ r∈cs,r∈bs∨a.heap.size≤r):But bs a c :=
 ⟨k.os.trans h.os,k.tape.trans h.tape,k.output.trans h.output,Nat.le_trans h.size k.size,fun i hi hn=>(k.block i (Nat.lt_of_lt_of_le hi h.size) (fun e=>by rcases hc i e with h1 | h1;exact hn h1;omega)).trans (h.block i hi hn)⟩
theorem zbX {w:World} {base e sz n g:Nat} {v:Value} {xs:List Value} (h:w.ownsRow base e sz v n xs) (hg:v.ownBlock=some g):∃ cur,w.heap[g]?=some (.cells cur e (0,0)):=by
 obtain⟨_,⟨rfl,_⟩ | ⟨g',cap,cur,rfl,_,h2,_⟩⟩:=h
 ·cases hg
 ·cases hg
  exact⟨cur,h2⟩
theorem zgF (vs:List Value):(vs.map fun u=>[u]).flatten=vs:=by
 induction vs with
 | nil=>rfl
 | cons a l ih=>rw [List.map_cons,List.flatten_cons,ih];rfl
theorem Rows.sets {d:Dry} {W:World} {N n:Nat} {v:Value} {vs:List Value} (h:Rows d W N v vs) (hl:vs.length=n):SetsSl W v ((List.range n).map (setAt d)):=by
 refine⟨vs,zcF (n:=vs.length) (by simp) (by simp) (by rw [zgF];exact h.1),by simpa using hl,fun i u l hu hl2=>?_⟩
 rw [List.getElem?_map] at hl2
 cases hr:(List.range n)[i]? with
 | none=>rw [hr] at hl2;cases hl2
 | some j =>
  rw [hr] at hl2
  have hij:i=j:=by
   obtain⟨hlt,e⟩:=List.getElem?_eq_some_iff.1 hr
   simpa using e
  subst hij
  cases hl2
  exact zcF (zo6 _) (by simp) (h.2 i u hu).1
theorem Rows.snoc {d:Dry} {W W' : World} {N i:Nat} {v v' u:Value} {vs:List Value} {o:Obj} (h:Rows d W N v vs) (hi:vs.length=i) (hu:W.ownsRow N 24 3 u (setAt d i).length ((setAt d i).map St.cells).flatten) (hap:∀ g,u.ownBlock=some g→v.ownBlock≠some g)
  (hown:W'.ownsRow N 69 1 v' (vs.length+1) ((vs.map fun u=>[u])++[[u]]).flatten) (hg:(W.alloc o).grownBy W' v.ownBlock) (hat:v'.ownBlock=v.ownBlock∨v'.ownBlock=some (W.alloc o).heap.size):Rows d W' N v' (vs++[u]):=by
 have key:∀ {n:Nat} {u:Value} {xs:List Value},W.ownsRow N 24 3 u n xs→(∀ g,u.ownBlock=some g→v.ownBlock≠some g)→W'.ownsRow N 24 3 u n xs∧∀ g,u.ownBlock=some g→v'.ownBlock≠some g:=fun ho ha=>by
  refine⟨zbn (zbi ho o) fun g hg'=>hg.block g (by have:=(ho.lt g hg').2;simp;omega) (fun e=>ha g hg' e.symm),fun g hg' e=>?_⟩
  rcases hat with h1 | h1
  ·exact ha g hg' (h1 ▸ e)
  ·rw [h1] at e
   have:=(ho.lt g hg').2
   simp at e
   omega
 refine⟨by rw [List.length_append];rw [List.flatten_append,zgF] at hown;exact hown,fun j u' hu'=>?_⟩
 rcases Nat.lt_or_ge j vs.length with hj | hj
 ·rw [List.getElem?_append_left hj] at hu'
  exact key (h.2 j u' hu').1 (h.2 j u' hu').2
 ·rw [List.getElem?_append_right hj] at hu'
  have hj2:j=i:=by
   have:=(List.getElem?_eq_some_iff.1 hu').1
   simp at this
   omega
  subst hj2
  rw [hi,Nat.sub_self] at hu'
  simp only [List.getElem?_cons_zero,Option.some.injEq] at hu'
  subst hu'
  exact key hu hap
theorem zmi (d:Dry) (r:R2) (w:World) (hd:DrySl w d r):CallsIn FW 0 Try.prog 20 #[d.val r] w fun e w'=>∃ v,e=.returned (.tuple #[v,.bool (ze0 d).2.1,num (ze0 d).2.2])∧Nx w w'∧SetsSl w' v (ze0 d).1:=by
 have k54b:=fun (h:dryF d≠0) (w1:World) (n:Nx w w1)=>zga d r w1 (hd.nx n) h
 have k54:=fun (h:dryF d=0) (w1:World) (n:Nx w w1)=>ziv d r w1 (hd.nx n) h
 obtain⟨rh,rs⟩:=r
 obtain⟨ha,hcap,hrs⟩:=hd.heats.cases
 dsimp only at hrs
 subst hrs
 obtain⟨sa,scap,hrs⟩:=hd.steps.cases
 dsimp only at hrs
 subst hrs
 rw [List.length_map,List.length_map] at *
 clear hd
 have hmm:=@run_makeMap Try.prog
 obtain⟨g,hg⟩:∃ g,ze0 d=g:=⟨_,rfl⟩
 rw [hg]
 have HG:=Lib.hid hg
 clear hg
 apply anyN (n:=4)
 refine callsIn_of_wp_marks Try.func20 rfl trivial ?_ rfl
 simp only [Try.ntmps20,List.size_toArray,List.length_cons,List.length_nil,Nat.reduceAdd,Nat.reduceSub,Array.replicate_succ,Array.replicate_zero,List.push_toArray,List.append_toArray,List.nil_append,List.cons_append]
 gi_upto_region 1 with fail
 generalize hWn:w.alloc _=W
 obtain⟨nW,sW,g0⟩:=al1 hWn
 have hbW:DBox W w.heap.size d ⟨.slice ha d.heats.length hcap,.slice sa d.steps.length scap⟩:=⟨by omega,fun i v h=>zaa g0 h⟩
 clear hWn
 have c0:=hbW.at' 0 _ rfl
 have c1:=hbW.at' 1 _ rfl
 have c2:=hbW.at' 2 _ rfl
 have c3:=hbW.at' 3 _ rfl
 have c4:=hbW.at' 4 _ rfl
 have c5:=hbW.at' 5 _ rfl
 have c6:=hbW.at' 6 _ rfl
 by_cases h1:dryF d=0
 case neg =>
  have HR:Hid (g=([],false,dryF d)):=by show _=_;rw [← HG.out];unfold ze0;rw [if_pos h1]
  have b1:(dryF d == 0)=false:=beq_false_of_ne h1
  have k54b:=k54b h1
  clear k54
  generalize dryF d=f at *
  clear h1
  gi_wp2_with (first | (gi_at_call 54;refine CallsIn.mono (anyN (k54b _ nW)) ?_;rintro e w2 ⟨rfl,n2⟩) | gi_in)
  exact⟨_,zdl rfl rfl rfl,_,by rw [HR.out]<;>rfl,nW.trans (n2.trans (zaj (Nx.refl _) _)),zhY HR.out⟩
 case pos =>
 have hO:=zdc h1
 have k54:=k54 h1
 clear k54b
 gi_upto_region 4 with (first | (gi_at_call 54;refine CallsIn.mono (anyN (k54 _ nW)) ?_;rintro e w2 ⟨B,rfl,n2,hS⟩) | gi_in)
 generalize hXn:w2.alloc _=X
 obtain⟨nX,sX,gX⟩:=al1 hXn
 clear hXn
 have SX:=Lib.hid sX
 clear sX
 have hX5:X.cell? ⟨w2.heap.size,0,none⟩=some (ptr B):=zaa gX rfl
 have hS5:=hS.nx nX
 have nwX:=nW.trans (n2.trans nX)
 have hO2:w.heap.size+1≤w2.heap.size:=by have:=n2.size;omega
 have hO3:w2.heap.size<X.heap.size:=by have:=SX.out;omega
 generalize w2.heap.size=O at *
 have hs5:=hO.s5
 have hsO:=stF_ok.1 hO.start
 gi_upto_region 5 with (first | (gi_at_call 57;refine CallsIn.mono (anyN (zgt d B _ hS5)) ?_;rintro e w4 ⟨Bo,Bk,Bc,M,rfl,n4,hCh,hMm,hMl⟩) | gi_in)
 have hb4:=hbW.nx ((n2.trans nX).trans n4)
 clear c0 c1 c2 c3 c4 c5 c6
 have c3:=hb4.at' 3 _ rfl
 have c4:=hb4.at' 4 _ rfl
 have c5:=hb4.at' 5 _ rfl
 have k90:=zdU d hO Bo Bk Bc B M d.steps.length 0 (by omega) d.start w4 0 hsO hCh hMm (by have:=zcy (j:=d.steps.length) (k:=5) hs5;rw [zi4] at this;omega)
 rw [List.drop_zero] at k90
 have nw4:=nwX.trans n4
 have hMl2:w.heap.size≤M:=by have:=nwX.size;omega
 by_cases hc:chooseS d d.steps d.start<0
 case pos =>
  have HR:Hid (g=([],false,0)):=by show _=_;rw [← HG.out];unfold ze0;rw [if_neg (by simpa using h1),if_pos hc]
  have b4:=decide_eq_true hc
  clear hc
  generalize chooseS d d.steps d.start=c at *
  gi_wp2_with (first | (gi_at_call 90;refine CallsIn.mono (anyN k90) ?_;rintro e w6 ⟨rfl,hg6,_⟩) | gi_in)
  exact⟨_,zdl rfl rfl rfl,_,by rw [HR.out]<;>rfl,Below.grown nw4 hg6 nw4.size (fun g e=>by cases e;exact hMl2),zhY HR.out⟩
 case neg =>
 have b4:=decide_eq_false hc
 have hc0:0≤chooseS d d.steps d.start:=by omega
 have HR:Hid (g=((List.range (d.steps.length+1)).map (setAt d),true,0)):=by show _=_;rw [← HG.out];unfold ze0;rw [if_neg (by simpa using h1),if_neg hc]
 have HS:=Lib.hid (zlw hO hc0)
 clear hc hc0
 generalize chooseS d d.steps d.start=c at *
 gi_upto_region 7 with (first | (gi_at_call 90;refine CallsIn.mono (anyN k90) ?_;rintro e w6 ⟨rfl,hg6,n6,hn6,hM6⟩) | gi_in)
 have hCl:Ch w6 d Bo Bk Bc B M:=by obtain⟨es,cl,hm⟩:=hMm.map;exact hCh.kc (Kc.map hg6 hm)
 have nw6:Nx w w6:=Below.grown nw4 hg6 nw4.size (fun g e=>by cases e;exact hMl2)
 have kg:Kc w4 w6:=by obtain⟨es,cl,hm⟩:=hMm.map;exact Kc.map hg6 hm
 have hX6:=kg.cell ((Kc.nx n4).cell hX5)
 replace c3:=kg.cell c3
 replace c4:=kg.cell c4
 replace c5:=kg.cell c5
 have hMl6:=hM6.lt
 have hMb:Hid (n6≤69905):=by
  show _≤_
  have:=zcy (j:=d.steps.length) (k:=5) hs5
  rw [zi4] at this
  omega
 have hOl:O<w6.heap.size:=by have:=n4.size;have:=hg6.size;omega
 clear k90 hmm hn6 hX5 hb4 hCh hMm hg6 hS5 k54 kg
 have hmm:=@run_makeMap Try.prog
 gi_upto_region 8 with fail
 generalize hYn:w6.alloc _=Y
 obtain⟨nY,sY,gY⟩:=al1 hYn
 clear hYn c3 c4 c5
 have SY:=Lib.hid sY
 clear sY
 gi_upto_region 9 with (first | (gi_at_builtin;refine zaP T33 rfl _ _ rfl rfl w6.heap.size (.slice none 0 0) 0 [] rfl (World.ownsRow_nil ..) rfl Y.heap.size [.slice (some ⟨w6.heap.size,0,none⟩) 1 1] rfl zaT rfl (by simp [Value.oneCell']) (by omega) (by omega) (by have:=SY.out;simp;omega) ?_;intro v0 w8 hown8 hg8 hat8;simp only [Act.put,List.setIfInBounds_toArray,List.set_cons_succ,List.set_cons_zero]) | gi_in)
 have n68:Nx w6 w8:=Below.grown (zaj nY _) hg8 (zaj nY _).size (fun g e=>by cases e)
 have g68:w8.heap[w6.heap.size]?=some (.cells d.start.cells.toArray 24 (0,0)):=(hg8.block _ (by have:=SY.out;simp;omega) (by simp [Value.ownBlock])).trans ((zbq (by have:=SY.out;omega)).trans gY)
 have hrows:Rows d w8 w6.heap.size v0 [.slice (some ⟨w6.heap.size,0,none⟩) 1 1]:=by
  refine⟨hown8,fun j u hu=>?_⟩
  cases j with
  | zero =>
   simp only [List.getElem?_cons_zero,Option.some.injEq] at hu
   subst hu
   refine⟨zpZ (sz:=3) g68 (Nat.le_refl _) rfl,fun g e=>?_⟩
   cases e
   rcases hat8 with h | h
   ·rw [h];intro e;cases e
   ·rw [h];have:=SY.out;simp;omega
  | succ j=>simp at hu
 have hC8:=hCl.kc (Kc.nx n68)
 have hM8:=hM6.nx n68
 have hX8:=(Kc.nx n68).cell hX6
 have nw8:=nw6.trans n68
 have hsz8:w6.heap.size<w8.heap.size:=zav g68
 clear hown8 hg8 hat8 g68 SY gY nY hC8
 obtain⟨v7,c7,hsl⟩:=hCl.st.stages
 replace c7:=(Kc.nx n68).cell c7
 obtain⟨sta,stc,rfl⟩:=hsl.cases
 rw [List.length_map] at c7
 have HSL:=Lib.hid hsl
 clear hsl
 have hBl:=hCl.st.lt
 obtain⟨es6,cl6,hmap6⟩:=hM6.map
 have hM68:M<w6.heap.size:=hM6.lt
 have hb68:But [M] w6 w8:=But.nx n68
 clear hM6 n68
 gi_wp2
 generalize hN:w6.heap.size=N at *
 have hMl8:M<N:=by omega
 refine wpIn_loop (fun a' w'=>∃ ds u2 u7 u8 u9 u10 u12 u13 u14 u43 u44 u45 u46 u47 u48 u49 u50 u51 u52 u53 u54 u55 u56 u57 u58 u59 u60 u61 u62 u64 u65 u66 u67 u68 u69 u70 u71 u72 u73 u74 u75 u76 u77,(∃ i vs n',i≤List.length (Go.Proofs.Ytedomogjmhommaa.Dry.steps d)∧u43=Go.Proofs.Ytedomogjmhommaa.num ↑i∧List.length vs=i+1∧vs[i]?=Option.some u7∧Go.Proofs.Ytedomogjmhommaa.Rows d w' N u2 vs∧Go.Proofs.Ytedomogjmhommaa.Memo w' M d n'∧n'≤69905 * (1+1024 * i)∧Go.Proofs.Ytedomogjmhommaa.But [M] w6 w'∧Go.Proofs.Ytedomogjmhommaa.Marks N ds w')∧a'={ tmps:=(List.toArray ((Go.Proofs.Ytedomogjmhommaa.Dry.val d { h:=Go.Value.slice ha (List.length (Go.Proofs.Ytedomogjmhommaa.Dry.heats d)) hcap,s:=Go.Value.slice sa (List.length (Go.Proofs.Ytedomogjmhommaa.Dry.steps d)) scap }) :: (Go.Value.pointer (Option.some { block:=Array.size (Go.World.heap w),off:=0 })) :: u2 :: (Go.Value.bool Bool.false) :: (Go.Proofs.Ytedomogjmhommaa.num 0) :: (Go.Value.pointer (Option.some { block:=O,off:=0 })) :: (Go.Value.func (Go.Fn.func 90) #[] #[Go.Proofs.Ytedomogjmhommaa.ptr Bo,Go.Proofs.Ytedomogjmhommaa.ptr Bk,Go.Proofs.Ytedomogjmhommaa.ptr Bc]) :: u7 :: u8 :: u9 :: u10 :: Go.undef :: u12 :: u13 :: u14 :: (Go.Proofs.Ytedomogjmhommaa.opV B) :: (Go.Value.agg #[Go.Value.slice ha (List.length (Go.Proofs.Ytedomogjmhommaa.Dry.heats d)) hcap,Go.Proofs.Ytedomogjmhommaa.num (Go.Proofs.Ytedomogjmhommaa.Dry.soak d),Go.Proofs.Ytedomogjmhommaa.num (Go.Proofs.Ytedomogjmhommaa.Dry.brittle d),Go.Proofs.Ytedomogjmhommaa.num (Go.Proofs.Ytedomogjmhommaa.St.w (Go.Proofs.Ytedomogjmhommaa.Dry.start d)),Go.Proofs.Ytedomogjmhommaa.num (Go.Proofs.Ytedomogjmhommaa.St.c (Go.Proofs.Ytedomogjmhommaa.Dry.start d)),Go.Proofs.Ytedomogjmhommaa.num (Go.Proofs.Ytedomogjmhommaa.St.h (Go.Proofs.Ytedomogjmhommaa.Dry.start d)),Go.Value.slice sa (List.length (Go.Proofs.Ytedomogjmhommaa.Dry.steps d)) scap]) :: (Go.Proofs.Ytedomogjmhommaa.opV B) :: (Go.Proofs.Ytedomogjmhommaa.ptr B) :: (Go.Proofs.Ytedomogjmhommaa.num 0) :: (Go.Proofs.Ytedomogjmhommaa.num 0) :: (Go.Value.bool Bool.false) :: Go.undef :: (Go.Proofs.Ytedomogjmhommaa.ptr B) :: (Go.Value.func (Go.Fn.func 90) #[] #[Go.Proofs.Ytedomogjmhommaa.ptr Bo,Go.Proofs.Ytedomogjmhommaa.ptr Bk,Go.Proofs.Ytedomogjmhommaa.ptr Bc]) :: (Go.Value.func (Go.Fn.func 90) #[] #[Go.Proofs.Ytedomogjmhommaa.ptr Bo,Go.Proofs.Ytedomogjmhommaa.ptr Bk,Go.Proofs.Ytedomogjmhommaa.ptr Bc]) :: (Go.Value.pointer (Option.some { block:=Array.size (Go.World.heap w),off:=3 })) :: (Go.Value.agg #[Go.Proofs.Ytedomogjmhommaa.num (Go.Proofs.Ytedomogjmhommaa.St.w (Go.Proofs.Ytedomogjmhommaa.Dry.start d)),Go.Proofs.Ytedomogjmhommaa.num (Go.Proofs.Ytedomogjmhommaa.St.c (Go.Proofs.Ytedomogjmhommaa.Dry.start d)),Go.Proofs.Ytedomogjmhommaa.num (Go.Proofs.Ytedomogjmhommaa.St.h (Go.Proofs.Ytedomogjmhommaa.Dry.start d))]) :: (Go.Value.agg #[Go.Value.int Go.IntKind.i64 0,Go.Proofs.Ytedomogjmhommaa.num (Go.Proofs.Ytedomogjmhommaa.St.w (Go.Proofs.Ytedomogjmhommaa.Dry.start d)),Go.Proofs.Ytedomogjmhommaa.num (Go.Proofs.Ytedomogjmhommaa.St.c (Go.Proofs.Ytedomogjmhommaa.Dry.start d)),Go.Proofs.Ytedomogjmhommaa.num (Go.Proofs.Ytedomogjmhommaa.St.h (Go.Proofs.Ytedomogjmhommaa.Dry.start d))]) :: (Go.Proofs.Ytedomogjmhommaa.num c) :: (Go.Value.bool Bool.false) :: (Go.Value.pointer (Option.some { block:=Array.size (Go.World.heap w),off:=3 })) :: (Go.Value.agg #[Go.Proofs.Ytedomogjmhommaa.num (Go.Proofs.Ytedomogjmhommaa.St.w (Go.Proofs.Ytedomogjmhommaa.Dry.start d)),Go.Proofs.Ytedomogjmhommaa.num (Go.Proofs.Ytedomogjmhommaa.St.c (Go.Proofs.Ytedomogjmhommaa.Dry.start d)),Go.Proofs.Ytedomogjmhommaa.num (Go.Proofs.Ytedomogjmhommaa.St.h (Go.Proofs.Ytedomogjmhommaa.Dry.start d))]) :: (Go.Value.slice (Option.some { block:=N,off:=0 }) 1 1) :: (Go.Value.slice Option.none 0 0) :: (Go.Value.slice (Option.some { block:=N,off:=0 }) 1 1) :: (Go.Value.slice (Option.some { block:=Array.size (Go.World.heap Y),off:=0 }) 1 1) :: v0 :: (Go.Proofs.Ytedomogjmhommaa.ptr B) :: (Go.Value.pointer (Option.some { block:=B,off:=0 })) :: (Go.Value.pointer (Option.some { block:=B,off:=7 })) :: (Go.Value.slice sta (List.length (Go.Proofs.Ytedomogjmhommaa.Dry.steps d)) stc) :: (Go.Value.int Go.IntKind.i64 ↑(List.length (Go.Proofs.Ytedomogjmhommaa.Dry.steps d))) :: u43 :: u44 :: u45 :: u46 :: u47 :: u48 :: u49 :: u50 :: u51 :: u52 :: u53 :: u54 :: u55 :: u56 :: u57 :: u58 :: u59 :: u60 :: u61 :: u62 :: Go.undef :: u64 :: u65 :: u66 :: u67 :: u68 :: u69 :: u70 :: u71 :: u72 :: u73 :: u74 :: u75 :: u76 :: u77 :: Go.undef :: [])),defers:=ds }) (fun a' w'=>List.length (Go.Proofs.Ytedomogjmhommaa.Dry.steps d)-Int.toNat (Go.Proofs.intOf (Array.getD (Go.Act.tmps a') 43 Go.undef))) ?atStart ?round
 case atStart=>(repeat apply Exists.intro);refine⟨?_,rfl⟩;exact⟨0,_,n6,Nat.zero_le _,rfl,rfl,rfl,hrows,hM8,by have:=hMb.out;omega,hb68,Marks.nil _ _⟩
 case round =>
  rintro _ wr ⟨ds,u2,u7,u8,u9,u10,u12,u13,u14,u43,u44,u45,u46,u47,u48,u49,u50,u51,u52,u53,u54,u55,u56,u57,u58,u59,u60,u61,u62,u64,u65,u66,u67,u68,u69,u70,u71,u72,u73,u74,u75,u76,u77,hrel,rfl⟩;try dsimp only
  obtain⟨i,vs,n',hi,rfl,hvl,hv7,hR,hMr,hn',hbut,hmk⟩:=hrel
  have knr:Kc w6 wr:=hbut.kc (by simp;exact⟨es6,cl6,hmap6⟩)
  have hCr:=hCl.kc knr
  have hXr:=knr.cell hX6
  have nwr:Nx w wr:=hbut.toNx nw6 (by simp;omega)
  obtain⟨esr,clr,hmapr⟩:=hMr.map
  have hszr:N≤wr.heap.size:=by have:=hbut.size;omega
  by_cases hlt:i<d.steps.length
  case neg =>
   obtain rfl:i=d.steps.length:=by omega
   gi_wp2
   refine zio (B:=N) hmk (fun w' hb hk=>⟨_,zdl rfl rfl rfl,u2,by rw [HR.out]<;>rfl,Below.trans nwr (hb.mono (by have:=nw6.size;omega)),?_⟩) hszr
   rw [HR.out]
   exact (hR.kept hk).sets hvl
  case pos =>
  have hx:d.steps[i]?=some d.steps[i]:=List.getElem?_eq_getElem hlt
  have hsucc:=Lib.hid (zfp (d:=d) hx)
  have hdc:=Lib.hid (zdx hx)
  generalize d.steps[i]=x at hx hsucc hdc
  have hstx:=hO.st x (List.mem_of_getElem? hx)
  obtain⟨b,off,rfl,hbl,hcl⟩:=(HSL.out).get (by simp;omega)
  have e0:wr.cell? ⟨b,off+i * 7,none⟩=some (num x.lo):=knr.cell (Sl.at hcl (Nx.refl _) hbl hx 0 (v:=num x.lo) rfl)
  have e1:wr.cell? ⟨b,off+i * 7+1,none⟩=some (num x.hi):=knr.cell (Sl.at hcl (Nx.refl _) hbl hx 1 (v:=num x.hi) rfl)
  have e2:wr.cell? ⟨b,off+i * 7+2,none⟩=some (.bool x.tended):=knr.cell (Sl.at hcl (Nx.refl _) hbl hx 2 (v:=.bool x.tended) rfl)
  have e3:wr.cell? ⟨b,off+i * 7+3,none⟩=some (num x.wlo):=knr.cell (Sl.at hcl (Nx.refl _) hbl hx 3 (v:=num x.wlo) rfl)
  have e4:wr.cell? ⟨b,off+i * 7+4,none⟩=some (num x.whi):=knr.cell (Sl.at hcl (Nx.refl _) hbl hx 4 (v:=num x.whi) rfl)
  have e5:wr.cell? ⟨b,off+i * 7+5,none⟩=some (num x.col):=knr.cell (Sl.at hcl (Nx.refl _) hbl hx 5 (v:=num x.col) rfl)
  have e6:wr.cell? ⟨b,off+i * 7+6,none⟩=some (num d.heats.length):=knr.cell (Sl.at hcl (Nx.refl _) hbl hx 6 (v:=num d.heats.length) rfl)
  obtain⟨hown7,hap7⟩:=hR.2 i _ hv7
  have hS7:=zcF (rows:=(setAt d i).map St.cells) (zo6 _) (by simp) hown7
  obtain⟨na,nc,rfl⟩:=hS7.cases
  rw [List.length_map] at hv7 hown7 hap7 hS7 ⊢
  have hLen:=zhX hO hi
  have hSafe:=Lib.hid (HS.out i hi)
  rw [hdc.out] at hSafe
  have hV7:=Lib.hid hv7
  have hS7':=Lib.hid hS7
  clear hcl hv7 hS7 hown7 hap7
  generalize setAt d i=L at *
  gi_upto_region 13 with fail
  generalize hWn2:((wr.alloc _).alloc _).alloc _=W2
  obtain⟨nW2,sW2,k0,k1,k2⟩:=al3 hWn2
  clear hWn2
  have SW2:=Lib.hid sW2
  have hRo:=Lib.hid hR
  have hNo:=(But.nx nW2:But [M,wr.heap.size+1] wr W2)
  have hM2:=hMr.nx nW2
  have hmk2:=hmk.nx nW2
  have hS2:=hS7'.out.nx nW2
  have hC2:=hCr.kc (Kc.nx nW2)
  have hX2:=(Kc.nx nW2).cell hXr
  have nw2':=nwr.trans nW2
  have hbut2:=hbut.trans (But.nx nW2:But [M] wr W2)
  have hXs:wr.heap.size+3≤W2.heap.size:=by omega
  obtain⟨esM,clM,hmapM⟩:=hM2.map
  have hS2':=Lib.hid hS2
  clear e0 e1 e2 e3 e4 e5 e6 hR hMr hmk hS7' hS2 hCr hXr hbut knr nW2 sW2 hmapr
  have hSl:N≤wr.heap.size:=hszr
  clear hszr
  generalize hSg:wr.heap.size=S at *
  gi_wp2
  refine wpIn_loop (fun a' w'=>∃ ds u12 u13 u14 u51 u52 u53 u54 u55 u56 u57 u58 u59 u60 u61 u62 u64 u65 u66 u67 u68 u69 u70,(∃ k n2 m2,k≤List.length L∧u51=Go.Proofs.Ytedomogjmhommaa.num ↑k∧(Go.Proofs.Ytedomogjmhommaa.SetM w' (S+1) n2 fun x_1=>x_1∈Go.Proofs.Ytedomogjmhommaa.nextL d x (Go.Proofs.Ytedomogjmhommaa.chooseS d (x :: List.drop (i+1) (Go.Proofs.Ytedomogjmhommaa.Dry.steps d))) (List.take k L))∧n2≤4 * k∧Go.Proofs.Ytedomogjmhommaa.Memo w' M d m2∧m2≤69905 * (1+1024 * i+k)∧Go.Proofs.Ytedomogjmhommaa.But [M,S+1] W2 w'∧Go.Proofs.Ytedomogjmhommaa.Marks N ds w')∧a'={ tmps:=(List.toArray ((Go.Proofs.Ytedomogjmhommaa.Dry.val d { h:=Go.Value.slice ha (List.length (Go.Proofs.Ytedomogjmhommaa.Dry.heats d)) hcap,s:=Go.Value.slice sa (List.length (Go.Proofs.Ytedomogjmhommaa.Dry.steps d)) scap }) :: (Go.Value.pointer (Option.some { block:=Array.size (Go.World.heap w),off:=0 })) :: u2 :: (Go.Value.bool Bool.false) :: (Go.Proofs.Ytedomogjmhommaa.num 0) :: (Go.Value.pointer (Option.some { block:=O,off:=0 })) :: (Go.Value.func (Go.Fn.func 90) #[] #[Go.Proofs.Ytedomogjmhommaa.ptr Bo,Go.Proofs.Ytedomogjmhommaa.ptr Bk,Go.Proofs.Ytedomogjmhommaa.ptr Bc]) :: (Go.Value.slice na (List.length L) nc) :: (Go.Proofs.Ytedomogjmhommaa.num ↑i) :: (Go.Value.pointer (Option.some { block:=S,off:=0 })) :: (Go.Value.pointer (Option.some { block:=S+1+1,off:=0 })) :: Go.undef :: u12 :: u13 :: u14 :: (Go.Proofs.Ytedomogjmhommaa.opV B) :: (Go.Value.agg #[Go.Value.slice ha (List.length (Go.Proofs.Ytedomogjmhommaa.Dry.heats d)) hcap,Go.Proofs.Ytedomogjmhommaa.num (Go.Proofs.Ytedomogjmhommaa.Dry.soak d),Go.Proofs.Ytedomogjmhommaa.num (Go.Proofs.Ytedomogjmhommaa.Dry.brittle d),Go.Proofs.Ytedomogjmhommaa.num (Go.Proofs.Ytedomogjmhommaa.St.w (Go.Proofs.Ytedomogjmhommaa.Dry.start d)),Go.Proofs.Ytedomogjmhommaa.num (Go.Proofs.Ytedomogjmhommaa.St.c (Go.Proofs.Ytedomogjmhommaa.Dry.start d)),Go.Proofs.Ytedomogjmhommaa.num (Go.Proofs.Ytedomogjmhommaa.St.h (Go.Proofs.Ytedomogjmhommaa.Dry.start d)),Go.Value.slice sa (List.length (Go.Proofs.Ytedomogjmhommaa.Dry.steps d)) scap]) :: (Go.Proofs.Ytedomogjmhommaa.opV B) :: (Go.Proofs.Ytedomogjmhommaa.ptr B) :: (Go.Proofs.Ytedomogjmhommaa.num 0) :: (Go.Proofs.Ytedomogjmhommaa.num 0) :: (Go.Value.bool Bool.false) :: Go.undef :: (Go.Proofs.Ytedomogjmhommaa.ptr B) :: (Go.Value.func (Go.Fn.func 90) #[] #[Go.Proofs.Ytedomogjmhommaa.ptr Bo,Go.Proofs.Ytedomogjmhommaa.ptr Bk,Go.Proofs.Ytedomogjmhommaa.ptr Bc]) :: (Go.Value.func (Go.Fn.func 90) #[] #[Go.Proofs.Ytedomogjmhommaa.ptr Bo,Go.Proofs.Ytedomogjmhommaa.ptr Bk,Go.Proofs.Ytedomogjmhommaa.ptr Bc]) :: (Go.Value.pointer (Option.some { block:=Array.size (Go.World.heap w),off:=3 })) :: (Go.Value.agg #[Go.Proofs.Ytedomogjmhommaa.num (Go.Proofs.Ytedomogjmhommaa.St.w (Go.Proofs.Ytedomogjmhommaa.Dry.start d)),Go.Proofs.Ytedomogjmhommaa.num (Go.Proofs.Ytedomogjmhommaa.St.c (Go.Proofs.Ytedomogjmhommaa.Dry.start d)),Go.Proofs.Ytedomogjmhommaa.num (Go.Proofs.Ytedomogjmhommaa.St.h (Go.Proofs.Ytedomogjmhommaa.Dry.start d))]) :: (Go.Value.agg #[Go.Value.int Go.IntKind.i64 0,Go.Proofs.Ytedomogjmhommaa.num (Go.Proofs.Ytedomogjmhommaa.St.w (Go.Proofs.Ytedomogjmhommaa.Dry.start d)),Go.Proofs.Ytedomogjmhommaa.num (Go.Proofs.Ytedomogjmhommaa.St.c (Go.Proofs.Ytedomogjmhommaa.Dry.start d)),Go.Proofs.Ytedomogjmhommaa.num (Go.Proofs.Ytedomogjmhommaa.St.h (Go.Proofs.Ytedomogjmhommaa.Dry.start d))]) :: (Go.Proofs.Ytedomogjmhommaa.num c) :: (Go.Value.bool Bool.false) :: (Go.Value.pointer (Option.some { block:=Array.size (Go.World.heap w),off:=3 })) :: (Go.Value.agg #[Go.Proofs.Ytedomogjmhommaa.num (Go.Proofs.Ytedomogjmhommaa.St.w (Go.Proofs.Ytedomogjmhommaa.Dry.start d)),Go.Proofs.Ytedomogjmhommaa.num (Go.Proofs.Ytedomogjmhommaa.St.c (Go.Proofs.Ytedomogjmhommaa.Dry.start d)),Go.Proofs.Ytedomogjmhommaa.num (Go.Proofs.Ytedomogjmhommaa.St.h (Go.Proofs.Ytedomogjmhommaa.Dry.start d))]) :: (Go.Value.slice (Option.some { block:=N,off:=0 }) 1 1) :: (Go.Value.slice Option.none 0 0) :: (Go.Value.slice (Option.some { block:=N,off:=0 }) 1 1) :: (Go.Value.slice (Option.some { block:=Array.size (Go.World.heap Y),off:=0 }) 1 1) :: v0 :: (Go.Proofs.Ytedomogjmhommaa.ptr B) :: (Go.Value.pointer (Option.some { block:=B,off:=0 })) :: (Go.Value.pointer (Option.some { block:=B,off:=7 })) :: (Go.Value.slice (Option.some { block:=b,off:=off }) (List.length (Go.Proofs.Ytedomogjmhommaa.Dry.steps d)) stc) :: (Go.Value.int Go.IntKind.i64 ↑(List.length (Go.Proofs.Ytedomogjmhommaa.Dry.steps d))) :: (Go.Proofs.Ytedomogjmhommaa.num ↑i) :: (Go.Value.bool Bool.true) :: (Go.Proofs.Ytedomogjmhommaa.num ↑i) :: (Go.Value.pointer (Option.some { block:=b,off:=off+i * 7 })) :: (Go.Value.agg #[Go.Proofs.Ytedomogjmhommaa.num (Go.Proofs.Ytedomogjmhommaa.Stp.lo x),Go.Proofs.Ytedomogjmhommaa.num (Go.Proofs.Ytedomogjmhommaa.Stp.hi x),Go.Value.bool (Go.Proofs.Ytedomogjmhommaa.Stp.tended x),Go.Proofs.Ytedomogjmhommaa.num (Go.Proofs.Ytedomogjmhommaa.Stp.wlo x),Go.Proofs.Ytedomogjmhommaa.num (Go.Proofs.Ytedomogjmhommaa.Stp.whi x),Go.Proofs.Ytedomogjmhommaa.num (Go.Proofs.Ytedomogjmhommaa.Stp.col x),Go.Proofs.Ytedomogjmhommaa.num ↑(List.length (Go.Proofs.Ytedomogjmhommaa.Dry.heats d))]) :: (Go.Value.map (Option.some (S+1))) :: (Go.Value.slice na (List.length L) nc) :: (Go.Value.int Go.IntKind.i64 ↑(List.length L)) :: u51 :: u52 :: u53 :: u54 :: u55 :: u56 :: u57 :: u58 :: u59 :: u60 :: u61 :: u62 :: Go.undef :: u64 :: u65 :: u66 :: u67 :: u68 :: u69 :: u70 :: u71 :: u72 :: u73 :: u74 :: u75 :: u76 :: u77 :: Go.undef :: [])),defers:=ds }) (fun a' w'=>List.length L-Int.toNat (Go.Proofs.intOf (Array.getD (Go.Act.tmps a') 51 Go.undef))) ?atStart ?round
  case atStart=>(repeat apply Exists.intro);refine⟨?_,rfl⟩;exact⟨0,_,n',Nat.zero_le _,rfl,(zgc k1).congr (fun s=>by simp [nextL]),by simp,hM2,by omega,But.refl _ _,hmk2⟩
  case round =>
   rintro _ wr ⟨ds,u12,u13,u14,u51,u52,u53,u54,u55,u56,u57,u58,u59,u60,u61,u62,u64,u65,u66,u67,u68,u69,u70,hrel,rfl⟩;try dsimp only
   obtain⟨k,n2,m2,hk,rfl,hset,hn2,hMr,hm2,hbut,hmk⟩:=hrel
   have kc2:Kc W2 wr:=hbut.kc (by simp;exact⟨⟨esM,clM,hmapM⟩,⟨_,_,k1⟩⟩)
   have hCr:=hC2.kc kc2
   have hXr:=kc2.cell hX2
   have nwr2:Nx w wr:=hbut.toNx nw2' (by simp;omega)
   have hszr2:=hbut.size
   by_cases hlk:k<L.length
   case neg =>
    obtain rfl:k=L.length:=by omega
    rw [List.take_length] at hset
    have k2r:wr.cell? ⟨S+1+1,0,none⟩=some (.map (some (S+1))):=kc2.cell (zaa (i:=0) k2 rfl)
    have hokN:=fun t ht=>(zll hO (List.mem_of_getElem? hx) hSafe.out t ht).1
    have k62:=fun (w1:World) (n1:Nx wr w1)=>zmk d.heats.length (S+1) n2 _ w1 hO.h4.1 hO.h4.2 (hset.kept (n1.grown none) (by simp)) hokN (by omega)
    have hRr:=hRo.out.but (hNo.trans hbut) (by simp;omega)
    have HD:=Lib.hid hSafe.out
    clear hset hokN k54
    gi_upto_region 22 with (first | (gi_at_call 62;refine CallsIn.mono (anyN (k62 _ (Nx.refl _))) ?_;rintro e w5 ⟨v5,xs,rfl,n5,hown5,hnd,hiff⟩) | gi_in)
    have hnew:zfX xs=setAt d (i+1):=by
     rw [hsucc.out,hdc.out]
     exact zh5 (zpn hnd) (zqd _) (fun s=>by rw [znB,znA,hiff])
    have hlx:xs.length=(setAt d (i+1)).length:=by rw [← hnew];exact (List.length_mergeSort xs).symm
    rw [hnew,hlx] at hown5
    have hR5:=hRr.but (But.nx n5:But [] wr w5) (by simp)
    have hL5:=zhX hO (i:=i+1) (by omega)
    have hv5:∀ g,v5.ownBlock=some g→wr.heap.size≤g:=fun g hg=>(hown5.lt g hg).1
    have hu2:∀ g,u2.ownBlock=some g→N≤g∧g<wr.heap.size:=fun g hg=>hRr.1.lt g hg
    obtain⟨a5,c5,rfl⟩:=zaB hown5
    have HN:=Lib.hid hnew
    have h5s:=n5.size
    have hMw:=(hMr.nx n5)
    have hmkw:=hmk.nx n5
    have hbutI:=hbut
    have nw5:=nwr2.trans n5
    have hszw:S+3≤w5.heap.size:=by omega
    clear hnew hlx hiff hnd k62 hMr hmk hbut k2r hRr
    gi_wp2_with (first | (gi_at_builtin;refine zaP T33 rfl _ _ rfl rfl N u2 vs.length (vs.map fun u=>[u]) rfl (zbi (by rw [zgF];exact hR5.1) _) (by simp) w5.heap.size [.slice a5 (setAt d (i+1)).length c5] rfl zaT rfl (by simp [Value.oneCell']) (by omega) (by omega) (by simp;omega) ?_;intro v' w7 hown7 hg7 hat7;simp only [Act.put,List.setIfInBounds_toArray,List.set_cons_succ,List.set_cons_zero]) | gi_in)
    have hRn:=hR5.snoc hvl (zeV hown5 (by omega)) (fun g hg e=>by have:=hv5 g hg;have:=(hu2 g e).2;omega) hown7 hg7 hat7
    have hM7:Memo w7 M d m2:=(hMw.nx (zaj (Nx.refl _) _)).blk (hg7.block M (by have:=hMw.lt;simp;omega) (fun e=>by have:=(hu2 M e.symm).1;omega))
    have hb7:But [M] w6 w7:=(((hbut2.fresh hbutI (by simp;omega)).trans (But.nx n5)).trans (But.nx (zaj (Nx.refl _) _))).fresh (But.grown (bs:=u2.ownBlock.toList) hg7 (fun r e=>.inl (by simp [e]))) (fun r hr=>.inr (by have:=(hu2 r (by simpa using hr)).1;omega))
    have hmk7:Marks N ds w7:=(hmkw.nx (zaj (Nx.refl _) _)).grown hg7 (fun r e he=>by
     obtain⟨cur,hc⟩:=zbX (zbi hR5.1 (.cells #[.slice a5 (setAt d (i+1)).length c5] 69)) e
     rw [hc] at he
     cases he)
    refine⟨?_,?measure⟩
    repeat apply Exists.intro
    refine⟨?rel,rfl⟩
    case rel=>exact⟨i+1,_,m2,hlt,by simp,by simp [hvl],by rw [List.getElem?_append_right (by omega)];simp [hvl],hRn,hM7,by omega,hb7,hmk7⟩
    case measure=>simp [intOf];omega
   case pos =>
   have hh:L[k]?=some L[k]:=List.getElem?_eq_getElem hlk
   have htk:=Lib.hid (List.take_succ_eq_append_getElem hlk)
   have hsf:=hSafe.out L[k] (List.getElem_mem _)
   generalize L[k]=s at hh htk hsf
   obtain⟨bs,offs,rfl,hbsl,hcls⟩:=(hS2'.out).get (by simp;omega)
   have f0:wr.cell? ⟨bs,offs+k * 3,none⟩=some (num s.w):=kc2.cell (Sl.at hcls (Nx.refl _) hbsl hh 0 (v:=num s.w) rfl)
   have f1:wr.cell? ⟨bs,offs+k * 3+1,none⟩=some (num s.c):=kc2.cell (Sl.at hcls (Nx.refl _) hbsl hh 1 (v:=num s.c) rfl)
   have f2:wr.cell? ⟨bs,offs+k * 3+2,none⟩=some (num s.h):=kc2.cell (Sl.at hcls (Nx.refl _) hbsl hh 2 (v:=num s.h) rfl)
   clear hcls hh
   gi_upto_region 16 with fail
   generalize hVn:wr.alloc _=V
   obtain⟨nV,sV,gV⟩:=al1 hVn
   clear hVn f0 f1 f2
   have SV:=Lib.hid sV
   clear sV
   obtain⟨hsO2,hs0⟩:=hsf
   obtain⟨kk,hkk,hck,hgd⟩:=zgs hs0
   have hCV:=hCr.kc (Kc.nx nV)
   have hMV:=hMr.nx nV
   have hXV:=(Kc.nx nV).cell hXr
   have hsetV:=hset.blk (nV.block _ (by omega))
   have k2V:V.cell? ⟨S+1+1,0,none⟩=some (.map (some (S+1))):=(Kc.nx nV).cell (kc2.cell (zaa (i:=0) k2 rfl))
   have k0V:V.heap[S]?=some (.cells #[num x.lo,num x.hi,.bool x.tended,num x.wlo,num x.whi,num x.col,num d.heats.length] 102 (0,0)):=(nV.block _ (by omega)).trans ((hbut.block _ (by omega) (by simp;omega)).trans k0)
   have hmkV:=hmk.nx nV
   have hbutV:=hbut.trans (But.nx nV:But [M,S+1] wr V)
   have nwV:=nwr2.trans nV
   have k90:=zdU d hO Bo Bk Bc B M (d.steps.length-i) i (by omega) s V m2 hsO2 hCV hMV (by have:=zcy (j:=d.steps.length-i) (k:=5) (by omega);rw [zi4] at this;omega)
   have hcal:Hid (calls (d.steps.length-i)≤69905):=by show _≤_;have:=zcy (j:=d.steps.length-i) (k:=5) (by omega);rw [zi4] at this;exact this
   rw [hdc.out] at k90
   generalize hcf:chooseS d (x :: d.steps.drop (i+1))=cf at *
   have HCF:=Lib.hid hcf
   clear hcf
   rw [hck] at k90
   have hhk:=zdW hkk
   have s0:V.cell? ⟨wr.heap.size,0,none⟩=some (num s.w):=zaa gV rfl
   have s1:V.cell? ⟨wr.heap.size,1,none⟩=some (num s.c):=zaa gV rfl
   have s2:V.cell? ⟨wr.heap.size,2,none⟩=some (num s.h):=zaa gV rfl
   have hTl:wr.heap.size<V.heap.size:=by have:=SV.out;omega
   have hTS:S+3≤wr.heap.size:=by omega
   have hcal2:=Lib.hid (show calls (d.steps.length-i)=calls (d.steps.length-i) from rfl)
   generalize calls (d.steps.length-i)=cj at *
   clear hset hMr hmk hbut hCr hXr nV hcal2
   generalize wr.heap.size=T at *
   gi_upto_region 17 with (first | (gi_at_call 90;refine CallsIn.mono (anyN k90) ?_;rintro e w9 ⟨rfl,hg9,m9,hm9,hM9⟩) | gi_in)
   obtain⟨esV,clV,hmapV⟩:=hMV.map
   have kc9:Kc V w9:=Kc.map hg9 hmapV
   generalize hYn:w9.alloc _=Y9
   obtain⟨nY9,sY9,gY9⟩:=al1 hYn
   clear hYn
   have SY9:=Lib.hid sY9
   clear sY9
   have hV9:=hg9.size
   have hMT:M<S:=by omega
   have b9:But [M] V w9:=But.grown hg9 (by simp)
   have b9Y:But [M] V Y9:=b9.trans (But.nx nY9)
   have kc9Y:=kc9.trans (Kc.nx nY9)
   have hCY:=(hCV.kc kc9Y).st
   have hMY:=hM9.nx nY9
   have hsetY:=hsetV.blk (b9Y.block _ (by omega) (by simp<;>omega))
   have k2Y:=kc9Y.cell k2V
   have k0Y:=(b9Y.block _ (by omega) (by simp<;>omega)).trans k0V
   have hmkY:Marks N ds Y9:=hmkV.keep (fun D hD hD2=>(b9Y.block D (Array.getElem?_eq_some_iff.1 hD2).1 (by simp<;>omega)).trans hD2)
   have hbutY:=hbutV.trans (b9Y.mono (by simp))
   have hXY:=kc9Y.cell hXV
   have gTY:=(b9Y.block _ hTl (by simp<;>omega)).trans gV
   have hHY:Y9.cell? ⟨w9.heap.size,0,none⟩=some (num kk):=zaa gY9 rfl
   have hHl:w9.heap.size<Y9.heap.size:=by have:=SY9.out;omega
   have y0:Y9.cell? ⟨S,0,none⟩=some (num x.lo):=zaa k0Y rfl
   have y1:Y9.cell? ⟨S,1,none⟩=some (num x.hi):=zaa k0Y rfl
   have y2:Y9.cell? ⟨S,2,none⟩=some (.bool x.tended):=zaa k0Y rfl
   have y3:Y9.cell? ⟨S,3,none⟩=some (num x.wlo):=zaa k0Y rfl
   have y4:Y9.cell? ⟨S,4,none⟩=some (num x.whi):=zaa k0Y rfl
   have y5:Y9.cell? ⟨S,5,none⟩=some (num x.col):=zaa k0Y rfl
   have k60:=fun (w1:World)=>zeH x w1
   have nwY:Nx w Y9:=b9Y.toNx nwV (by simp;omega)
   clear k90 hMV hsetV k2V k0V hmkV hbutV hXV gV hmapV hg9 b9 kc9 kc9Y hM9 nY9 hCV gY9 s0 s1 s2 b9Y
   generalize w9.heap.size=H at *
   gi_wp2_with (first | (gi_at_call 60;refine CallsIn.mono (anyN (k60 _)) ?_;rintro e w4 ⟨rfl,hw4⟩;replace hw4:=hw4.symm;subst hw4) | gi_in)
   generalize hXn:Y9.alloc _=X
   obtain⟨nX,sX,gX⟩:=al1 hXn
   have b0:X.cell? ⟨Y9.heap.size,0,none⟩=some (num x.lo):=zaa gX rfl
   have b1:X.cell? ⟨Y9.heap.size,1,none⟩=some (num x.hi):=zaa gX rfl
   have hlX:Y9.heap.size<X.heap.size:=by omega
   clear hXn y0 y1 y2 y3 y4 y5 gX
   have hsetX:=hsetY.blk (nX.block _ (by omega))
   have hkX:=Kc.nx nX
   have x2:=hkX.cell k2Y
   have x5:=hkX.cell hXY
   have xH:=hkX.cell hHY
   have gTX:=(nX.block _ (by omega)).trans gTY
   have hmkX:=hmkY.nx nX
   have hMX:=hMY.nx nX
   have hbX:=hbutY.trans (But.nx nX)
   have hNX:=nwY.trans nX
   have hSX:=hCY.nx nX
   have hYl:H<Y9.heap.size:=hHl
   clear hsetY k2Y hXY hHY gTY hmkY hMY hbutY nwY hCY hkX nX hHl
   generalize Y9.heap.size=Bw at *
   refine Go.wpIn_rangeFunc_ownG rfl (by omega) rfl trivial (enters_of Try.func93 (by kernel_rfl) rfl) (zej 3 (by omega) Bw x.lo x.hi X b0 b1 hlX hstx.1) zl3 (zoP hlX) (Go.RowKit.Below.refl _ _) (fun _=>rfl) (fun pre U=>But [S+1] X U∧SetM U (S+1) (n2+pre.length) (fun t=>t∈nextL d x cf (L.take k)∨∃ a∈pre,t=za9 d (zaM d kk) s kk a.1)) (fun c pre U=>False) ?hI ?hIx ?h0 (fun x_1=>{ tmps:=(List.toArray ((Go.Proofs.Ytedomogjmhommaa.Dry.val d { h:=Go.Value.slice ha (List.length (Go.Proofs.Ytedomogjmhommaa.Dry.heats d)) hcap,s:=Go.Value.slice sa (List.length (Go.Proofs.Ytedomogjmhommaa.Dry.steps d)) scap }) :: (Go.Value.pointer (Option.some { block:=Array.size (Go.World.heap w),off:=0 })) :: u2 :: (Go.Value.bool Bool.false) :: (Go.Proofs.Ytedomogjmhommaa.num 0) :: (Go.Value.pointer (Option.some { block:=O,off:=0 })) :: (Go.Value.func (Go.Fn.func 90) #[] #[Go.Proofs.Ytedomogjmhommaa.ptr Bo,Go.Proofs.Ytedomogjmhommaa.ptr Bk,Go.Proofs.Ytedomogjmhommaa.ptr Bc]) :: (Go.Value.slice (Option.some { block:=bs,off:=offs }) (List.length L) nc) :: (Go.Proofs.Ytedomogjmhommaa.num ↑i) :: (Go.Value.pointer (Option.some { block:=S,off:=0 })) :: (Go.Value.pointer (Option.some { block:=S+1+1,off:=0 })) :: Go.undef :: (Go.Value.pointer (Option.some { block:=T,off:=0 })) :: (Go.Value.pointer (Option.some { block:=H,off:=0 })) :: (Go.Proofs.Ytedomogjmhommaa.num (Subtype.val x_1)) :: (Go.Proofs.Ytedomogjmhommaa.opV B) :: (Go.Value.agg #[Go.Value.slice ha (List.length (Go.Proofs.Ytedomogjmhommaa.Dry.heats d)) hcap,Go.Proofs.Ytedomogjmhommaa.num (Go.Proofs.Ytedomogjmhommaa.Dry.soak d),Go.Proofs.Ytedomogjmhommaa.num (Go.Proofs.Ytedomogjmhommaa.Dry.brittle d),Go.Proofs.Ytedomogjmhommaa.num (Go.Proofs.Ytedomogjmhommaa.St.w (Go.Proofs.Ytedomogjmhommaa.Dry.start d)),Go.Proofs.Ytedomogjmhommaa.num (Go.Proofs.Ytedomogjmhommaa.St.c (Go.Proofs.Ytedomogjmhommaa.Dry.start d)),Go.Proofs.Ytedomogjmhommaa.num (Go.Proofs.Ytedomogjmhommaa.St.h (Go.Proofs.Ytedomogjmhommaa.Dry.start d)),Go.Value.slice sa (List.length (Go.Proofs.Ytedomogjmhommaa.Dry.steps d)) scap]) :: (Go.Proofs.Ytedomogjmhommaa.opV B) :: (Go.Proofs.Ytedomogjmhommaa.ptr B) :: (Go.Proofs.Ytedomogjmhommaa.num 0) :: (Go.Proofs.Ytedomogjmhommaa.num 0) :: (Go.Value.bool Bool.false) :: Go.undef :: (Go.Proofs.Ytedomogjmhommaa.ptr B) :: (Go.Value.func (Go.Fn.func 90) #[] #[Go.Proofs.Ytedomogjmhommaa.ptr Bo,Go.Proofs.Ytedomogjmhommaa.ptr Bk,Go.Proofs.Ytedomogjmhommaa.ptr Bc]) :: (Go.Value.func (Go.Fn.func 90) #[] #[Go.Proofs.Ytedomogjmhommaa.ptr Bo,Go.Proofs.Ytedomogjmhommaa.ptr Bk,Go.Proofs.Ytedomogjmhommaa.ptr Bc]) :: (Go.Value.pointer (Option.some { block:=Array.size (Go.World.heap w),off:=3 })) :: (Go.Value.agg #[Go.Proofs.Ytedomogjmhommaa.num (Go.Proofs.Ytedomogjmhommaa.St.w (Go.Proofs.Ytedomogjmhommaa.Dry.start d)),Go.Proofs.Ytedomogjmhommaa.num (Go.Proofs.Ytedomogjmhommaa.St.c (Go.Proofs.Ytedomogjmhommaa.Dry.start d)),Go.Proofs.Ytedomogjmhommaa.num (Go.Proofs.Ytedomogjmhommaa.St.h (Go.Proofs.Ytedomogjmhommaa.Dry.start d))]) :: (Go.Value.agg #[Go.Value.int Go.IntKind.i64 0,Go.Proofs.Ytedomogjmhommaa.num (Go.Proofs.Ytedomogjmhommaa.St.w (Go.Proofs.Ytedomogjmhommaa.Dry.start d)),Go.Proofs.Ytedomogjmhommaa.num (Go.Proofs.Ytedomogjmhommaa.St.c (Go.Proofs.Ytedomogjmhommaa.Dry.start d)),Go.Proofs.Ytedomogjmhommaa.num (Go.Proofs.Ytedomogjmhommaa.St.h (Go.Proofs.Ytedomogjmhommaa.Dry.start d))]) :: (Go.Proofs.Ytedomogjmhommaa.num c) :: (Go.Value.bool Bool.false) :: (Go.Value.pointer (Option.some { block:=Array.size (Go.World.heap w),off:=3 })) :: (Go.Value.agg #[Go.Proofs.Ytedomogjmhommaa.num (Go.Proofs.Ytedomogjmhommaa.St.w (Go.Proofs.Ytedomogjmhommaa.Dry.start d)),Go.Proofs.Ytedomogjmhommaa.num (Go.Proofs.Ytedomogjmhommaa.St.c (Go.Proofs.Ytedomogjmhommaa.Dry.start d)),Go.Proofs.Ytedomogjmhommaa.num (Go.Proofs.Ytedomogjmhommaa.St.h (Go.Proofs.Ytedomogjmhommaa.Dry.start d))]) :: (Go.Value.slice (Option.some { block:=N,off:=0 }) 1 1) :: (Go.Value.slice Option.none 0 0) :: (Go.Value.slice (Option.some { block:=N,off:=0 }) 1 1) :: (Go.Value.slice (Option.some { block:=Array.size (Go.World.heap Y),off:=0 }) 1 1) :: v0 :: (Go.Proofs.Ytedomogjmhommaa.ptr B) :: (Go.Value.pointer (Option.some { block:=B,off:=0 })) :: (Go.Value.pointer (Option.some { block:=B,off:=7 })) :: (Go.Value.slice (Option.some { block:=b,off:=off }) (List.length (Go.Proofs.Ytedomogjmhommaa.Dry.steps d)) stc) :: (Go.Value.int Go.IntKind.i64 ↑(List.length (Go.Proofs.Ytedomogjmhommaa.Dry.steps d))) :: (Go.Proofs.Ytedomogjmhommaa.num ↑i) :: (Go.Value.bool Bool.true) :: (Go.Proofs.Ytedomogjmhommaa.num ↑i) :: (Go.Value.pointer (Option.some { block:=b,off:=off+i * 7 })) :: (Go.Value.agg #[Go.Proofs.Ytedomogjmhommaa.num (Go.Proofs.Ytedomogjmhommaa.Stp.lo x),Go.Proofs.Ytedomogjmhommaa.num (Go.Proofs.Ytedomogjmhommaa.Stp.hi x),Go.Value.bool (Go.Proofs.Ytedomogjmhommaa.Stp.tended x),Go.Proofs.Ytedomogjmhommaa.num (Go.Proofs.Ytedomogjmhommaa.Stp.wlo x),Go.Proofs.Ytedomogjmhommaa.num (Go.Proofs.Ytedomogjmhommaa.Stp.whi x),Go.Proofs.Ytedomogjmhommaa.num (Go.Proofs.Ytedomogjmhommaa.Stp.col x),Go.Proofs.Ytedomogjmhommaa.num ↑(List.length (Go.Proofs.Ytedomogjmhommaa.Dry.heats d))]) :: (Go.Value.map (Option.some (S+1))) :: (Go.Value.slice (Option.some { block:=bs,off:=offs }) (List.length L) nc) :: (Go.Value.int Go.IntKind.i64 ↑(List.length L)) :: (Go.Proofs.Ytedomogjmhommaa.num ↑k) :: (Go.Value.bool Bool.true) :: (Go.Value.pointer (Option.some { block:=bs,off:=offs+k * 3 })) :: (Go.Value.agg #[Go.Proofs.Ytedomogjmhommaa.num (Go.Proofs.Ytedomogjmhommaa.St.w s),Go.Proofs.Ytedomogjmhommaa.num (Go.Proofs.Ytedomogjmhommaa.St.c s),Go.Proofs.Ytedomogjmhommaa.num (Go.Proofs.Ytedomogjmhommaa.St.h s)]) :: (Go.Value.func (Go.Fn.func 90) #[] #[Go.Proofs.Ytedomogjmhommaa.ptr Bo,Go.Proofs.Ytedomogjmhommaa.ptr Bk,Go.Proofs.Ytedomogjmhommaa.ptr Bc]) :: (Go.Proofs.Ytedomogjmhommaa.num ↑i) :: (Go.Value.agg #[Go.Proofs.Ytedomogjmhommaa.num (Go.Proofs.Ytedomogjmhommaa.St.w s),Go.Proofs.Ytedomogjmhommaa.num (Go.Proofs.Ytedomogjmhommaa.St.c s),Go.Proofs.Ytedomogjmhommaa.num (Go.Proofs.Ytedomogjmhommaa.St.h s)]) :: (Go.Value.agg #[Go.Proofs.Ytedomogjmhommaa.num ↑i,Go.Proofs.Ytedomogjmhommaa.num (Go.Proofs.Ytedomogjmhommaa.St.w s),Go.Proofs.Ytedomogjmhommaa.num (Go.Proofs.Ytedomogjmhommaa.St.c s),Go.Proofs.Ytedomogjmhommaa.num (Go.Proofs.Ytedomogjmhommaa.St.h s)]) :: (Go.Proofs.Ytedomogjmhommaa.num ↑kk) :: (Go.Value.pointer (Option.some { block:=S,off:=0 })) :: (Go.Value.agg #[Go.Proofs.Ytedomogjmhommaa.num (Go.Proofs.Ytedomogjmhommaa.Stp.lo x),Go.Proofs.Ytedomogjmhommaa.num (Go.Proofs.Ytedomogjmhommaa.Stp.hi x),Go.Value.bool (Go.Proofs.Ytedomogjmhommaa.Stp.tended x),Go.Proofs.Ytedomogjmhommaa.num (Go.Proofs.Ytedomogjmhommaa.Stp.wlo x),Go.Proofs.Ytedomogjmhommaa.num (Go.Proofs.Ytedomogjmhommaa.Stp.whi x),Go.Proofs.Ytedomogjmhommaa.num (Go.Proofs.Ytedomogjmhommaa.Stp.col x)]) :: (Go.Value.func (Go.Fn.func 93) #[] #[Go.Value.pointer (Option.some { block:=Bw,off:=0 })]) :: (Go.Proofs.Ytedomogjmhommaa.num (Subtype.val x_1)) :: u64 :: u65 :: u66 :: u67 :: u68 :: u69 :: u70 :: u71 :: u72 :: u73 :: u74 :: u75 :: u76 :: u77 :: Go.undef :: [])),defers:=[] }) ?assign ?body ?done ?stop
   case hI =>
    rintro pre U U' row ⟨h1,h2⟩ hg hr
    have hne:∀ r,row=some r→X.heap.size≤r:=fun r e=>(hr r e).1
    exact⟨h1.own hg hne,h2.kept hg (fun e=>by have:=hne _ e.symm;omega)⟩
   case hIx=>exact fun _ _ _ _ _ h=>h.elim
   case h0=>exact⟨But.refl _ _,hsetX.congr (by simp)⟩
   case assign =>
    intro l x W K hK
    gi_wp2
    exact hK
   case body =>
    rintro l pre a U ⟨hU1,hU2⟩ hlen
    obtain⟨esX,clX,hmapX⟩:=hsetX.map
    have kU:Kc X U:=hU1.kc (by simp;exact⟨esX,clX,hmapX⟩)
    have k61:=fun (U1:World) (n1:Nx U U1)=>zf9 d B s kk (zaM d kk) a.1 U1 ((hSX.kc kU).nx n1) hO hhk hsO2 a.2
    have hs':=zep hO (List.mem_of_getElem? hhk) hsO2 (heat:=kk) (damp:=a.1) (n:=d.heats.length) (by omega) a.2.1
    have hsI:=hs'.i hO.h4.2
    have sU:=hU1.size
    have gS:=(hU1.block T (by omega) (by simp;omega)).trans gTX
    have t0:U.cell? ⟨T,0,none⟩=some (num s.w):=zaa gS rfl
    have t1:U.cell? ⟨T,1,none⟩=some (num s.c):=zaa gS rfl
    have t2:U.cell? ⟨T,2,none⟩=some (num s.h):=zaa gS rfl
    have r2:=kU.cell x2
    have r5:=kU.cell x5
    have rH:=kU.cell xH
    have hlen2:n2+pre.length<maxLen:=by unfold maxLen;omega
    have HS1:∃ s',za9 d (zaM d kk) s kk a.1=s':=⟨_,rfl⟩
    obtain⟨s',HS1⟩:=HS1
    rw [HS1] at k61 hsI
    have HS1:=Lib.hid HS1
    clear hs'
    gi_upto_region 19 with fail
    refine zat (Nx U) 6 (by kernel_rfl) ?_
    obtain⟨Z,G,hN,hG,hG'⟩:=zaC (C:=Nx U) (x:=U) (Nx.refl _)
    have t0:=fun z=>(Kc.nx (hG' z)).cell t0
    have t1:=fun z=>(Kc.nx (hG' z)).cell t1
    have t2:=fun z=>(Kc.nx (hG' z)).cell t2
    have r2:=fun z=>(Kc.nx (hG' z)).cell r2
    have r5:=fun z=>(Kc.nx (hG' z)).cell r5
    have rH:=fun z=>(Kc.nx (hG' z)).cell rH
    change Go.wpAnyZ _ _ _ _ _ _ _ _ 7 #[false,false,false,false,false,false,false] _ _
    have n7:Nx U U.drew:=Nx.drew (Nx.refl U)
    generalize U.drew=V7 at n7 ⊢
    refine Go.zqE 0 hG (by kernel_rfl) (fun _ _ _ h=>by cases h.1) rfl ?_;intro o ho K hK;simp at ho;subst ho;gi_big_quiet_op;go_big_quiet_on
    refine Go.zqE 1 hG (by kernel_rfl) (fun _ _ _ h=>by cases h.1) rfl ?_;intro o ho K hK;simp at ho;subst ho;gi_big_quiet_op;go_big_quiet_on
    refine Go.zqE 2 hG (by kernel_rfl) (fun _ _ _ h=>by cases h.1) rfl ?_;intro o ho K hK;simp at ho;subst ho;gi_big_quiet_op;go_big_quiet_on
    refine Go.zqE 3 hG (by kernel_rfl) (fun _ _ _ h=>by cases h.1) rfl ?_;intro o ho K hK;simp at ho;subst ho;gi_big_quiet_op;go_big_quiet_on
    refine Go.zqE 4 hG (by kernel_rfl) (fun _ _ _ h=>by cases h.1) rfl ?_;intro o ho K hK;simp at ho;subst ho;gi_big_quiet_op;go_big_quiet_on
    clear hG hG' hN t0 t1 t2 r2 r5 rH
    refine Go.zoE 5 (by kernel_rfl) rfl ?_ ?_;rotate_left;intro o ho K hK;simp at ho;subst ho
    gi_wp2_with (first | (gi_at_call 61;refine CallsIn.mono (CallsIn.inRound l (anyN (k61 _ n7))) ?_;rintro e w8' ⟨rfl,n8⟩) | gi_in)
    have n78:=n7.trans n8
    have hsets:=hU2.blk (n78.block (S+1) (by omega))
    refine Go.zoE 6 (by kernel_rfl) rfl ?_ ?_;rotate_left;intro o ho K hK;simp at ho;subst ho
    refine zhi (.inr ⟨_,rfl⟩) _ _ _ 104 rfl Try.underlying104 (S+1) _ _ s' rfl rfl rfl hsI hsets hlen2 ?_
    intro w9 hS9 g9
    refine hK _ _ ?_
    simp only [Act.put,List.setIfInBounds_toArray,List.set_cons_succ,List.set_cons_zero]
    have hF:But [S+1] U w9:=(But.nx n78).trans (But.grown g9 (by simp))
    refine zar (by kernel_rfl) (fun h=>absurd h (by decide)) ⟨rfl,?_⟩
    ·refine (show KeepsFrom X.heap.size U _∧KpB Bw U _∧(But [S+1] X _∧_) from ⟨hF.keeps (by simp<;>omega),⟨hF.size,hF.block Bw (by omega) (by simp<;>omega)⟩,hU1.trans hF,?_⟩)
     rw [show n2+(pre++[a]).length=n2+pre.length+1 by simp;omega]
     refine hS9.congr fun t=>?_
     rw [← HS1.out]
     simp only [List.mem_append,List.mem_singleton,or_and_right,exists_or,exists_eq_left,or_assoc]
    all_goals (intro _;first | exact n7 | exact n78)
   case done =>
    rintro D ys2 U hD hS2' ⟨hU1,hU2⟩ hK
    have hlen:ys2.length≤4:=by
     have:=congrArg List.length hS2'
     rw [List.length_map,zcz] at this
     omega
    have hmU:=Marks.cons (W0:=X) (W:=U) hmkX (hmkX.keep (fun D hD hD2=>(hU1.block D (Array.getElem?_eq_some_iff.1 hD2).1 (fun e=>by obtain⟨esX,clX,hmapX⟩:=hsetX.map;simp at e;rw [e,hmapX] at hD2;cases hD2)).trans hD2)) hD (by omega) hK
    have hall2:∀ t,(t∈nextL d x cf (L.take k)∨∃ a∈ys2,t=za9 d (zaM d kk) s kk a.1)↔t∈nextL d x cf (L.take (k+1)):=fun t=>by
     rw [htk.out,zl9,hck,Int.toNat_natCast,Stp.damps,← hS2']
     simp
    replace hU2:=hU2.congr hall2
    have hbU:=hbX.trans (hU1.mono (by simp))
    have hMU:Memo U M d m9:=hMX.blk (hU1.block _ hMX.lt (by simp;omega))
    clear hall2 hK hS2'
    gi_wp2
    refine⟨?_,?measure⟩
    repeat apply Exists.intro
    refine⟨?rel,rfl⟩
    case rel=>exact⟨k+1,n2+ys2.length,m9,hlk,by simp,by rw [HCF.out];exact hU2,by omega,hMU,by have:=hcal.out;omega,hbU,hmU⟩
    case measure=>simp [intOf];omega
   case stop =>
    rintro D c pre U _ _ h _
    exact h.elim
end Go.Proofs.Ytedomogjmhommaa
