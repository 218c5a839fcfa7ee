import Derived.Test.YtedomogjmhommaaH19
import Derived.Test.YtedomogjmhommaaH20
set_option linter.all false
set_option maxRecDepth 100000
set_option maxHeartbeats 8000000
namespace Go.Proofs.Ytedomogjmhommaa
open Go.RowKit Go.Shelf
attribute [local go_sem] Oper.semAt_some
def zhq:Option (List (Int×Int))→List Int→Option (List (Int×Int))
 | none,a=>some (a.map fun x=>(x,x))
 | some D,a=>some (List.zipWith (fun p x=>(min p.1 x,max p.2 x)) D a)
def zcD (d:Dry) (plan:List Int) (seen:List Sn) (airs:List (List Int)):Option (List (Int×Int)) :=
 (airs.filter fun a=>zee (zaq d d.start plan a) seen).foldl zhq none
def zkk:Option (List (Int×Int))→List (Int×Int)×Int
 | none=>([],9)
 | some D=>(D,0)
def zgx (d:Dry) (plan:List Int) (seen:List Sn):List (Int×Int)×Int :=
 if zbp d plan≠0 then ([],zbp d plan) else if ziE d seen≠0 then ([],ziE d seen) else zkk (zcD d plan seen (zaH d.steps))
theorem zkl (d:Dry) (plan:List Int) (seen:List Sn) (l:List (List Int)) (a:List Int):zcD d plan seen (l++[a])=if zee (zaq d d.start plan a) seen=true then zhq (zcD d plan seen l) a else zcD d plan seen l:=by
 unfold zcD
 rw [List.filter_append,List.foldl_append]
 by_cases h:zee (zaq d d.start plan a) seen=true
 ·rw [if_pos h];simp [h]
 ·rw [if_neg h];simp [h]
theorem zmE (o:Option (List (Int×Int))) (a:List Int):zhq o a=some ((zhq o a).getD []):=by cases o<;>rfl
def zes (st:Option (List (Int×Int))):List (Int×Int):=st.getD []
def tgtD (st:Option (List (Int×Int))) (a:List Int):List (Int×Int):=(zhq st a).getD []
theorem zqf {st:Option (List (Int×Int))} {a:List Int} {n:Nat} (ha:a.length=n) (h:∀ D,st=some D→D.length=n):(tgtD st a).length=n:=by
 cases st with
 | none=>simp [tgtD,zhq,ha]
 | some D=>simp [tgtD,zhq,ha,h D rfl]
theorem zpr {a:List Int} {i:Nat} {x:Int} (h:a[i]?=some x):(tgtD none a)[i]?=some (x,x):=by simp [tgtD,zhq,h]
theorem zps {D:List (Int×Int)} {a:List Int} {i:Nat} {x:Int} {p:Int×Int} (h:a[i]?=some x) (hp:D[i]?=some p):(tgtD (some D) a)[i]?=some (if x<p.1 then x else p.1,if p.2<x then x else p.2):=by
 have e1:(if x<p.1 then x else p.1)=min p.1 x:=by split<;>omega
 have e2:(if p.2<x then x else p.2)=max p.2 x:=by split<;>omega
 rw [e1,e2]
 simp [tgtD,zhq,List.getElem?_zipWith,h,hp]
theorem zj2 {α:Type} {l:List α} {i:Nat} {y:α} (h:l[i]?=some y):l.take (i+1)=l.take i++[y]:=by
 have hl:=(List.getElem?_eq_some_iff.1 h).1
 rw [List.take_succ_eq_append_getElem hl]
 rw [List.getElem?_eq_getElem hl,Option.some.injEq] at h
 rw [h]
theorem T50:ElemT 50 45 (.agg #[num 0,num 0]) 2 16:=.mk' Try.underlying50 (by kernel_rfl) (by kernel_rfl) (by decide)
theorem zkF {t:Array Value} {W:World} {b1:Nat} {x:Value} {f:Int} {f1:Nat×Nat} (h6:t[6]?=some (ptr b1)) (h7:t[7]?=some (num f)) (g1:W.heap[b1]?=some (.cells #[x] 50 f1)):(results Try.f30 t).run Try.prog W=.ok (.tuple #[x,num f]) W:=by
 have c0:=zaa (i:=0) g1 rfl
 simp [results,Try.results30,go_sem,h6,h7,c0]
theorem zkj (d:Dry) (r:R2) (u u2:Value) (plan:List Int) (seen:List Sn) (w:World) (hd:DrySl w d r) (hu:Sl w u 1 (plan.map one)) (hl:plan.length≤1000000000) (hu2:Sl w u2 3 (seen.map Sn.cells)) (hl2:seen.length≤1000000000) :
  CallsIn FW 0 Try.prog 30 #[d.val r,u,u2] w fun e w'=>∃ v,e=.returned (.tuple #[v,num (zgx d plan seen).2])∧Nx w w'∧Sl w' v 2 ((zgx d plan seen).1.map spc):=by
 have k70b:=fun (h:dryF d≠0) (w1:World) (n:Nx w w1)=>zer d r u w1 (hd.nx n) h
 have k70:=fun (h:dryF d=0) (w1:World) (n:Nx w w1)=>zfn d r u plan w1 (hd.nx n) h (hu.nx n) hl
 obtain⟨ua,ucap,rfl⟩:=hu.cases
 obtain⟨va,vcap,rfl⟩:=hu2.cases
 have HU:=Lib.hid hu
 have HV:=Lib.hid hu2
 have HSL:=Lib.hid hd.sl
 obtain⟨rh,rs⟩:=r
 obtain⟨ha,hcap,hrs⟩:=hd.heats.cases
 dsimp only at hrs
 subst hrs
 obtain⟨sa,scap,hrs⟩:=hd.steps.cases
 dsimp only at hrs
 subst hrs
 rw [List.length_map,List.length_map] at *
 rw [List.length_map,List.length_map] at *
 clear hd hu hu2
 obtain⟨g,hg⟩:∃ g,zgx d plan seen=g:=⟨_,rfl⟩
 rw [hg]
 have HG:=Lib.hid hg
 clear hg
 apply anyN (n:=4)
 refine callsIn_of_wp_marks Try.func30 rfl trivial ?_ rfl
 simp only [Try.ntmps30,List.size_toArray,List.length_cons,List.length_nil,Nat.reduceAdd,Nat.reduceSub,Array.replicate_succ,Array.replicate_zero,List.push_toArray,List.append_toArray,List.nil_append,List.cons_append]
 gi_upto_region 1 with fail
 generalize hWn:(((w.alloc _).alloc _).alloc _).alloc _=W
 obtain⟨nW,sW,g0,g1,g2,g3⟩:=al4 hWn
 have hbW:DBox W w.heap.size d ⟨.slice ha d.heats.length hcap,.slice sa d.steps.length scap⟩:=⟨by omega,fun i v h=>zaa g0 h⟩
 clear hWn g0
 generalize hA:w.heap.size=A at *
 have p1:=zaa (i:=0) (v:=.slice ua plan.length ucap) g1 rfl
 have p2:=zaa (i:=0) (v:=.slice va seen.length vcap) g2 rfl
 have c0:=hbW.at' 0 _ rfl
 have c1:=hbW.at' 1 _ rfl
 have c2:=hbW.at' 2 _ rfl
 have c3:=hbW.at' 3 _ rfl
 have c4:=hbW.at' 4 _ rfl
 have c5:=hbW.at' 5 _ rfl
 have c6:=hbW.at' 6 _ rfl
 by_cases q0:dryF d=0
 case neg =>
  have HR:Hid (g=([],dryF d)):=by
   have e:zbp d plan=dryF d:=by unfold zbp;rw [if_pos q0]
   show _=_;rw [← HG.out];unfold zgx;rw [e,if_pos q0]
  have b1:(dryF d == 0)=false:=beq_false_of_ne q0
  have k70b:=k70b q0
  clear k70
  generalize dryF d=f at *
  gi_upto_region 2 with (first | (gi_at_call 70;refine CallsIn.mono (anyN (k70b _ nW)) ?_;rintro e w2 ⟨rfl,n2⟩) | gi_in)
  have gz:=(zbq (o:=.cells #[.pointer none] 87) (show A+1+1+1<w2.heap.size by have:=n2.size;omega)).trans ((n2.block (A+1+1+1) (by omega)).trans g3)
  have nZ:=zaj (nW.trans n2) (.cells #[.pointer none] 87)
  have cz:=zaa (i:=0) (v:=.slice none 0 0) gz rfl
  have fz:=zac (i:=0) gz
  have gF:=zaA (i:=0) (v:=.slice none 0 0) gz
  generalize w2.alloc (.cells #[.pointer none] 87)=Z at *
  gi_wp2
  exact⟨_,zkF rfl rfl gF,_,by rw [HR.out]<;>rfl,nZ.set (by omega),by rw [HR.out];exact⟨0,.inl ⟨rfl,rfl⟩⟩⟩
 case pos =>
 have hpf:zbp d plan=plF d plan:=by unfold zbp;rw [if_neg (by simpa using q0)]
 have k70:=k70 q0
 clear k70b
 by_cases q1:plF d plan=0
 case neg =>
  have HR:Hid (g=([],plF d plan)):=by show _=_;rw [← HG.out];unfold zgx;rw [hpf,if_pos q1]
  have b1:(plF d plan == 0)=false:=beq_false_of_ne q1
  clear hpf
  generalize plF d plan=f at *
  gi_upto_region 2 with (first | (gi_at_call 70;refine CallsIn.mono (anyN (k70 _ nW)) ?_;rintro e w2 ⟨B,rfl,n2,hS⟩) | gi_in)
  have gz:=(zbq (o:=.cells #[ptr B] 87) (show A+1+1+1<w2.heap.size by have:=n2.size;omega)).trans ((n2.block (A+1+1+1) (by omega)).trans g3)
  have nZ:=zaj (nW.trans n2) (.cells #[ptr B] 87)
  have cz:=zaa (i:=0) (v:=.slice none 0 0) gz rfl
  have fz:=zac (i:=0) gz
  have gF:=zaA (i:=0) (v:=.slice none 0 0) gz
  generalize w2.alloc (.cells #[ptr B] 87)=Z at *
  gi_wp2
  exact⟨_,zkF rfl rfl gF,_,by rw [HR.out]<;>rfl,nZ.set (by omega),by rw [HR.out];exact⟨0,.inl ⟨rfl,rfl⟩⟩⟩
 case pos =>
 have HG2:Hid (g=if ziE d seen≠0 then ([],ziE d seen) else zkk (zcD d plan seen (zaH d.steps))):=by show _=_;rw [← HG.out];unfold zgx;rw [hpf,if_neg (by simpa using q1)]
 obtain⟨hO,hpl,hpp⟩:=zcR (hpf.trans q1)
 have hs5:=hO.s5
 rw [q1] at k70
 have HPL:=Lib.hid hpl
 have HPP:=Lib.hid hpp
 have hplen:plan.length≤5:=by omega
 clear hpf q1 hpp hpl
 gi_upto_region 2 with (first | (gi_at_call 70;refine CallsIn.mono (anyN (k70 _ nW)) ?_;rintro e w2 ⟨B,rfl,n2,hS⟩) | gi_in)
 have hsz2:A+4≤w2.heap.size:=by have:=n2.size;omega
 have gz:=(zbq (o:=.cells #[ptr B] 87) (show A+1+1+1<w2.heap.size by omega)).trans ((n2.block (A+1+1+1) (by omega)).trans g3)
 have nZ:=zaj (nW.trans n2) (.cells #[ptr B] 87)
 have hSz:=hS.nx (zaj (Nx.refl w2) (.cells #[ptr B] 87))
 have hOz:(w2.alloc (.cells #[ptr B] 87)).cell? ⟨w2.heap.size,0,none⟩=some (ptr B):=zaa zaT rfl
 have kcZ:=Kc.nx (zaj n2 (.cells #[ptr B] 87))
 replace p1:=kcZ.cell p1
 replace p2:=kcZ.cell p2
 replace c6:=kcZ.cell c6
 have hszZ:(w2.alloc (.cells #[ptr B] 87)).heap.size=w2.heap.size+1:=by simp
 clear c0 c1 c2 c3 c4 c5 kcZ hbW g1 g2 g3
 generalize w2.alloc (.cells #[ptr B] 87)=Z at *
 have HZ:=Lib.hid hszZ
 clear hszZ
 have cz:=zaa (i:=0) (v:=.slice none 0 0) gz rfl
 have fz:=zac (i:=0) gz
 by_cases h8:8<seen.length
 case pos =>
  have HR:Hid (g=([],2)):=by
   have e:ziE d seen=2:=by unfold ziE;rw [if_pos h8]
   show _=_;rw [HG2.out,e];rfl
  have b3:decide ((seen.length:Int) > 8)=true:=decide_eq_true (by omega)
  have gF:=zaA (i:=0) (v:=.slice none 0 0) gz
  gi_wp2
  exact⟨_,zkF rfl rfl gF,_,by rw [HR.out]<;>rfl,nZ.set (by omega),by rw [HR.out];exact⟨0,.inl ⟨rfl,rfl⟩⟩⟩
 case neg =>
 have b3:decide ((seen.length:Int) > 8)=false:=decide_eq_false (by omega)
 have hsf:Hid (ziE d seen=orF ((seen.map (ziD d)).drop 0)):=by show _=_;unfold ziE;rw [if_neg h8,List.drop_zero]
 have hsl8:seen.length≤8:=by omega
 clear h8
 gi_wp2
 clear b3
 generalize hfg:ziE d seen=sf at *
 have HSF:=Lib.hid hfg
 clear hfg
 gi_loopw [31] (fun i wr=>∃ k:Nat,k≤seen.length∧i=num k∧sf=orF ((seen.map (ziD d)).drop k)∧Nx Z wr∧∀ j x,j<k→seen[j]?=some x→0≤x.step∧x.step≤(d.steps.length:Int)-1) (fun i _=>seen.length-(intOf i).toNat)
 case atStart=>exact⟨0,Nat.zero_le _,rfl,hsf.out,Nx.refl _,fun j x h=>absurd h (Nat.not_lt_zero _)⟩
 case round =>
  obtain⟨k,hk,rfl,hgo,nr,hin⟩:=hrel
  have HIN:=Lib.hid hin
  clear hin
  have kr:=Kc.nx nr
  have c6r:=kr.cell c6
  have gzr:=(nr.block _ (zav gz)).trans gz
  have nZr:=nZ.trans nr
  by_cases hlt:k<seen.length
  ·obtain⟨b,off,rfl,hbl,hcl⟩:=(HV.out).get (by simp;omega)
   have hh:seen[k]?=some seen[k]:=List.getElem?_eq_getElem hlt
   generalize seen[k]=x at hh
   have e0:wr.cell? ⟨b,off+k * 3,none⟩=some (num x.step):=Sl.at hcl nZr hbl hh 0 (v:=num x.step) rfl
   have e1:wr.cell? ⟨b,off+k * 3+1,none⟩=some (num x.lo):=Sl.at hcl nZr hbl hh 1 (v:=num x.lo) rfl
   have e2:wr.cell? ⟨b,off+k * 3+2,none⟩=some (num x.hi):=Sl.at hcl nZr hbl hh 2 (v:=num x.hi) rfl
   have hgo2:=Lib.hid (hgo.trans (zpC (x:=ziD d x) (by rw [List.getElem?_map,hh];rfl)))
   have k55:=fun (w1:World)=>zaK x.step 0 ((d.steps.length:Int)-1) w1
   have HX:=Lib.hid hh
   clear hcl hh hgo cz fz c6
   gi_upto_region 9 with fail
   generalize hVn:wr.alloc _=V
   obtain⟨nV,sV,gV⟩:=al1 hVn
   clear hVn e0 e1 e2
   have SV:=Lib.hid sV
   clear sV
   have t0:V.cell? ⟨wr.heap.size,0,none⟩=some (num x.step):=zaa gV rfl
   have t1:V.cell? ⟨wr.heap.size,1,none⟩=some (num x.lo):=zaa gV rfl
   have t2:V.cell? ⟨wr.heap.size,2,none⟩=some (num x.hi):=zaa gV rfl
   have c6V:=(Kc.nx nV).cell c6r
   have gzV:=(nV.block _ (zav gzr)).trans gzr
   have nZV:=nZr.trans nV
   have cz:=zaa (i:=0) (v:=.slice none 0 0) gzV rfl
   have fz:=zac (i:=0) gzV
   clear gV c6r
   generalize wr.heap.size=T at *
   by_cases h1:0≤x.step∧x.step≤(d.steps.length:Int)-1
   case neg =>
    have HR:Hid (g=([],6)):=by
     have e:ziD d x=6:=by unfold ziD;rw [if_pos h1]
     have e2:sf=6:=by rw [hgo2.out,e];rfl
     show _=_;rw [HG2.out,e2];rfl
    have b2:=decide_eq_false h1
    clear h1
    have gF:=zaA (i:=0) (v:=.slice none 0 0) gzV
    gi_wp2_with (first | ((gi_at_call 55;refine CallsIn.mono (by (with_reducible exact anyN (k55 _))) ?_;rintro e w1 ⟨rfl,hw1⟩;replace hw1:=hw1.symm;subst hw1)) | gi_in)
    exact⟨_,zkF rfl rfl gF,_,by rw [HR.out]<;>rfl,nZV.set (by omega),by rw [HR.out];exact⟨0,.inl ⟨rfl,rfl⟩⟩⟩
   case pos =>
    have hE:Hid (ziD d x=if insB (x.lo,x.hi) 0 5000=false then 1 else 0):=by show _=_;unfold ziD;rw [if_neg (by simpa using h1)]
    have b2:=decide_eq_true h1
    have H1:=Lib.hid h1
    have k77:=fun (w1:World)=>zfj (x.lo,x.hi) 0 5000 w1
    clear h1
    cases hins:insB (x.lo,x.hi) 0 5000 with
    | false =>
     rw [hins] at k77
     have HR:Hid (g=([],1)):=by
      have e2:sf=1:=by rw [hgo2.out,hE.out,hins];rfl
      show _=_;rw [HG2.out,e2];rfl
     gi_wp2_with (first | ((gi_at_call 55;refine CallsIn.mono (by (with_reducible exact anyN (k55 _))) ?_;rintro e w1 ⟨rfl,hw1⟩;replace hw1:=hw1.symm;subst hw1)) | (gi_at_call 77;refine CallsIn.mono (anyN (k77 _)) ?_;rintro e w7 ⟨rfl,n7⟩;have g7:=(n7.block _ (zav gzV)).trans gzV;have cz:=zaa (i:=0) (v:=.slice none 0 0) g7 rfl;have fz:=zac (i:=0) g7) | gi_in)
     have gF:=zaA (i:=0) (v:=.slice none 0 0) g7
     exact⟨_,zkF rfl rfl gF,_,by rw [HR.out]<;>rfl,(nZV.trans n7).set (by omega),by rw [HR.out];exact⟨0,.inl ⟨rfl,rfl⟩⟩⟩
    | true =>
     rw [hins] at k77
     have HR:Hid (sf=orF ((seen.map (ziD d)).drop (k+1))):=by show _=_;rw [hgo2.out,hE.out,hins];rfl
     gi_wp2_with (first | ((gi_at_call 55;refine CallsIn.mono (by (with_reducible exact anyN (k55 _))) ?_;rintro e w1 ⟨rfl,hw1⟩;replace hw1:=hw1.symm;subst hw1)) | (gi_at_call 77;refine CallsIn.mono (anyN (k77 _)) ?_;rintro e w7 ⟨rfl,n7⟩) | gi_in)
     exact⟨⟨k+1,hlt,by simp,HR.out,nr.trans (nV.trans n7),fun j y hj hy=>by
      rcases Nat.lt_succ_iff_lt_or_eq.1 hj with hj | rfl
      ·exact HIN.out j y hj hy
      ·rw [HX.out] at hy;cases hy;exact H1.out⟩,by simp [intOf];omega⟩
  ·obtain rfl:k=seen.length:=by omega
   have e2:sf=0:=by rw [hgo,List.drop_eq_nil_of_le (by simp)];rfl
   have HR:Hid (g=zkk (zcD d plan seen (zaH d.steps))):=by show _=_;rw [HG2.out,e2];rfl
   have HIS:Hid (∀ x∈seen,0≤x.step∧x.step≤(d.steps.length:Int)-1):=fun x hx=>by
    obtain⟨j,hj,rfl⟩:=List.mem_iff_getElem.1 hx
    exact HIN.out j _ hj (List.getElem?_eq_getElem hj)
   clear hgo e2 cz fz c6 c6r
   have hSr:=hSz.nx nr
   have hOr:=kr.cell hOz
   have p1r:=kr.cell p1
   have p2r:=kr.cell p2
   have hZs:=nr.size
   have k71:=fun (w1:World)=>zhv B w1
   clear hSz hOz p1 p2 kr
   gi_upto_region 15 with fail
   generalize hYn:wr.alloc _=Y
   obtain⟨nY,sY,gY⟩:=al1 hYn
   clear hYn
   have kcY:=Kc.nx nY
   replace hOr:=kcY.cell hOr
   replace p1r:=kcY.cell p1r
   replace p2r:=kcY.cell p2r
   have SY:=Lib.hid sY
   clear sY
   gi_wp2_with (first | (gi_at_call 71;refine CallsIn.mono (anyN (k71 _)) ?_;rintro e w4 ⟨rfl,hw4⟩;replace hw4:=hw4.symm;subst hw4) | gi_in)
   generalize hXn:Y.alloc _=X
   obtain⟨nX,sX,gX⟩:=al1 hXn
   clear hXn
   have kcX:=Kc.nx nX
   replace hOr:=kcX.cell hOr
   replace p1r:=kcX.cell p1r
   replace p2r:=kcX.cell p2r
   have hSX:=(hSr.nx nY).nx nX
   have hCX:=zaa (i:=0) (v:=ptr B) gX rfl
   have gT:=(nX.block _ (by have:=(zav gzr);have:=SY.out;omega)).trans ((nY.block _ (zav gzr)).trans gzr)
   have gF:=(nX.block _ (zav gY)).trans gY
   have nwX:=(nZr.trans nY).trans nX
   have hYl:wr.heap.size<Y.heap.size:=zav gY
   have hZA:A+4≤wr.heap.size:=by have:=HZ.out;omega
   have hXs:X.heap.size=Y.heap.size+1:=sX
   have HX:=Lib.hid hXs
   have hOl:w2.heap.size<wr.heap.size:=by have:=HZ.out;omega
   clear hXs sX gX nX nY gY gzr hSr kcX kcY nZr nr hZs gz nZ
   generalize hCo:Y.heap.size=Co at *
   generalize wr.heap.size=F at *
   generalize w2.heap.size=O at *
   refine Go.wpIn_rangeFunc_ownR rfl (by omega) rfl trivial (enters_of Try.func100 (by kernel_rfl) rfl) (zhx d hO B Co X hSX hCX) (fun h k=>KpR.trans h k) (fun W r o' hr=>⟨by simp,fun t=>t.one' hr,fun q o h1 _ h3 _=>(World.putObj_heap_other (by omega)).trans h3⟩) (fun x W r o' hr h=>⟨h.1,(World.putObj_heap_other (by omega)).trans h.2⟩) (fun _=>rfl) (fun pre U=>But [A+1+1+1,F] X U∧∃ vD,U.heap[A+1+1+1]?=some (.cells #[vD] 50 (0,0))∧U.heap[F]?=some (.cells #[.bool (zcD d plan seen pre).isSome] 4 (0,0))∧U.ownsRow (X.heap.size+2) 45 2 vD ((zcD d plan seen pre).getD []).length (((zcD d plan seen pre).getD []).map spc).flatten∧∀ D,zcD d plan seen pre=some D→D.length=d.steps.length) (fun c pre U=>False) ?hI ?hIx ?h0 (fun x=>{ tmps:=(List.toArray ((Go.Proofs.Ytedomogjmhommaa.Dry.val d { h:=Go.Value.slice ha (List.length (Go.Proofs.Ytedomogjmhommaa.Dry.heats d)) hcap,s:=Go.Value.slice sa (List.length (Go.Proofs.Ytedomogjmhommaa.Dry.steps d)) scap }) :: (Go.Value.slice ua (List.length plan) ucap) :: (Go.Value.slice va (List.length seen) vcap) :: (Go.Value.pointer (Option.some { block:=A,off:=0 })) :: (Go.Value.pointer (Option.some { block:=A+1,off:=0 })) :: (Go.Value.pointer (Option.some { block:=A+1+1,off:=0 })) :: (Go.Value.pointer (Option.some { block:=A+1+1+1,off:=0 })) :: u7 :: (Go.Value.pointer (Option.some { block:=O,off:=0 })) :: Go.undef :: u10 :: (Go.Value.pointer (Option.some { block:=F,off:=0 })) :: (Go.Value.slice (Option.some { block:=Array.size (Go.World.heap X)+2+1,off:=0 }) (List.length (Go.Proofs.Ytedomogjmhommaa.Dry.steps d)) (List.length (Go.Proofs.Ytedomogjmhommaa.Dry.steps d))) :: Go.undef :: Go.undef :: (Go.Value.tuple #[Go.Proofs.Ytedomogjmhommaa.ptr B,Go.Proofs.Ytedomogjmhommaa.num 0]) :: (Go.Value.agg #[Go.Value.slice ha (List.length (Go.Proofs.Ytedomogjmhommaa.Dry.heats d)) hcap,Go.Proofs.Ytedomogjmhommaa.num (Go.Proofs.Ytedomogjmhommaa.Dry.soak d),Go.Proofs.Ytedomogjmhommaa.num (Go.Proofs.Ytedomogjmhommaa.Dry.brittle d),Go.Proofs.Ytedomogjmhommaa.num (Go.Proofs.Ytedomogjmhommaa.St.w (Go.Proofs.Ytedomogjmhommaa.Dry.start d)),Go.Proofs.Ytedomogjmhommaa.num (Go.Proofs.Ytedomogjmhommaa.St.c (Go.Proofs.Ytedomogjmhommaa.Dry.start d)),Go.Proofs.Ytedomogjmhommaa.num (Go.Proofs.Ytedomogjmhommaa.St.h (Go.Proofs.Ytedomogjmhommaa.Dry.start d)),Go.Value.slice sa (List.length (Go.Proofs.Ytedomogjmhommaa.Dry.steps d)) scap]) :: (Go.Value.slice ua (List.length plan) ucap) :: (Go.Value.tuple #[Go.Proofs.Ytedomogjmhommaa.ptr B,Go.Proofs.Ytedomogjmhommaa.num 0]) :: (Go.Proofs.Ytedomogjmhommaa.ptr B) :: (Go.Proofs.Ytedomogjmhommaa.num 0) :: (Go.Value.bool Bool.false) :: (Go.Proofs.Ytedomogjmhommaa.num 0) :: (Go.Value.bool Bool.false) :: Go.undef :: (Go.Value.bool Bool.false) :: (Go.Value.slice va (List.length seen) vcap) :: (Go.Value.int Go.IntKind.i64 ↑(List.length seen)) :: (Go.Value.bool Bool.false) :: (Go.Value.slice va (List.length seen) vcap) :: (Go.Value.int Go.IntKind.i64 ↑(List.length seen)) :: (Go.Proofs.Ytedomogjmhommaa.num ↑(List.length seen)) :: (Go.Value.bool Bool.false) :: u33 :: u34 :: u35 :: u36 :: u37 :: u38 :: u39 :: u40 :: u41 :: u42 :: u43 :: u44 :: u45 :: u46 :: u47 :: u48 :: u49 :: (Go.Proofs.Ytedomogjmhommaa.ptr B) :: (Go.Value.func (Go.Fn.func 100) #[] #[Go.Proofs.Ytedomogjmhommaa.ptr Co]) :: (Go.Value.slice (Option.some { block:=Array.size (Go.World.heap X)+2+1,off:=0 }) (List.length (Go.Proofs.Ytedomogjmhommaa.Dry.steps d)) (List.length (Go.Proofs.Ytedomogjmhommaa.Dry.steps d))) :: Go.undef :: Go.undef :: Go.undef :: Go.undef :: Go.undef :: Go.undef :: Go.undef :: Go.undef :: Go.undef :: Go.undef :: Go.undef :: Go.undef :: Go.undef :: Go.undef :: Go.undef :: Go.undef :: Go.undef :: Go.undef :: Go.undef :: Go.undef :: Go.undef :: Go.undef :: Go.undef :: Go.undef :: Go.undef :: Go.undef :: Go.undef :: Go.undef :: Go.undef :: Go.undef :: Go.undef :: Go.undef :: Go.undef :: Go.undef :: Go.undef :: Go.undef :: Go.undef :: Go.undef :: Go.undef :: Go.undef :: Go.undef :: Go.undef :: Go.undef :: Go.undef :: Go.undef :: Go.undef :: Go.undef :: Go.undef :: Go.undef :: Go.undef :: Go.undef :: Go.undef :: Go.undef :: Go.undef :: [])),defers:=[] }) ?assign ?body ?done ?stop
   case hI =>
    rintro pre U U' row ⟨h1,vD,h2,h3,h4,h5⟩ hg hr
    have hne:∀ r,row=some r→X.heap.size≤r:=fun r e=>(hr r e).1
    refine⟨h1.own hg hne,vD,(hg.block _ (zav h2) (fun e=>by have:=hne _ e.symm;have:=HX.out;omega)).trans h2,(hg.block _ (zav h3) (fun e=>by have:=hne _ e.symm;have:=HX.out;omega)).trans h3,zbn h4 (fun q hq=>hg.block q (h4.lt q hq).2 (fun e=>?_)),h5⟩
    obtain⟨cur,hc⟩:=zbX h4 hq
    obtain⟨_,o,ho,hx⟩:=hr q e.symm
    rw [hc] at ho
    cases ho
    exact (hx cur (0,0)).1 rfl
   case hIx=>exact fun _ _ _ _ _ h=>h.elim
   case h0=>exact⟨But.refl _ _,_,gT,gF,World.ownsRow_nil ..,fun D h=>by cases h⟩
   case assign =>
    intro l x W K hK
    gi_wp2
    exact hK
   case body =>
    rintro l pre a U ⟨hU1,vD,hU2,hU3,hU4,hU5⟩ ⟨hR1,hR2⟩
    have hPA:=zfe hO HPL.out HPP.out hR1
    have hal:=(airs_mem.1 hR1).1
    have hXl:A+4≤X.heap.size∧F<X.heap.size∧Co<X.heap.size:=by have:=HX.out;omega
    have hFA:F≠A+1+1+1:=by omega
    have nwU:Nx w U:=hU1.toNx nwX (by simp;omega)
    have hSU:StoveAt U B d:=hSX.ones (bs:=[A+1+1+1,F]) (fun r hr=>by simp at hr;rcases hr with rfl | rfl;exact⟨_,_,_,gT⟩;exact⟨_,_,_,gF⟩) hU1
    have k72:=zfM d B (.slice ua plan.length ucap) (.slice (some ⟨X.heap.size+2+1,0,none⟩) d.steps.length d.steps.length) plan a U hSU hO hPA (HU.out.nx nwU) (znT hR2 hal) (by omega)
    have r8:=hU1.cell (by simp;omega) hOr
    have r4:=hU1.cell (by simp;omega) p1r
    have r5:=hU1.cell (by simp;omega) p2r
    have hfl:=zbu d d.start plan a hPA.len
    have hsn:=Lib.hid (zkl d plan seen pre a)
    generalize hLs:zaq d d.start plan a=L at *
    have HLS:=Lib.hid hLs
    clear hLs
    generalize hst:zcD d plan seen pre=st at *
    have HST:=Lib.hid hst
    have HU5:=Lib.hid hU5
    clear hst hU5
    gi_upto_region 18 with (first | (gi_at_call 72;refine CallsIn.mono (CallsIn.inRound l (anyN k72)) ?_;rintro e w5 ⟨v5,rfl,n5,hown5⟩;obtain⟨a5,c5,rfl⟩:=zaB hown5) | gi_in)
    generalize hVn:w5.alloc _=V
    obtain⟨nV,sV,gV⟩:=al1 hVn
    clear hVn
    have n5V:=n5.trans nV
    have r5V:=(Kc.nx n5V).cell r5
    have cV:=zaa (i:=0) (v:=.slice a5 plan.length c5) gV rfl
    have hS5:=(zcF (n:=plan.length) (zo6 L) (by simpa using hfl) hown5).nx nV
    have k78:=zhj w5.heap.size _ (.slice va seen.length vcap) L seen V cV hS5 (HV.out.nx (nwU.trans n5V)) (fun x hx=>by have h1:=HIS.out x hx;have h2:=HPL.out;rw [hfl];omega) (by omega) (by omega)
    have hKz0:Kz X d B Co (A+1+1+1) F U U:=⟨hU1,KpR.refl _ _ _ _,KeepsFrom.refl _ _⟩
    have hUN:X.heap.size+2≤U.heap.size:=by have:=zav hR2;omega
    have hKzV:=hKz0.nx n5V hUN
    have hq:=(n5V.block _ (zav hR2)).trans hR2
    have hT:=(n5V.block _ (zav hU2)).trans hU2
    have hF:=(n5V.block _ (zav hU3)).trans hU3
    have hoV:=zck hU4 n5V
    have hVN:X.heap.size+2≤V.heap.size:=by have:=n5V.size;omega
    clear hown5 hS5 cV r8 r4 r5 gV sV n5 nV hU1 hU2 hU3 hU4 hR2 hKz0
    generalize w5.heap.size=E at *
    cases hag:zee L seen with
    | false =>
     rw [hag] at k78 hsn
     have hsn2:zcD d plan seen (pre++[a])=st:=by rw [hsn.out,if_neg (by simp)]
     have HS2:=Lib.hid hsn2
     clear hsn2
     gi_wp2_with (first | (gi_at_call 78;refine CallsIn.mono (CallsIn.inRound l (anyN k78)) ?_;rintro e w7 ⟨rfl,n7⟩) | gi_in)
     have hK7:=hKzV.nx n7 hVN
     refine (show KeepsFrom X.heap.size U _∧KpR (X.heap.size+2) (Tw (X.heap.size+2) B Co d) none U _∧(_∧_) from ⟨hK7.kf,hK7.kp,hK7.but,vD,(n7.block _ (zav hT)).trans hT,?_,?_,?_⟩)
     ·rw [HS2.out];exact (n7.block _ (zav hF)).trans hF
     ·rw [HS2.out];exact zck hoV n7
     ·rw [HS2.out];exact HU5.out
    | true =>
     rw [hag] at k78 hsn
     have hsn2:zcD d plan seen (pre++[a])=some ((zhq st a).getD []):=by rw [hsn.out,if_pos rfl];exact zmE st a
     have HS2:=Lib.hid hsn2
     clear hsn2
     gi_upto_region 20 with (first | (gi_at_call 78;refine CallsIn.mono (CallsIn.inRound l (anyN k78)) ?_;rintro e w7 ⟨rfl,n7⟩) | gi_in)
     have hK7:=hKzV.nx n7 hVN
     have hq7:=(n7.block _ (zav hq)).trans hq
     have hT7:=(n7.block _ (zav hT)).trans hT
     have hF7:=(n7.block _ (zav hF)).trans hF
     have ho7:=zck hoV n7
     have h7N:X.heap.size+2≤w7.heap.size:=by have:=n7.size;omega
     have htl:=Lib.hid (zqf hal HU5.out)
     have hal':=Lib.hid hal
     have ho7' : w7.ownsRow (X.heap.size+2) 45 2 vD (((tgtD st a).take 0++(zes st).drop 0).length) ((((tgtD st a).take 0++(zes st).drop 0).map spc).flatten):=by simpa [zes] using ho7
     clear hKzV hq hT hF hoV k78 hsn n7 n5V r5V hsl8 ho7
     have HOW:=Lib.hid ho7'
     clear ho7'
     gi_loopw [62] (fun u62 wr2=>∃ (i:Nat) (vD2:Value),i≤d.steps.length∧u62=num i∧Kz X d B Co (A+1+1+1) F U wr2∧wr2.heap[X.heap.size+2+1]?=some (.cells (a.map num).toArray 3 (0,0))∧wr2.heap[A+1+1+1]?=some (.cells #[vD2] 50 (0,0))∧wr2.heap[F]?=some (.cells #[.bool st.isSome] 4 (0,0))∧wr2.ownsRow (X.heap.size+2) 45 2 vD2 (((tgtD st a).take i++(zes st).drop i).length) ((((tgtD st a).take i++(zes st).drop i).map spc).flatten)∧X.heap.size+2≤wr2.heap.size) (fun u62 _=>d.steps.length-(intOf u62).toNat)
     case atStart=>exact⟨0,vD,Nat.zero_le _,rfl,hK7,hq7,hT7,hF7,HOW.out,h7N⟩
     case round =>
      obtain⟨i,vD2,hi,rfl,hKz,hq,hT,hF,hown,hN⟩:=hrel
      by_cases hlt2:i<d.steps.length
      case neg =>
       obtain rfl:i=d.steps.length:=by omega
       have hfull:(tgtD st a).take d.steps.length++(zes st).drop d.steps.length=tgtD st a:=by
        have h1:=htl.out
        rw [List.take_of_length_le (by omega)]
        cases st with
        | none=>simp [zes]
        | some D=>rw [List.drop_eq_nil_of_le (by have:=HU5.out D rfl;simp [zes];omega),List.append_nil]
       rw [hfull] at hown
       have cF:=zaa (i:=0) (v:=.bool st.isSome) hF rfl
       have fF:=zac (i:=0) hF
       have hKF:=hKz.setF (v:=.bool true) hF (by omega) (by omega) hN
       have hTF:=(zae (i:=0) (v:=.bool true) (show A+1+1+1≠F by omega)).trans hT
       have hFF:=zaA (i:=0) (v:=.bool true) hF
       have hoF:=zbn (w':=wr.setCell ⟨F,0,none⟩ (.bool true)) hown (fun q hq=>zae (by have:=(hown.lt q hq).1;omega))
       clear hfull
       gi_wp2
       refine (show KeepsFrom X.heap.size U _∧KpR (X.heap.size+2) (Tw (X.heap.size+2) B Co d) none U _∧(_∧_) from ⟨hKF.kf,hKF.kp,hKF.but,vD2,hTF,?_,?_,?_⟩)
       ·rw [HS2.out];exact hFF
       ·rw [HS2.out];exact hoF
       ·rw [HS2.out];intro D hD;cases hD;exact htl.out
      case pos =>
      have hx:a[i]?=some (a[i]'(by omega)):=List.getElem?_eq_getElem (by omega)
      generalize a[i]'(by omega)=x at hx
      have cq:wr.cell? ⟨X.heap.size+2+1,i,none⟩=some (num x):=zaa hq (by rw [List.getElem?_toArray,List.getElem?_map,hx];rfl)
      have cF:=zaa (i:=0) (v:=.bool st.isSome) hF rfl
      have hsplit:∃ (p:Int×Int) (l2:List (Int×Int)) (W4:World) (g m cap:Nat),True:=⟨(0,0),[],wr,0,0,0,trivial⟩
      clear hsplit
      refine (Option.eq_none_or_eq_some st).elim ?brN ?brS
      case' brN =>
       intro hst
       subst hst
       rw [show (none:Option (List (Int×Int))).isSome=false from rfl] at cF
       have hd1:(tgtD none a).take i++(zes none).drop i=(tgtD none a).take i:=by simp [zes]
       rw [hd1] at hown
       have hti:((tgtD none a).take i).length=i:=by rw [List.length_take,htl.out];omega
       have htx:=Lib.hid (zpr hx)
       have c6w:=zaa (i:=0) (v:=vD2) hT rfl
       have HTI:=Lib.hid hti
       rw [hti] at hown
       clear hd1 hti
       obtain⟨va2,vc2,hve⟩:=zaB hown
       gi_upto_region 23 with fail
       refine zat (Nx wr) 11 (by kernel_rfl) ?_
       obtain⟨Z9,G,hN',hG,hG'⟩:=zaC (C:=Nx wr) (x:=wr) (Nx.refl _)
       have t0:=fun z=>(Kc.nx (hG' z)).cell cq
       have t1:=fun z=>(Kc.nx (hG' z)).cell c6w
       subst hve
       change Go.wpAnyZ _ _ _ _ _ _ _ _ 13 #[false,false,false,false,false,false,false,false,false,false,false,false,false] _ _
       have nd:Nx wr wr.drew:=Nx.drew (Nx.refl wr)
       generalize wr.drew=V7 at nd ⊢
       refine Go.zqE 0 hG (by kernel_rfl) (fun _ _ _ h=>by cases h.1) rfl ?_;intro o ho K hK;simp at ho;subst ho;gi_big_quiet_op;go_big_quiet_on
       refine Go.zqE 1 hG (by kernel_rfl) (fun _ _ _ h=>by cases h.1) rfl ?_;intro o ho K hK;simp at ho;subst ho;gi_big_quiet_op;go_big_quiet_on
       refine Go.zqE 2 hG (by kernel_rfl) (fun _ _ _ h=>by cases h.1) rfl ?_;intro o ho K hK;simp at ho;subst ho;gi_big_quiet_op;go_big_quiet_on
       refine Go.zqE 3 hG (by kernel_rfl) (fun _ _ _ h=>by cases h.1) rfl ?_;intro o ho K hK;simp at ho;subst ho;gi_big_quiet_op;go_big_quiet_on
       refine Go.zqE 4 hG (by kernel_rfl) (fun _ _ _ h=>by cases h.1) rfl ?_;intro o ho K hK;simp at ho;subst ho;gi_big_quiet_op;go_big_quiet_on
       refine Go.zqE 5 hG (by kernel_rfl) (fun _ _ _ h=>by cases h.1) rfl ?_;intro o ho K hK;simp at ho;subst ho;gi_big_quiet_op;go_big_quiet_on
       refine Go.zqE 6 hG (by kernel_rfl) (fun _ _ _ h=>by cases h.1) rfl ?_;intro o ho K hK;simp at ho;subst ho;gi_big_quiet_op;go_big_quiet_on
       refine Go.zqE 7 hG (by kernel_rfl) (fun _ _ _ h=>by cases h.1) rfl ?_;intro o ho K hK;simp at ho;subst ho;gi_big_quiet_op;go_big_quiet_on
       refine Go.zqE 8 hG (by kernel_rfl) (fun _ _ _ h=>by cases h.1) rfl ?_;intro o ho K hK;simp at ho;subst ho;gi_big_quiet_op;go_big_quiet_on
       refine Go.zqE 9 hG (by kernel_rfl) (fun _ _ _ h=>by cases h.1) rfl ?_;intro o ho K hK;simp at ho;subst ho;gi_big_quiet_op;go_big_quiet_on
       clear t0 t1 hG hG' hN'
       refine Go.zoE 10 (by kernel_rfl) rfl ?_ ?_;rotate_left;intro o ho K hK;simp at ho;subst ho
       gi_wp2_with fail
       generalize hYn:V7.alloc _=Y9
       obtain⟨nY9,sY9,gY9⟩:=al1 hYn
       clear hYn
       have nW:=nd.trans nY9
       have hN9:X.heap.size+2≤Y9.heap.size:=by have:=nW.size;omega
       obtain⟨v3,w3,r3,o3,g3,a3⟩:=zg2 T50 (X.heap.size+2) Y9 _ (((tgtD none a).take i).map spc) (zgT (m:=(((tgtD none a).take i).map spc).length) (zck hown nW) (by rw [List.length_map];exact HTI.out)) V7.heap.size (spc (x,x)) rfl gY9 (by simp [Value.oneCell']) (by rw [List.length_map,HTI.out];omega) (by rw [List.length_map,HTI.out];omega) hN9
       refine Go.zoE 11 (by kernel_rfl) rfl ?_ ?_;rotate_left;intro o ho K hK;simp at ho;subst ho
       refine zht (fun c h=>by cases h) rfl (zmP _ rfl rfl r3) (hK _ _ ?_)
       simp only [Act.put,List.setIfInBounds_toArray,List.set_cons_succ,List.set_cons_zero]
       have ho3:w3.ownsRow (X.heap.size+2) 45 2 v3 (i+1) ((((tgtD none a).take i)++(x,x) :: []).map spc).flatten:=by
        have h1:=zgT (m:=i+1) o3 (by rw [List.length_append,List.length_map,HTI.out];rfl)
        rw [List.map_append]
        exact h1
       obtain⟨g9,cap9,hv3,hb9,hl9,hc9⟩:=zjx (by omega) ho3
       subst hv3
       have hown9:=zck hown nW
       have hT3:=(g3.block _ (by have:=zav hT;have:=nW.size;omega) (fun e=>by have:=(hown9.lt _ e.symm).1;omega)).trans ((nW.block _ (zav hT)).trans hT)
       have hF3:=(g3.block _ (by have:=zav hF;have:=nW.size;omega) (fun e=>by have:=(hown9.lt _ e.symm).1;omega)).trans ((nW.block _ (zav hF)).trans hF)
       have hq3:=(g3.block _ (by have:=zav hq;have:=nW.size;omega) (fun e=>by
        obtain⟨cur,hcur⟩:=zbX hown9 e.symm
        rw [(nW.block _ (zav hq)).trans hq] at hcur
        cases hcur)).trans ((nW.block _ (zav hq)).trans hq)
       have hK3:=(hKz.nx nW hN).row g3 (fun r e=>⟨by have:=(hown9.lt r e).1;omega,hN9,by obtain⟨cur,hcur⟩:=zbX hown9 e;exact⟨cur,_,hcur⟩⟩) hN9 (fun r e=>(hown9.lt r e).1)
       have hN3:X.heap.size+2≤w3.heap.size:=by have:=g3.size;omega
       have c3:=zaa (i:=0) hT3 rfl
       have f3:=zac (i:=0) hT3
       refine Go.zoE 12 (by kernel_rfl) rfl ?_ ?_;rotate_left;intro o ho K hK;simp at ho;subst ho
       gi_wp2_with fail
       refine zar (by kernel_rfl) (fun h=>absurd h (by decide)) ⟨rfl,?_⟩
       all_goals (first | (intro h;first | exact nd | exact nW | exact absurd h (by decide)) | skip)
       have hK4:=hK3.setT (v:=.slice (some ⟨g9,0,none⟩) (i+1) cap9) hT3 (by omega) (by omega) hN3
       have hT4:=zaA (i:=0) (v:=.slice (some ⟨g9,0,none⟩) (i+1) cap9) hT3
       have hF4:=(zae (i:=0) (v:=.slice (some ⟨g9,0,none⟩) (i+1) cap9) (show F≠A+1+1+1 by omega)).trans hF3
       have hq4:=(zae (i:=0) (v:=.slice (some ⟨g9,0,none⟩) (i+1) cap9) (show X.heap.size+2+1≠A+1+1+1 by omega)).trans hq3
       have ho4:=zbn (w':=w3.setCell ⟨A+1+1+1,0,none⟩ (.slice (some ⟨g9,0,none⟩) (i+1) cap9)) ho3 (fun q hq'=>zae (by have:=(ho3.lt q hq').1;omega))
       have hN4:X.heap.size+2≤(w3.setCell ⟨A+1+1+1,0,none⟩ (.slice (some ⟨g9,0,none⟩) (i+1) cap9)).heap.size:=by rw [zay];exact hN3
       have hnew:Hid ((tgtD none a).take (i+1)++(zes none).drop (i+1)=(tgtD none a).take i++(if x<(x,x).1 then x else (x,x).1,if (x,x).2<x then x else (x,x).2) :: []):=by
        show _=_
        rw [zj2 htx.out]
        simp [zes]
       have him:i<i+1:=by omega
       have hl1:=HTI
       have hHF:Hid (∀ D,(none:Option (List (Int×Int)))=some D→D.length=d.steps.length):=HU5
       clear c3 f3 hT3 hF3 hq3 hK3 hN3 ho3 g3 a3 r3 o3 hown9 hN9 nW gY9 sY9 nd cF c6w hown hT hF hq hKz htx hN cq
       generalize w3.setCell ⟨A+1+1+1,0,none⟩ (.slice (some ⟨g9,0,none⟩) (i+1) cap9)=W4 at *
       generalize (tgtD none a).take i=l1 at *
       generalize hpp:(x,x)=p at *
       have HPP2:=Lib.hid hpp
       clear hpp
       obtain⟨m1,hm1⟩:∃ m1,(if x<p.1 then x else p.1)=m1:=⟨_,rfl⟩
       obtain⟨M1,hM1⟩:∃ M1,(if p.2<x then x else p.2)=M1:=⟨_,rfl⟩
       rw [hm1,hM1] at hnew
       replace hm1:=Lib.hid hm1
       replace hM1:=Lib.hid hM1
       obtain⟨u0,u1,v0,v1⟩:=zeW ho4
       rw [hl1.out] at u0 u1 v0 v1
       have cT:=zaa (i:=0) (v:=.slice (some ⟨g9,0,none⟩) (i+1) cap9) hT4 rfl
       have cq:W4.cell? ⟨X.heap.size+2+1,i,none⟩=some (num x):=zaa hq4 (by rw [List.getElem?_toArray,List.getElem?_map,hx];rfl)
       gi_upto_region 24 with fail
       refine zat (Nx W4) 24 (by kernel_rfl) ?_
       obtain⟨Z9,G,hN',hG,hG'⟩:=zaC (C:=Nx W4) (x:=W4) (Nx.refl _)
       have t0:=fun z=>(Kc.nx (hG' z)).cell cT
       have t1:=fun z=>(Kc.nx (hG' z)).cell cq
       have t2:=fun z=>(Kc.nx (hG' z)).cell u0
       have t3:=fun z=>(Kc.nx (hG' z)).cell u1
       change Go.wpAnyZ _ _ _ _ _ _ _ _ 25 #[false,false,false,false,false,false,false,false,false,false,false,false,false,false,false,false,false,false,false,false,false,false,false,false,false] _ _
       have nd:Nx W4 W4.drew:=Nx.drew (Nx.refl W4)
       generalize W4.drew=V8 at nd ⊢
       refine Go.zqE 0 hG (by kernel_rfl) (fun _ _ _ h=>by cases h.1) rfl ?_;intro o ho K hK;simp at ho;subst ho;gi_big_quiet_op;go_big_quiet_on
       refine Go.zqE 1 hG (by kernel_rfl) (fun _ _ _ h=>by cases h.1) rfl ?_;intro o ho K hK;simp at ho;subst ho;gi_big_quiet_op;go_big_quiet_on
       refine Go.zqE 2 hG (by kernel_rfl) (fun _ _ _ h=>by cases h.1) rfl ?_;intro o ho K hK;simp at ho;subst ho;gi_big_quiet_op;go_big_quiet_on
       refine Go.zqE 3 hG (by kernel_rfl) (fun _ _ _ h=>by cases h.1) rfl ?_;intro o ho K hK;simp at ho;subst ho;gi_big_quiet_op;go_big_quiet_on
       refine Go.zqE 4 hG (by kernel_rfl) (fun _ _ _ h=>by cases h.1) rfl ?_;intro o ho K hK;simp at ho;subst ho;gi_big_quiet_op;go_big_quiet_on
       refine Go.zqE 5 hG (by kernel_rfl) (fun _ _ _ h=>by cases h.1) rfl ?_;intro o ho K hK;simp at ho;subst ho;gi_big_quiet_op;go_big_quiet_on
       refine Go.zqE 6 hG (by kernel_rfl) (fun _ _ _ h=>by cases h.1) rfl ?_;intro o ho K hK;simp at ho;subst ho;gi_big_quiet_op;go_big_quiet_on
       refine Go.zqE 7 hG (by kernel_rfl) (fun _ _ _ h=>by cases h.1) rfl ?_;intro o ho K hK;simp at ho;subst ho;gi_big_quiet_op;go_big_quiet_on
       refine Go.zqE 8 hG (by kernel_rfl) (fun _ _ _ h=>by cases h.1) rfl ?_;intro o ho K hK;simp at ho;subst ho;gi_big_quiet_op;go_big_quiet_on
       refine Go.zqE 9 hG (by kernel_rfl) (fun _ _ _ h=>by cases h.1) rfl ?_;intro o ho K hK;simp at ho;subst ho;gi_big_quiet_op;go_big_quiet_on
       refine Go.zqE 10 hG (by kernel_rfl) (fun _ _ _ h=>by cases h.1) rfl ?_;intro o ho K hK;simp at ho;subst ho;gi_big_quiet_op;go_big_quiet_on
       refine Go.ztE 11 (by kernel_rfl) (fun _ _ _ h=>by cases h.1) ?_;intro o ho;simp at ho;subst ho;refine⟨_,(zpI rfl rfl hm1.out),?_⟩;simp only [Go.Act.put,List.setIfInBounds_toArray,List.set_cons_succ,List.set_cons_zero]
       refine Go.zqE 12 hG (by kernel_rfl) (fun _ _ _ h=>by cases h.1) rfl ?_;intro o ho K hK;simp at ho;subst ho;gi_big_quiet_op;go_big_quiet_on
       refine Go.zqE 13 hG (by kernel_rfl) (fun _ _ _ h=>by cases h.1) rfl ?_;intro o ho K hK;simp at ho;subst ho;gi_big_quiet_op;go_big_quiet_on
       refine Go.zqE 14 hG (by kernel_rfl) (fun _ _ _ h=>by cases h.1) rfl ?_;intro o ho K hK;simp at ho;subst ho;gi_big_quiet_op;go_big_quiet_on
       refine Go.zqE 15 hG (by kernel_rfl) (fun _ _ _ h=>by cases h.1) rfl ?_;intro o ho K hK;simp at ho;subst ho;gi_big_quiet_op;go_big_quiet_on
       refine Go.zqE 16 hG (by kernel_rfl) (fun _ _ _ h=>by cases h.1) rfl ?_;intro o ho K hK;simp at ho;subst ho;gi_big_quiet_op;go_big_quiet_on
       refine Go.zqE 17 hG (by kernel_rfl) (fun _ _ _ h=>by cases h.1) rfl ?_;intro o ho K hK;simp at ho;subst ho;gi_big_quiet_op;go_big_quiet_on
       refine Go.zqE 18 hG (by kernel_rfl) (fun _ _ _ h=>by cases h.1) rfl ?_;intro o ho K hK;simp at ho;subst ho;gi_big_quiet_op;go_big_quiet_on
       refine Go.zqE 19 hG (by kernel_rfl) (fun _ _ _ h=>by cases h.1) rfl ?_;intro o ho K hK;simp at ho;subst ho;gi_big_quiet_op;go_big_quiet_on
       refine Go.zqE 20 hG (by kernel_rfl) (fun _ _ _ h=>by cases h.1) rfl ?_;intro o ho K hK;simp at ho;subst ho;gi_big_quiet_op;go_big_quiet_on
       refine Go.ztE 21 (by kernel_rfl) (fun _ _ _ h=>by cases h.1) ?_;intro o ho;simp at ho;subst ho;refine⟨_,(zpH rfl rfl hM1.out),?_⟩;simp only [Go.Act.put,List.setIfInBounds_toArray,List.set_cons_succ,List.set_cons_zero]
       refine Go.zqE 22 hG (by kernel_rfl) (fun _ _ _ h=>by cases h.1) rfl ?_;intro o ho K hK;simp at ho;subst ho;gi_big_quiet_op;go_big_quiet_on
       refine Go.zqE 23 hG (by kernel_rfl) (fun _ _ _ h=>by cases h.1) rfl ?_;intro o ho K hK;simp at ho;subst ho;gi_big_quiet_op;go_big_quiet_on
       clear t0 t1 t2 t3 hG hG' hN' u0 u1 v0 v1 cT cq
       replace hT4:=(nd.block _ (zav hT4)).trans hT4
       replace hF4:=(nd.block _ (zav hF4)).trans hF4
       replace hq4:=(nd.block _ (zav hq4)).trans hq4
       replace hK4:=hK4.nx nd hN4
       replace ho4:=zck ho4 nd
       replace hN4:X.heap.size+2≤V8.heap.size:=by have:=nd.size;omega
       obtain⟨u0,u1,v0,v1⟩:=zeW ho4
       rw [hl1.out] at u0 u1 v0 v1
       obtain⟨cur9,hg45⟩:=zbX ho4 (g:=g9) rfl
       have hos:=zlp (q:=(m1,M1)) ho4
       rw [hl1.out] at hos
       have hgl:X.heap.size+2≤g9:=(ho4.lt g9 rfl).1
       have hgs:V8.grownBy ((V8.setCell ⟨g9,i * 2,none⟩ (num m1)).setCell ⟨g9,i * 2+1,none⟩ (num M1)) (some g9):=⟨rfl,rfl,rfl,by rw [zay,zay];exact Nat.le_refl _,fun b _ hb=>(zae (fun e=>hb (by rw [e]))).trans (zae (fun e=>hb (by rw [e])))⟩
       have hK5:=hK4.row hgs (fun r e=>by cases e;exact⟨by omega,hN4,cur9,_,hg45⟩) hN4 (fun r e=>by cases e;exact hgl)
       have hT5:=(hgs.block _ (zav hT4) (fun e=>by cases e;omega)).trans hT4
       have hF5:=(hgs.block _ (zav hF4) (fun e=>by cases e;omega)).trans hF4
       have hq5:=(hgs.block _ (zav hq4) (fun e=>by cases e;rw [hg45] at hq4;cases hq4)).trans hq4
       have hN5:X.heap.size+2≤((V8.setCell ⟨g9,i * 2,none⟩ (num m1)).setCell ⟨g9,i * 2+1,none⟩ (num M1)).heap.size:=by rw [zay,zay];exact hN4
       have HOS:=Lib.hid hos
       clear ho4 hos hg45 hgs
       refine Go.zoE 24 (by kernel_rfl) rfl ?_ ?_;rotate_left;intro o ho K hK;simp at ho;subst ho
       gi_wp2_with fail
       refine zar (by kernel_rfl) (fun h=>absurd h (by decide)) ⟨rfl,?_⟩
       all_goals (first | (intro h;first | exact nd | exact absurd h (by decide)) | skip)
       ·gi_wp2
        refine⟨⟨i+1,_,hlt2,by simp,hK5,hq5,hT5,hF5,?_,hN5⟩,by simp [intOf];omega⟩
        rw [hnew.out]
        exact zgT HOS.out (by simp;exact hl1.out)
      case' brS =>
       rintro ⟨D,hst⟩
       subst hst
       rw [show (some D:Option (List (Int×Int))).isSome=true from rfl] at cF
       have hDl:=HU5.out D rfl
       have hp:D[i]?=some (D[i]'(by omega)):=List.getElem?_eq_getElem (by omega)
       have hdr:(zes (some D)).drop i=(D[i]'(by omega)) :: D.drop (i+1):=by simp only [zes,Option.getD_some];exact List.drop_eq_getElem_cons (by omega)
       rw [hdr] at hown
       generalize D[i]'(by omega)=p at hp hown
       clear hdr
       have htx:=Lib.hid (zps hx hp)
       have hti:((tgtD (some D) a).take i).length=i:=by rw [List.length_take,htl.out];omega
       have hnew:Hid ((tgtD (some D) a).take (i+1)++(zes (some D)).drop (i+1)=(tgtD (some D) a).take i++(if x<p.1 then x else p.1,if p.2<x then x else p.2) :: D.drop (i+1)):=by
        show _=_
        rw [zj2 htx.out,List.append_assoc]
        rfl
       have hml:((tgtD (some D) a).take i++p :: D.drop (i+1)).length=d.steps.length:=by
        rw [List.length_append,hti,List.length_cons,List.length_drop,hDl]
        omega
       rw [hml] at hown
       have HTI:=Lib.hid hti
       have HML:=Lib.hid hml
       have him:i<d.steps.length:=hlt2
       have hl1:=HTI
       obtain⟨g9,cap9,hv3,hb9,hl9,hc9⟩:=zjx (by omega) hown
       subst hv3
       have hT4:=hT
       have hF4:=hF
       have hq4:=hq
       have hK4:=hKz
       have hN4:=hN
       have ho4:=hown
       have hW4:∃ W4,W4=wr:=⟨_,rfl⟩
       clear hti hml hDl hp htx hown hT hF hq hKz hN cq
       generalize D.drop (i+1)=l2 at *
       generalize (tgtD (some D) a).take i=l1 at *
       obtain⟨m1,hm1⟩:∃ m1,(if x<p.1 then x else p.1)=m1:=⟨_,rfl⟩
       obtain⟨M1,hM1⟩:∃ M1,(if p.2<x then x else p.2)=M1:=⟨_,rfl⟩
       rw [hm1,hM1] at hnew
       replace hm1:=Lib.hid hm1
       replace hM1:=Lib.hid hM1
       obtain⟨u0,u1,v0,v1⟩:=zeW ho4
       rw [hl1.out] at u0 u1 v0 v1
       have cT:=zaa (i:=0) (v:=.slice (some ⟨g9,0,none⟩) d.steps.length cap9) hT4 rfl
       have cq:wr.cell? ⟨X.heap.size+2+1,i,none⟩=some (num x):=zaa hq4 (by rw [List.getElem?_toArray,List.getElem?_map,hx];rfl)
       gi_upto_region 24 with fail
       refine zat (Nx wr) 24 (by kernel_rfl) ?_
       obtain⟨Z9,G,hN',hG,hG'⟩:=zaC (C:=Nx wr) (x:=wr) (Nx.refl _)
       have t0:=fun z=>(Kc.nx (hG' z)).cell cT
       have t1:=fun z=>(Kc.nx (hG' z)).cell cq
       have t2:=fun z=>(Kc.nx (hG' z)).cell u0
       have t3:=fun z=>(Kc.nx (hG' z)).cell u1
       change Go.wpAnyZ _ _ _ _ _ _ _ _ 25 #[false,false,false,false,false,false,false,false,false,false,false,false,false,false,false,false,false,false,false,false,false,false,false,false,false] _ _
       have nd:Nx wr wr.drew:=Nx.drew (Nx.refl wr)
       generalize wr.drew=V8 at nd ⊢
       refine Go.zqE 0 hG (by kernel_rfl) (fun _ _ _ h=>by cases h.1) rfl ?_;intro o ho K hK;simp at ho;subst ho;gi_big_quiet_op;go_big_quiet_on
       refine Go.zqE 1 hG (by kernel_rfl) (fun _ _ _ h=>by cases h.1) rfl ?_;intro o ho K hK;simp at ho;subst ho;gi_big_quiet_op;go_big_quiet_on
       refine Go.zqE 2 hG (by kernel_rfl) (fun _ _ _ h=>by cases h.1) rfl ?_;intro o ho K hK;simp at ho;subst ho;gi_big_quiet_op;go_big_quiet_on
       refine Go.zqE 3 hG (by kernel_rfl) (fun _ _ _ h=>by cases h.1) rfl ?_;intro o ho K hK;simp at ho;subst ho;gi_big_quiet_op;go_big_quiet_on
       refine Go.zqE 4 hG (by kernel_rfl) (fun _ _ _ h=>by cases h.1) rfl ?_;intro o ho K hK;simp at ho;subst ho;gi_big_quiet_op;go_big_quiet_on
       refine Go.zqE 5 hG (by kernel_rfl) (fun _ _ _ h=>by cases h.1) rfl ?_;intro o ho K hK;simp at ho;subst ho;gi_big_quiet_op;go_big_quiet_on
       refine Go.zqE 6 hG (by kernel_rfl) (fun _ _ _ h=>by cases h.1) rfl ?_;intro o ho K hK;simp at ho;subst ho;gi_big_quiet_op;go_big_quiet_on
       refine Go.zqE 7 hG (by kernel_rfl) (fun _ _ _ h=>by cases h.1) rfl ?_;intro o ho K hK;simp at ho;subst ho;gi_big_quiet_op;go_big_quiet_on
       refine Go.zqE 8 hG (by kernel_rfl) (fun _ _ _ h=>by cases h.1) rfl ?_;intro o ho K hK;simp at ho;subst ho;gi_big_quiet_op;go_big_quiet_on
       refine Go.zqE 9 hG (by kernel_rfl) (fun _ _ _ h=>by cases h.1) rfl ?_;intro o ho K hK;simp at ho;subst ho;gi_big_quiet_op;go_big_quiet_on
       refine Go.zqE 10 hG (by kernel_rfl) (fun _ _ _ h=>by cases h.1) rfl ?_;intro o ho K hK;simp at ho;subst ho;gi_big_quiet_op;go_big_quiet_on
       refine Go.ztE 11 (by kernel_rfl) (fun _ _ _ h=>by cases h.1) ?_;intro o ho;simp at ho;subst ho;refine⟨_,(zpI rfl rfl hm1.out),?_⟩;simp only [Go.Act.put,List.setIfInBounds_toArray,List.set_cons_succ,List.set_cons_zero]
       refine Go.zqE 12 hG (by kernel_rfl) (fun _ _ _ h=>by cases h.1) rfl ?_;intro o ho K hK;simp at ho;subst ho;gi_big_quiet_op;go_big_quiet_on
       refine Go.zqE 13 hG (by kernel_rfl) (fun _ _ _ h=>by cases h.1) rfl ?_;intro o ho K hK;simp at ho;subst ho;gi_big_quiet_op;go_big_quiet_on
       refine Go.zqE 14 hG (by kernel_rfl) (fun _ _ _ h=>by cases h.1) rfl ?_;intro o ho K hK;simp at ho;subst ho;gi_big_quiet_op;go_big_quiet_on
       refine Go.zqE 15 hG (by kernel_rfl) (fun _ _ _ h=>by cases h.1) rfl ?_;intro o ho K hK;simp at ho;subst ho;gi_big_quiet_op;go_big_quiet_on
       refine Go.zqE 16 hG (by kernel_rfl) (fun _ _ _ h=>by cases h.1) rfl ?_;intro o ho K hK;simp at ho;subst ho;gi_big_quiet_op;go_big_quiet_on
       refine Go.zqE 17 hG (by kernel_rfl) (fun _ _ _ h=>by cases h.1) rfl ?_;intro o ho K hK;simp at ho;subst ho;gi_big_quiet_op;go_big_quiet_on
       refine Go.zqE 18 hG (by kernel_rfl) (fun _ _ _ h=>by cases h.1) rfl ?_;intro o ho K hK;simp at ho;subst ho;gi_big_quiet_op;go_big_quiet_on
       refine Go.zqE 19 hG (by kernel_rfl) (fun _ _ _ h=>by cases h.1) rfl ?_;intro o ho K hK;simp at ho;subst ho;gi_big_quiet_op;go_big_quiet_on
       refine Go.zqE 20 hG (by kernel_rfl) (fun _ _ _ h=>by cases h.1) rfl ?_;intro o ho K hK;simp at ho;subst ho;gi_big_quiet_op;go_big_quiet_on
       refine Go.ztE 21 (by kernel_rfl) (fun _ _ _ h=>by cases h.1) ?_;intro o ho;simp at ho;subst ho;refine⟨_,(zpH rfl rfl hM1.out),?_⟩;simp only [Go.Act.put,List.setIfInBounds_toArray,List.set_cons_succ,List.set_cons_zero]
       refine Go.zqE 22 hG (by kernel_rfl) (fun _ _ _ h=>by cases h.1) rfl ?_;intro o ho K hK;simp at ho;subst ho;gi_big_quiet_op;go_big_quiet_on
       refine Go.zqE 23 hG (by kernel_rfl) (fun _ _ _ h=>by cases h.1) rfl ?_;intro o ho K hK;simp at ho;subst ho;gi_big_quiet_op;go_big_quiet_on
       clear t0 t1 t2 t3 hG hG' hN' u0 u1 v0 v1 cT cq
       replace hT4:=(nd.block _ (zav hT4)).trans hT4
       replace hF4:=(nd.block _ (zav hF4)).trans hF4
       replace hq4:=(nd.block _ (zav hq4)).trans hq4
       replace hK4:=hK4.nx nd hN4
       replace ho4:=zck ho4 nd
       replace hN4:X.heap.size+2≤V8.heap.size:=by have:=nd.size;omega
       obtain⟨u0,u1,v0,v1⟩:=zeW ho4
       rw [hl1.out] at u0 u1 v0 v1
       obtain⟨cur9,hg45⟩:=zbX ho4 (g:=g9) rfl
       have hos:=zlp (q:=(m1,M1)) ho4
       rw [hl1.out] at hos
       have hgl:X.heap.size+2≤g9:=(ho4.lt g9 rfl).1
       have hgs:V8.grownBy ((V8.setCell ⟨g9,i * 2,none⟩ (num m1)).setCell ⟨g9,i * 2+1,none⟩ (num M1)) (some g9):=⟨rfl,rfl,rfl,by rw [zay,zay];exact Nat.le_refl _,fun b _ hb=>(zae (fun e=>hb (by rw [e]))).trans (zae (fun e=>hb (by rw [e])))⟩
       have hK5:=hK4.row hgs (fun r e=>by cases e;exact⟨by omega,hN4,cur9,_,hg45⟩) hN4 (fun r e=>by cases e;exact hgl)
       have hT5:=(hgs.block _ (zav hT4) (fun e=>by cases e;omega)).trans hT4
       have hF5:=(hgs.block _ (zav hF4) (fun e=>by cases e;omega)).trans hF4
       have hq5:=(hgs.block _ (zav hq4) (fun e=>by cases e;rw [hg45] at hq4;cases hq4)).trans hq4
       have hN5:X.heap.size+2≤((V8.setCell ⟨g9,i * 2,none⟩ (num m1)).setCell ⟨g9,i * 2+1,none⟩ (num M1)).heap.size:=by rw [zay,zay];exact hN4
       have HOS:=Lib.hid hos
       clear ho4 hos hg45 hgs
       refine Go.zoE 24 (by kernel_rfl) rfl ?_ ?_;rotate_left;intro o ho K hK;simp at ho;subst ho
       gi_wp2_with fail
       refine zar (by kernel_rfl) (fun h=>absurd h (by decide)) ⟨rfl,?_⟩
       all_goals (first | (intro h;first | exact nd | exact absurd h (by decide)) | skip)
       ·gi_wp2
        refine⟨⟨i+1,_,hlt2,by simp,hK5,hq5,hT5,hF5,?_,hN5⟩,by simp [intOf];omega⟩
        rw [hnew.out]
        exact zgT HOS.out (by have:=HML.out;simp at this ⊢;omega)
   case done =>
    rintro D ys U hD rfl ⟨hU1,vD,hU2,hU3,hU4,hU5⟩ hK
    have hFA:F≠A+1+1+1:=by omega
    have y0:=zaa (i:=0) (v:=vD) hU2 rfl
    have z0:=zac (i:=0) hU2
    have hXl:A+4≤X.heap.size∧F<X.heap.size:=by have:=HX.out;omega
    have hwU:Nx w U:=hU1.toNx nwX (by simp;omega)
    cases hds:zcD d plan seen (zaH d.steps) with
    | none =>
     rw [hds] at hU3 HR
     have y1:=zaa (i:=0) (v:=.bool false) hU3 rfl
     have hK':=(zae (i:=0) (v:=.slice none 0 0) (show D≠A+1+1+1 by omega)).trans hK
     have hF:=(World.putObj_heap_other (o:=.deferred none) (show A+1+1+1≠D by omega)).trans (zaA (i:=0) (v:=.slice none 0 0) hU2)
     gi_wp2
     refine⟨by simp,.inl ⟨_,_,rfl,run_takeDeferred hK',?_⟩⟩
     refine⟨_,zkF rfl rfl hF,_,by rw [HR.out]<;>rfl,?_,by rw [HR.out];exact⟨0,.inl ⟨rfl,rfl⟩⟩⟩
     refine Below.grown ?_ (grownBy_putObj' _ D _) ?_ (fun r e=>by cases e;omega)
     ·exact hwU.set (by omega)
     ·rw [zay];exact hwU.size
    | some Ds =>
     rw [hds] at hU3 HR hU4
     clear hU5
     obtain⟨a9,c9,rfl⟩:=zaB hU4
     have y1:=zaa (i:=0) (v:=.bool true) hU3 rfl
     have hK':=(zae (i:=0) (v:=.slice a9 Ds.length c9) (show D≠A+1+1+1 by omega)).trans hK
     have hF:=(World.putObj_heap_other (o:=.deferred none) (show A+1+1+1≠D by omega)).trans (zaA (i:=0) (v:=.slice a9 Ds.length c9) hU2)
     have hDg:∀ q,(Value.slice a9 Ds.length c9).ownBlock=some q→((U.setCell ⟨A+1+1+1,0,none⟩ (.slice a9 Ds.length c9)).putObj D (.deferred none)).heap[q]?=U.heap[q]?:=fun q hq=>by
      have hqN:=(hU4.lt q hq).1
      refine (World.putObj_heap_other (fun e=>?_)).trans (zae (by omega))
      obtain⟨cur,hc⟩:=zbX hU4 hq
      rw [e,hK] at hc
      cases hc
     have hoF:=zbn hU4 hDg
     have hSl:=zcF (rows:=Ds.map spc) (n:=Ds.length) (fun y hy=>by obtain⟨p,_,rfl⟩:=List.mem_map.1 hy;rfl) (by simp) hoF
     have hU4':=Lib.hid hU4
     clear hU4 hoF hDg
     simp only [Option.getD_some] at *
     gi_wp2
     refine⟨by simp,.inl ⟨_,_,rfl,run_takeDeferred hK',?_⟩⟩
     refine⟨_,zkF rfl rfl hF,_,by rw [HR.out]<;>rfl,?_,by rw [HR.out];exact hSl⟩
     refine Below.grown ?_ (grownBy_putObj' _ D _) ?_ (fun r e=>by cases e;omega)
     ·exact hwU.set (by omega)
     ·rw [zay];exact hwU.size
   case stop =>
    rintro D c pre U _ _ h _
    exact h.elim
end Go.Proofs.Ytedomogjmhommaa
