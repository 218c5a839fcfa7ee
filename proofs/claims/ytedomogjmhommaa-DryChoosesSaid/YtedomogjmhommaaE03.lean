import Derived.Test.YtedomogjmhommaaE02
set_option linter.all false
set_option maxRecDepth 100000
set_option maxHeartbeats 8000000
namespace Go.Proofs.Ytedomogjmhommaa
open Go.RowKit Go.Shelf
theorem set_snoc (l:List St) (s:St):withS (setS l) s=setS (l++[s]):=by simp [setS]
theorem nextL_snoc' {d:Dry} {x:Stp} {c:St→Int} {l:List St} {s:St}:nextL d x c (l++[s])=nextL d x c l++x.damps.map fun a=>nextS d (heatAt d (c s).toNat) s (c s) a:=by
 simp [nextL,List.flatMap_append]
theorem results_three21 {t:Array Value} {W:World} {v:Value} {b:Bool} {f:Int} (h2:t[2]?=some v) (h3:t[3]?=some (.bool b)) (h4:t[4]?=some (num f)):(results Try.f21 t).run Try.prog W=.ok (.tuple #[v,.bool b,num f]) W:=by
 simp [results,Try.results21,go_sem,h2,h3,h4]
theorem safe21_any (d:Dry) (r:R2) (w:World) (hd:DrySl w d r):CallsIn FW 0 Try.prog 21 #[d.val r] w fun e w'=>∃ v,e=.returned (.tuple #[v,.bool (safeF d).2.1,num (safeF d).2.2])∧Nx w w'∧SetsSl w' v (safeF d).1:=by
 have k33:=fun (w1:World) (n:Nx w w1)=>check33_any d r w1 (hd.nx n)
 have HD:=Lib.hid hd
 obtain⟨g,hg⟩:∃ g,safeF d=g:=⟨_,rfl⟩
 rw [hg]
 have HG:=Lib.hid hg
 clear hg
 obtain⟨rh,rs⟩:=r
 obtain⟨ha,hcap,hrs⟩:=hd.heats.cases
 dsimp only at hrs
 subst hrs
 obtain⟨sa,scap,hrs⟩:=hd.steps.cases
 dsimp only at hrs
 subst hrs
 rw [List.length_map,List.length_map] at *
 clear hd
 gi_enter Try.func21,Try.ntmps21
 gi_upto_region 1 with fail
 generalize hWn:w.alloc _=W
 obtain⟨nW,sW,g0⟩:=al1 hWn
 have hbW:DBox W w.heap.size d ⟨.slice ha d.heats.length hcap,.slice sa d.steps.length scap⟩:=⟨by omega,fun i v h=>row_cell g0 h⟩
 clear hWn
 generalize hA:w.heap.size=A at *
 have c0:=hbW.at' 0 _ rfl
 have c1:=hbW.at' 1 _ rfl
 have c2:=hbW.at' 2 _ rfl
 have c3:=hbW.at' 3 _ rfl
 have c4:=hbW.at' 4 _ rfl
 have c5:=hbW.at' 5 _ rfl
 have c6:=hbW.at' 6 _ rfl
 by_cases h1:dryF d=0
 case neg =>
  have HR:Hid (g=([],false,dryF d)):=by show _=_;rw [← HG.out];unfold safeF;rw [if_pos h1]
  have b1:(dryF d == 0)=false:=beq_false_of_ne h1
  generalize dryF d=f at *
  clear h1
  gi_wp2_with (first | (gi_at_call 33;refine CallsIn.mono (k33 _ nW) ?_;rintro e w2 ⟨rfl,n2⟩) | gi_in)
  refine bodyPost_ret (results_three21 rfl rfl rfl) rfl ⟨_,by rw [HR.out]<;>rfl,nW.trans n2,setsSl_nil HR.out⟩
 case pos =>
 have hO:=dryF_ok h1
 have hs5:=hO.s5
 rw [h1] at k33
 gi_upto_region 4 with (first | (gi_at_call 33;refine CallsIn.mono (k33 _ nW) ?_;rintro e w2 ⟨rfl,n2⟩) | gi_in)
 have hb2:=hbW.nx n2
 have nw2:=nW.trans n2
 clear c0 c1 c2 c3 c4 c5 c6
 have c3:=hb2.at' 3 _ rfl
 have c4:=hb2.at' 4 _ rfl
 have c5:=hb2.at' 5 _ rfl
 have HG2:Hid (g=if chooseS d d.steps d.start<0 then ([],false,0) else ((List.range (d.steps.length+1)).map (setAt d),true,0)):=by show _=_;rw [← HG.out];unfold safeF;rw [if_neg (by simpa using h1)]
 clear h1
 gi_upto_region 5 with fail
 generalize hVn:(w2.alloc _).alloc _=V
 obtain⟨nV,sV,gV0,gV1⟩:=al2 hVn
 clear hVn c3 c4 c5
 have SV:=Lib.hid sV
 have hszV:w2.heap.size+1<V.heap.size:=by omega
 clear sV
 have hA2:A<w2.heap.size:=by have:=n2.size;omega
 generalize hN:w2.heap.size=N at *
 have hrows:Rows d V N (.slice (some ⟨N+1,0,none⟩) 1 1) [.slice (some ⟨N,0,none⟩) 1 1]:=by
  refine⟨own_new (sz:=1) gV1 (by omega) rfl,fun j u hu=>?_⟩
  cases j with
  | zero =>
   simp only [List.getElem?_cons_zero,Option.some.injEq] at hu
   subst hu
   exact⟨own_new (sz:=3) (cells:=d.start.cells) gV0 (Nat.le_refl _) rfl,fun g e=>by cases e;simp [Value.ownBlock]⟩
  | succ j=>simp at hu
 have nwV:=nw2.trans nV
 have hbV:=hb2.nx nV
 gi_wp2
 gi_loopw [6,7] (fun u6 u7 wr=>∃ (i:Nat) (vs:List Value),i≤d.steps.length∧u7=num i∧vs.length=i+1∧Rows d wr N u6 vs∧Below N V wr∧(0≤chooseS d d.steps d.start∨i=0)) (fun _ u7 _=>d.steps.length-(intOf u7).toNat)
 case atStart=>exact⟨0,_,Nat.zero_le _,rfl,rfl,hrows,Below.refl _ _,.inr rfl⟩
 case round =>
  obtain⟨i,vs,hi,rfl,hvl,hR,hb,hsafe⟩:=hrel
  have hszr:N+2≤wr.heap.size:=by have:=hb.size;have:=SV.out;omega
  have nwr:Nx w wr:=Below.trans nwV (hb.mono (by omega))
  have hbr:DBox wr A d ⟨.slice ha d.heats.length hcap,.slice sa d.steps.length scap⟩:=⟨by omega,fun i v h=>by
   have h1:=hbV.at' i v h
   exact (World.cell?_of_block (hb.block A (by omega))).trans h1⟩
  have c0:=hbr.at' 0 _ rfl
  have c1:=hbr.at' 1 _ rfl
  have c2:=hbr.at' 2 _ rfl
  have c3:=hbr.at' 3 _ rfl
  have c4:=hbr.at' 4 _ rfl
  have c5:=hbr.at' 5 _ rfl
  have c6:=hbr.at' 6 _ rfl
  by_cases hlt:i<d.steps.length
  case neg =>
   obtain rfl:i=d.steps.length:=by omega
   have hs0:0≤chooseS d d.steps d.start:=by
    rcases hsafe with h | h
    ·exact h
    ·rw [List.eq_nil_of_length_eq_zero h];simp [chooseS]
   have HR:Hid (g=((List.range (d.steps.length+1)).map (setAt d),true,0)):=by show _=_;rw [HG2.out,if_neg (by omega)]
   clear hs0 hsafe
   gi_wp2
   refine bodyPost_ret (results_three21 rfl rfl rfl) rfl ⟨_,by rw [HR.out]<;>rfl,nwr,?_⟩
   rw [HR.out]
   exact hR.sets hvl
  case pos =>
  have hx:d.steps[i]?=some d.steps[i]:=List.getElem?_eq_getElem hlt
  have hsucc:=Lib.hid (setAt_succ (d:=d) hx)
  have hdc:=Lib.hid (drop_cons hx)
  have hxs:=hx
  generalize d.steps[i]=x at hx hsucc hdc hxs
  have hstx:=hO.st x (List.mem_of_getElem? hx)
  obtain⟨b,off,rfl,hbl,hcl⟩:=(HD.out.steps).get (by simp;omega)
  have e0:wr.cell? ⟨b,off+i * 6,none⟩=some (num x.lo):=Sl.at hcl nwr hbl hx 0 (v:=num x.lo) rfl
  have e1:wr.cell? ⟨b,off+i * 6+1,none⟩=some (num x.hi):=Sl.at hcl nwr hbl hx 1 (v:=num x.hi) rfl
  have hv7:vs[i]?=some vs[i]:=List.getElem?_eq_getElem (by omega)
  obtain⟨hown7,hap7⟩:=hR.2 i _ hv7
  have hS7:=own_sl (rows:=(setAt d i).map St.cells) (rows3 _) (by simp) hown7
  have hu6:=own_sl (rows:=vs.map fun u=>[u]) (n:=vs.length) (sz:=1) (by simp) (by simp) (by rw [flat_ones];exact hR.1)
  generalize vs[i]=uL at hv7 hown7 hap7 hS7
  obtain⟨na,nc,rfl⟩:=hS7.cases
  obtain⟨oa,oc,hu6e⟩:=hu6.cases
  rw [List.length_map,hvl] at hu6e
  subst hu6e
  obtain⟨ob,ooff,rfl,hobl,hocl⟩:=hu6.get (by simp;omega)
  have eL:wr.cell? ⟨ob,ooff+i,none⟩=some (.slice na ((setAt d i).map St.cells).length nc):=by
   have:=Sl.at hocl (Nx.refl wr) hobl hv7 0 rfl
   simpa using this
  have hlv:(vs.map fun u=>[u]).length=i+1:=by simp [hvl]
  rw [List.length_map] at eL
  have hLen:=setAt_len5 hO hi
  have hS7':=Lib.hid hS7
  have hR':=Lib.hid hR
  have hL1:i=0→setAt d i=[d.start]:=fun e=>by subst e;rfl
  have hHC:∀ (s:St) (w1:World),s.Ok d.heats.length→Nx w w1→CallsIn FW 0 Try.prog 59 #[d.val ⟨.slice ha d.heats.length hcap,.slice (some ⟨b,off,none⟩) d.steps.length scap⟩,num i,s.val] w1 fun e w'=>e=.returned (num (chooseS d (x :: d.steps.drop (i+1)) s))∧Nx w1 w':=fun s w1 hs n=>by
   have:=choice59_any d _ hO (d.steps.length-i-1) i (by omega) s w1 hs (HD.out.nx n)
   rw [hdc.out] at this
   exact this
  have HSF:Hid (0≤chooseS d d.steps d.start→∀ s∈setAt d i,s.Ok d.heats.length∧0≤chooseS d (x :: d.steps.drop (i+1)) s):=fun h s hs=>by
   have:=set_safe hO h i hi s hs
   rw [hdc.out] at this
   exact this
  have hvl':=Lib.hid hvl
  clear hcl hv7 hS7 hown7 hap7 hocl hu6 hR hvl hlv
  have HL1:=Lib.hid hL1
  clear hL1
  generalize setAt d i=L at *
  gi_wp2
  generalize wr=W3 at *
  generalize hSg:W3.heap.size=S at *
  gi_loopw [8,9] (fun u8 u9 wr2=>∃ k:Nat,k≤L.length∧u9=num k∧wr2.ownsRow S 24 3 u8 (setS (nextL d x (chooseS d (x :: d.steps.drop (i+1))) (L.take k))).length ((setS (nextL d x (chooseS d (x :: d.steps.drop (i+1))) (L.take k))).map St.cells).flatten∧Below S W3 wr2∧(0≤chooseS d d.steps d.start∨(i=0∧k=0))) (fun _ u9 _=>L.length-(intOf u9).toNat)
  case atStart=>exact⟨0,Nat.zero_le _,rfl,by simp [nextL,setS];exact World.ownsRow_nil ..,Below.refl _ _,hsafe.imp id fun h=>⟨h,rfl⟩⟩
  case round =>
   obtain⟨k,hk,rfl,hown,hb2,hsf2⟩:=hrel
   have hb2':=hb2
   rw [← hSg] at hb2'
   have kr2:=Kc.nx hb2'
   have hszr2:S≤wr.heap.size:=by have:=hb2.size;omega
   have nwr2:Nx w wr:=Nx.trans nwr hb2'
   replace c0:=kr2.cell c0
   replace c1:=kr2.cell c1
   replace c2:=kr2.cell c2
   replace c3:=kr2.cell c3
   replace c4:=kr2.cell c4
   replace c5:=kr2.cell c5
   replace c6:=kr2.cell c6
   replace e0:=kr2.cell e0
   replace e1:=kr2.cell e1
   replace eL:=kr2.cell eL
   have hRr:=hR'.out.but (But.nx hb2' : But [] W3 wr) (by simp)
   by_cases hlk:k<L.length
   case neg =>
    obtain rfl:k=L.length:=by omega
    have hs0:0≤chooseS d d.steps d.start:=by
     rcases hsf2 with h | ⟨h,h2⟩
     ·exact h
     ·have:=HL1.out h
      rw [this] at h2
      simp at h2
    rw [List.take_length] at hown
    have hnew:Hid (setS (nextL d x (chooseS d (x :: d.steps.drop (i+1))) L)=setAt d (i+1)):=by
     show _=_
     rw [hsucc.out,hdc.out]
    rw [hnew.out] at hown
    have hL5:=setAt_len5 hO (i:=i+1) (by omega)
    have hv5:∀ g,u8.ownBlock=some g→S≤g:=fun g hg=>(hown.lt g hg).1
    have hu2:∀ g,(Value.slice (some ⟨ob,ooff,none⟩) (i+1) oc).ownBlock=some g→N≤g∧g<S:=fun g hg=>by have:=hR'.out.1.lt g hg;omega
    obtain⟨a5,c5',rfl⟩:=own_slice hown
    have hHR:=Lib.hid hRr
    clear hRr hsf2 c0 c1 c2 c3 c4 c5 e0 e1
    gi_wp2_with (first | (gi_at_builtin;refine wpListIn_more T33 rfl _ _ rfl rfl N (.slice (some ⟨ob,ooff,none⟩) (i+1) oc) (i+1) (vs.map fun u=>[u]) rfl (own_alloc (by rw [flat_ones];exact own_len hHR.out.1 hvl'.out.symm) _) (by rw [List.length_map];exact hvl'.out) wr.heap.size [.slice a5 (setAt d (i+1)).length c5'] rfl row_new rfl (by simp [Value.oneCell']) (by omega) (by omega) (by simp;omega) ?_;intro v' w7 hown7 hg7 hat7;simp only [Act.put,List.setIfInBounds_toArray,List.set_cons_succ,List.set_cons_zero]) | gi_in)
    have hRn:=hHR.out.snoc hvl'.out (own_base hown (by omega)) (fun g hg e=>by have:=hv5 g hg;have:=(hu2 g e).2;omega) (by rw [hvl'.out];exact hown7) hg7 hat7
    have hb7:Below N V w7:=by
     have h1:Below N V wr:=Below.trans hb (hb2.mono (by omega))
     exact Below.grown (h1.alloc (by omega) _) hg7 (by simp;omega) (fun g e=>(hu2 g e).1)
    exact⟨⟨i+1,_,hlt,by simp,by simp;exact hvl'.out,hRn,hb7,.inl hs0⟩,by simp [intOf];omega⟩
   case pos =>
   have hh:L[k]?=some L[k]:=List.getElem?_eq_getElem hlk
   have htk:=Lib.hid (List.take_succ_eq_append_getElem hlk)
   generalize L[k]=s at hh htk
   obtain⟨bs,offs,rfl,hbsl,hcls⟩:=(hS7'.out).get (by simp;omega)
   have f0:wr.cell? ⟨bs,offs+k * 3,none⟩=some (num s.w):=kr2.cell (Sl.at hcls (Nx.refl _) hbsl hh 0 (v:=num s.w) rfl)
   have f1:wr.cell? ⟨bs,offs+k * 3+1,none⟩=some (num s.c):=kr2.cell (Sl.at hcls (Nx.refl _) hbsl hh 1 (v:=num s.c) rfl)
   have f2:wr.cell? ⟨bs,offs+k * 3+2,none⟩=some (num s.h):=kr2.cell (Sl.at hcls (Nx.refl _) hbsl hh 2 (v:=num s.h) rfl)
   have hsO:s.Ok d.heats.length:=by
    rcases hsf2 with h | ⟨h,_⟩
    ·exact (HSF.out h s (List.mem_of_getElem? hh)).1
    ·have:=HL1.out h
     rw [this] at hh
     have:=List.mem_of_getElem? hh
     simp at this
     rw [this]
     exact stF_ok.1 hO.start
   have hck:Hid (0≤chooseS d d.steps d.start↔0≤chooseS d (x :: d.steps.drop (i+1)) s):=by
    constructor
    ·intro h
     exact (HSF.out h s (List.mem_of_getElem? hh)).2
    ·intro h
     rcases hsf2 with h2 | ⟨h2,rfl⟩
     ·exact h2
     ·have h3:=HL1.out h2
      rw [h3] at hh
      simp at hh
      subst h2
      rw [← hdc.out,List.drop_zero,← hh] at h
      exact h
   have k59:=fun (w1:World) (n:Nx wr w1)=>hHC s w1 hsO (nwr2.trans n)
   clear hcls hh hHC
   gi_upto_region 12 with fail
   refine wpIn_region_tail 9 rfl (by kernel_rfl) (by kernel_rfl) ?_
   simp only [List.take_succ_cons,List.take_zero,List.drop_succ_cons,List.drop_zero]
   repeat (gi_big_quiet_step (fail))
   refine wpQuietIn_nil ?_
   rintro w' ⟨nq,rfl⟩
   have nq4:Nx wr (wr.drewN nq):=(Nx.refl wr).drewN nq
   generalize wr.drewN nq=w4 at nq4 ⊢
   have k59:=k59 w4 nq4
   by_cases hc:chooseS d (x :: d.steps.drop (i+1)) s<0
   case pos =>
    have HR:Hid (g=([],false,0)):=by show _=_;rw [HG2.out,if_pos (by have:=hck.out;omega)]
    have b4:=decide_eq_true hc
    clear hc hck
    generalize chooseS d (x :: d.steps.drop (i+1)) s=c at *
    gi_wp2_with (first | (gi_at_call 59;refine CallsIn.mono k59 ?_;rintro e w5 ⟨rfl,n5⟩) | gi_in)
    refine bodyPost_ret (results_three21 rfl rfl rfl) rfl ⟨_,by rw [HR.out]<;>rfl,nwr2.trans (nq4.trans n5),setsSl_nil HR.out⟩
   case neg =>
   have b4:=decide_eq_false hc
   have hs0:=hck.out.2 (by omega)
   obtain⟨kk,hkk,hck2,hgd⟩:=choose_good (show 0≤chooseS d (x :: d.steps.drop (i+1)) s by omega)
   have hhk:=heat_mem hkk
   have hokL:Hid (∀ t∈nextL d x (chooseS d (x :: d.steps.drop (i+1))) (L.take k),t.Ok d.heats.length):=fun t ht=>(nextL_ok hO (List.mem_of_getElem? hxs) (fun s hs=>HSF.out hs0 s (List.mem_of_mem_take hs)) t ht).1
   have hlenL:Hid ((nextL d x (chooseS d (x :: d.steps.drop (i+1))) (L.take k)).length≤4 * k):=by
    show _≤_
    have:=nextL_len (d:=d) (c:=chooseS d (x :: d.steps.drop (i+1))) (damps_len hstx.1) (L.take k)
    rw [List.length_take] at this
    omega
   rw [hck2] at b4 k59
   have hnx:Hid (∀ a,nextS d (heatAt d (chooseS d (x :: d.steps.drop (i+1)) s).toNat) s (chooseS d (x :: d.steps.drop (i+1)) s) a=nextS d (heatAt d kk) s kk a):=fun a=>by rw [hck2,Int.toNat_natCast]
   clear hc hck hck2 hgd hsf2
   gi_upto_region 16 with (first | (gi_at_call 59;refine CallsIn.mono k59 ?_;rintro e w5 ⟨rfl,n5⟩;have kc5:=Kc.nx (nq4.trans n5);replace c0:=kc5.cell c0;replace c1:=kc5.cell c1;replace c2:=kc5.cell c2;replace c3:=kc5.cell c3;replace c4:=kc5.cell c4;replace c5:=kc5.cell c5;replace c6:=kc5.cell c6;replace e0:=kc5.cell e0;replace e1:=kc5.cell e1;replace eL:=kc5.cell eL;replace f0:=kc5.cell f0;replace f1:=kc5.cell f1;replace f2:=kc5.cell f2) | gi_in)
   have hown5:=own_nx hown (nq4.trans n5)
   have hb5:=Nx.trans hb2' (nq4.trans n5)
   have nw5:=nwr2.trans (nq4.trans n5)
   have hsz5:S≤w5.heap.size:=by have:=nq4.size;have:=n5.size;omega
   clear hown hb2 hb2' nwr2 nq4 n5 kc5 kr2 hRr k59
   gi_loopw [8,11] (fun u8 u11 wr2=>∃ m:Nat,m≤(x.hi+1-x.lo).toNat∧u11=num (x.lo+m)∧wr2.ownsRow S 24 3 u8 (setS (nextL d x (chooseS d (x :: d.steps.drop (i+1))) (L.take k)++(dampsL x.lo m).map fun a=>nextS d (heatAt d kk) s kk a)).length ((setS (nextL d x (chooseS d (x :: d.steps.drop (i+1))) (L.take k)++(dampsL x.lo m).map fun a=>nextS d (heatAt d kk) s kk a)).map St.cells).flatten∧Nx w5 wr2) (fun _ u11 _=>(x.hi+1-intOf u11).toNat)
   case atStart=>exact⟨0,Nat.zero_le _,by simp,by simp only [dampsL,List.range_zero,List.map_nil,List.append_nil];exact hown5,Nx.refl _⟩
   case round =>
    obtain⟨m,hm,rfl,hown,n5⟩:=hrel
    have kr5:=Kc.nx n5
    replace c0:=kr5.cell c0
    replace c1:=kr5.cell c1
    replace c2:=kr5.cell c2
    replace c3:=kr5.cell c3
    replace c4:=kr5.cell c4
    replace c5:=kr5.cell c5
    replace c6:=kr5.cell c6
    replace e1:=kr5.cell e1
    replace eL:=kr5.cell eL
    replace f0:=kr5.cell f0
    replace f1:=kr5.cell f1
    replace f2:=kr5.cell f2
    by_cases hlm:m<(x.hi+1-x.lo).toNat
    case neg =>
     have hmm:m=(x.hi+1-x.lo).toNat:=by omega
     have hle:¬ x.lo+(m:Int)≤x.hi:=by omega
     have hfin:Hid (nextL d x (chooseS d (x :: d.steps.drop (i+1))) (L.take k)++((dampsL x.lo m).map fun a=>nextS d (heatAt d kk) s kk a)=nextL d x (chooseS d (x :: d.steps.drop (i+1))) (L.take (k+1))):=by
      show _=_
      rw [htk.out,nextL_snoc',hmm]
      congr 1
      exact List.map_congr_left fun a _=>(hnx.out a).symm
     rw [hfin.out] at hown
     clear hmm
     gi_wp2
     exact⟨⟨k+1,hlk,by simp,hown,by rw [← hSg];exact hb5.trans n5,.inl hs0⟩,by simp [intOf];omega⟩
    case pos =>
     have hle:x.lo+(m:Int)≤x.hi:=by omega
     have hda:0≤x.lo+(m:Int)∧x.lo+(m:Int)≤3:=by omega
     have k36:=fun (w1:World) (n:Nx wr w1)=>next36_any d ⟨.slice ha d.heats.length hcap,.slice (some ⟨b,off,none⟩) d.steps.length scap⟩ s kk _ (x.lo+m) w1 (HD.out.nx (nw5.trans (n5.trans n))) hO hhk hsO hda
     have hsI:=(next_ok hO (List.mem_of_getElem? hhk) hsO (heat:=kk) (damp:=x.lo+m) (n:=d.heats.length) (by omega) hda.1).i hO.h4.2
     have hxI:∀ t∈setS (nextL d x (chooseS d (x :: d.steps.drop (i+1))) (L.take k)++(dampsL x.lo m).map fun a=>nextS d (heatAt d kk) s kk a),StI t:=fun t ht=>by
      rcases List.mem_append.1 (mem_set.1 ht) with h | h
      ·exact (hokL.out t h).i hO.h4.2
      ·obtain⟨a,ha,rfl⟩:=List.mem_map.1 h
       have:=damps_mem (x:=x) (a:=a) (by rw [Stp.damps];exact dampsL_sub (Nat.le_of_lt hlm) ha)
       exact (next_ok hO (List.mem_of_getElem? hhk) hsO (heat:=kk) (damp:=a) (n:=d.heats.length) (by omega) (by omega)).i hO.h4.2
     have hxl:=set_len (nextL d x (chooseS d (x :: d.steps.drop (i+1))) (L.take k)++(dampsL x.lo m).map fun a=>nextS d (heatAt d kk) s kk a)
     rw [List.length_append,List.length_map,dampsL_len] at hxl
     have hxl2:(setS (nextL d x (chooseS d (x :: d.steps.drop (i+1))) (L.take k)++(dampsL x.lo m).map fun a=>nextS d (heatAt d kk) s kk a)).length≤1000000000:=by have:=hlenL.out;omega
     have hmore:Hid (withS (setS (nextL d x (chooseS d (x :: d.steps.drop (i+1))) (L.take k)++(dampsL x.lo m).map fun a=>nextS d (heatAt d kk) s kk a)) (nextS d (heatAt d kk) s kk (x.lo+m))=setS (nextL d x (chooseS d (x :: d.steps.drop (i+1))) (L.take k)++(dampsL x.lo (m+1)).map fun a=>nextS d (heatAt d kk) s kk a)):=by
      show _=_
      rw [set_snoc,dampsL_succ,List.map_append,List.append_assoc]
      rfl
     generalize setS (nextL d x (chooseS d (x :: d.steps.drop (i+1))) (L.take k)++(dampsL x.lo m).map fun a=>nextS d (heatAt d kk) s kk a)=xs at *
     generalize nextS d (heatAt d kk) s kk (x.lo+m)=s' at *
     have hclear:=hxl2
     clear hxl
     have HM:=Lib.hid hmore
     clear hmore
     gi_upto_region 18 with fail
     refine wpIn_region_Zn (Nx wr) 13 (by kernel_rfl) ?_
     obtain⟨Z,G,hN',hG,hG'⟩:=class_par (C:=Nx wr) (x:=wr) (Nx.refl _)
     have c0:=fun z=>(Kc.nx (hG' z)).cell c0
     have c1:=fun z=>(Kc.nx (hG' z)).cell c1
     have c2:=fun z=>(Kc.nx (hG' z)).cell c2
     have c3:=fun z=>(Kc.nx (hG' z)).cell c3
     have c4:=fun z=>(Kc.nx (hG' z)).cell c4
     have c5:=fun z=>(Kc.nx (hG' z)).cell c5
     have c6:=fun z=>(Kc.nx (hG' z)).cell c6
     have eL:=fun z=>(Kc.nx (hG' z)).cell eL
     have f0:=fun z=>(Kc.nx (hG' z)).cell f0
     have f1:=fun z=>(Kc.nx (hG' z)).cell f1
     have f2:=fun z=>(Kc.nx (hG' z)).cell f2
     change Go.wpAnyZ _ _ _ _ _ _ _ _ 14 #[false,false,false,false,false,false,false,false,false,false,false,false,false,false] _ _
     have n7:Nx wr wr.drew:=Nx.drew (Nx.refl wr)
     generalize wr.drew=V7 at n7 ⊢
     refine Go.zqE 0 hG (by kernel_rfl) (fun _ _ _ h=>by cases h.1) rfl ?_;intro o ho K hK;simp at ho;subst ho;gi_big_quiet_op;go_big_quiet_on
     refine Go.zqE 1 hG (by kernel_rfl) (fun _ _ _ h=>by cases h.1) rfl ?_;intro o ho K hK;simp at ho;subst ho;gi_big_quiet_op;go_big_quiet_on
     refine Go.zqE 2 hG (by kernel_rfl) (fun _ _ _ h=>by cases h.1) rfl ?_;intro o ho K hK;simp at ho;subst ho;gi_big_quiet_op;go_big_quiet_on
     refine Go.zqE 3 hG (by kernel_rfl) (fun _ _ _ h=>by cases h.1) rfl ?_;intro o ho K hK;simp at ho;subst ho;gi_big_quiet_op;go_big_quiet_on
     refine Go.zqE 4 hG (by kernel_rfl) (fun _ _ _ h=>by cases h.1) rfl ?_;intro o ho K hK;simp at ho;subst ho;gi_big_quiet_op;go_big_quiet_on
     refine Go.zqE 5 hG (by kernel_rfl) (fun _ _ _ h=>by cases h.1) rfl ?_;intro o ho K hK;simp at ho;subst ho;gi_big_quiet_op;go_big_quiet_on
     refine Go.zqE 6 hG (by kernel_rfl) (fun _ _ _ h=>by cases h.1) rfl ?_;intro o ho K hK;simp at ho;subst ho;gi_big_quiet_op;go_big_quiet_on
     refine Go.zqE 7 hG (by kernel_rfl) (fun _ _ _ h=>by cases h.1) rfl ?_;intro o ho K hK;simp at ho;subst ho;gi_big_quiet_op;go_big_quiet_on
     refine Go.zqE 8 hG (by kernel_rfl) (fun _ _ _ h=>by cases h.1) rfl ?_;intro o ho K hK;simp at ho;subst ho;gi_big_quiet_op;go_big_quiet_on
     refine Go.zqE 9 hG (by kernel_rfl) (fun _ _ _ h=>by cases h.1) rfl ?_;intro o ho K hK;simp at ho;subst ho;gi_big_quiet_op;go_big_quiet_on
     refine Go.zqE 10 hG (by kernel_rfl) (fun _ _ _ h=>by cases h.1) rfl ?_;intro o ho K hK;simp at ho;subst ho;gi_big_quiet_op;go_big_quiet_on
     clear hG hG' hN' c0 c1 c2 c3 c4 c5 c6 eL f0 f1 f2
     refine Go.zoE 11 (by kernel_rfl) rfl ?_ ?_;rotate_left;intro o ho K hK;simp at ho;subst ho
     gi_wp2_with (first | (gi_at_call 36;refine CallsIn.mono (k36 _ n7) ?_;rintro e w8 ⟨rfl,n8⟩) | gi_in)
     have n78:=n7.trans n8
     have k64:=with64_any _ xs s' S w8 (own_nx hown n78) (by have:=n5.size;have:=n78.size;omega) hclear hxI hsI
     refine Go.zoE 12 (by kernel_rfl) rfl ?_ ?_;rotate_left;intro o ho K hK;simp at ho;subst ho
     gi_wp2_with (first | (gi_at_call 64;refine CallsIn.mono k64 ?_;rintro e w9 ⟨v9,rfl,n9,hown9⟩) | gi_in)
     refine Go.zoE 13 (by kernel_rfl) rfl ?_ ?_;rotate_left;intro o ho K hK;simp at ho;subst ho
     gi_wp2_with fail
     refine wpAnyZ_done (by kernel_rfl) (fun h=>absurd h (by decide)) ⟨rfl,?_⟩
     ·rw [HM.out.out] at hown9
      gi_wp2
      exact⟨⟨m+1,hlm,by simp;omega,hown9,n5.trans (n78.trans n9)⟩,by simp [intOf];omega⟩
     all_goals (intro _;first | exact n7 | exact n78 | exact n78.trans n9)
end Go.Proofs.Ytedomogjmhommaa
namespace Go.Proofs.Ytedomogjmhommaa
open Go.RowKit Go.Con Go.Conc
noncomputable def b9:Code:=match Try.f9.body with | some c=>c | none=>.skip
end Go.Proofs.Ytedomogjmhommaa
namespace Go.Proofs.Ytedomogjmhommaa
open Go.RowKit Go.Con Go.Conc
local instance dryI85:Lone:=dryL
theorem nx_tape {w w' : World} {τ:Tape} (n:Nx { w with tape:=τ } w'):OldC w w':=.heap n.size fun b hb=>n.block b hb
theorem EW.tape {w:World} {p1:Nat} {r:R2} {τ:Tape} (h:EW w p1 r):EW { w with tape:=τ } p1 r:=h.oc (OldC.same rfl)
theorem dries_go (E Fz Arg:Nat→Prop) (W0:World) (Q:(Nat→Prop)→(Nat→Prop)→Goroutine→World→Prop) (φ:Ph) (c0:Frame) (cs:List Frame) (W:World) (t:Array Value) (hs:t.size=146)
  (hcont:∀ (φ1:Ph) (W1:World) (Fz1:Nat→Prop),OldC W W1→GoM Try.prog true E Fz1 Arg W0 Q φ1 [] (c0.finish (.bool true)) cs W1) :
  GoM Try.prog true E Fz Arg W0 Q φ [] (Fr 17 t [.code b17]) (c0 :: cs) W:=by
 rw [b17_eq]
 refine Gm.seq ?_
 refine Gm.lone (F:=FW) (fun t1 W1=>t1.size=146∧W1.heap=W.heap) rfl rfl trivial FW_ok (by kernel_rfl) (by kernel_rfl) (fun τ=>?_) ?_
 ·refine wpIn_mono (dr0 t hs { W with tape:=τ }) ?_
  rintro e a w' ⟨k1,k2,k3,rfl⟩
  exact⟨k1,k2,k3,rfl⟩
 rintro t0 Wa ⟨s0,hWa⟩
 have oa:OldC W Wa:=OldC.same hWa
 clear hs hWa
 refine Gm.seq ?_
 refine Gm.lone (F:=FW) (fun t1 W1=>(∃ p1 r,(t1.size=146∧t1[1]?=some (ptr p1))∧EW W1 p1 r)∧OldC Wa W1) rfl rfl trivial FW_ok (by kernel_rfl) (by kernel_rfl) (fun τ=>?_) ?_
 ·refine wpIn_mono (dr1 t0 s0 { Wa with tape:=τ }) ?_
  rintro e a w' ⟨k1,k2,p1,r,k3,k4,k5⟩
  exact⟨k1,k2,⟨p1,r,k3,k4⟩,nx_tape k5⟩
 rintro t1 W1 ⟨⟨p1,r,⟨s1,m1⟩,hE⟩,o1⟩
 have o1:=oa.trans o1
 clear oa s0
 refine Gm.seq ?_
 refine Gm.lone (F:=FW) (fun t2 W2=>(t2.size=146∧t2[1]?=some (ptr p1)∧t2[2]?=some (num 2)∧t2[3]?=some (.bool true)∧t2[4]?=some (num 0))∧OldC W1 W2) rfl rfl trivial FW_ok (by kernel_rfl) (by kernel_rfl) (fun τ=>?_) ?_
 ·refine wpIn_mono (dr2 p1 r t1 s1 m1 { W1 with tape:=τ } hE.tape) ?_
  rintro e a w' ⟨k1,k2,k3,k4⟩
  exact⟨k1,k2,k3,nx_tape k4⟩
 rintro t2 W2 ⟨⟨s2,n1,n2,n3,n4⟩,o2⟩
 have hE2:=hE.oc o2
 have o2:=o1.trans o2
 clear o1 hE s1 m1
 refine Gm.seq ?_
 refine Gm.lone (F:=FW) (fun t3 W3=>∃ v5,(t3.size=146∧t3[1]?=some (ptr p1)∧t3[2]?=some (num 2)∧t3[3]?=some (.bool true)∧t3[4]?=some (num 0)∧t3[5]?=some v5∧t3[6]?=some (.bool true)∧t3[7]?=some (num 0))∧OldC W2 W3∧SetsSl W3 v5 (safeF exD).1) rfl rfl trivial FW_ok (by kernel_rfl) (by kernel_rfl) (fun τ=>?_) ?_
 ·refine wpIn_mono (dr3 p1 r t2 s2 n1 n2 n3 n4 { W2 with tape:=τ } hE2.tape) ?_
  rintro e a w' ⟨k1,k2,v5,k3,k4,k5⟩
  exact⟨k1,k2,v5,k3,nx_tape k4,k5⟩
 rintro t3 W3 ⟨v5,⟨s3,m1,m2,m3,m4,m5,m6,m7⟩,o3,hv5⟩
 have hE3:=hE2.oc o3
 have o3:=o2.trans o3
 clear o2 hE2 s2 n1 n2 n3 n4
 refine Gm.seq ?_
 rw [x17_4_eq]
 refine Gm.region ?_
 rw [show List.range ops17_4.size=[0,1,2,3,4,5,6,7,8] by kernel_rfl]
 refine Gm.op (o:=⟨some 35,.load 27 (.tmp 1),_,_,_,none⟩) (exD.val r) W3 rfl rfl (by kernel_rfl) rfl (load27_run _ (eval_tmp m1) hE3.box) id ?_
 refine Gm.enter (o:=⟨some 36,.call { callee:=.value (.func 23),args:=#[.tmp 35],argTypes:=#[27] },_,_,_,none⟩) (c:={ callee:=.value (.func 23),args:=#[.tmp 35],argTypes:=#[27] }) (g:=23) (fn:=Try.f23) (body:=b23) rfl rfl rfl rfl (by kernel_rfl) Try.func23 body23_of (by kernel_rfl) ?_
 obtain⟨ha,hcap,q1⟩:=hE3.sl.heats.cases
 obtain⟨sa,scap,q2⟩:=hE3.sl.steps.cases
 rw [List.length_map] at q1 q2
 obtain⟨rh,rs⟩:=r
 dsimp only at q1 q2
 subst q1 q2
 have e35:(Fr 17 (putD t3 (some 35) (exD.val ⟨.slice ha exD.heats.length hcap,.slice sa exD.steps.length scap⟩)) []).eval (.tmp 35)=exD.val ⟨.slice ha exD.heats.length hcap,.slice sa exD.steps.length scap⟩:=eval_tmp (by simp [putD,s3])
 refine blind_go E Fz Arg W0 Q φ _ (c0 :: cs) W3 exD ha sa hcap scap hE3.sl _ ?_ ?_ fun φ1 W4 Fz1 v8 o4 hv8=>?_
 ·simp [Try.ntmps23]
 ·simp [e35]
 rw [blind_ex] at hv8 ⊢
 rw [Fr_finish rfl]
 dsimp only
 change GoM Try.prog true E Fz1 Arg W0 Q φ1 [] (Fr 17 (putD (putD t3 (some 35) _) (some 36) (.tuple #[v8,.bool true,num 0])) _) (c0 :: cs) W4
 have hE4:=hE3.oc o4
 have hv5:=hv5.oc o4
 have o4:=o3.trans o4
 clear o3 hE3 e35
 refine Gm.op (o:=⟨some 34,.move (.tmp 36),_,_,_,none⟩) (.tuple #[v8,.bool true,num 0]) W4 rfl rfl (by kernel_rfl) rfl (mv_run _ (eval_tmp (by simp [putD,s3]))) id ?_
 refine Gm.op (o:=⟨some 37,.extract (.tmp 34) 0,_,_,_,none⟩) v8 W4 rfl rfl (by kernel_rfl) rfl (ext0_run (v:=.bool true) (z:=num 0) _ (eval_tmp (by simp [putD,s3]))) id ?_
 refine Gm.op (o:=⟨some 38,.extract (.tmp 34) 1,_,_,_,none⟩) (.bool true) W4 rfl rfl (by kernel_rfl) rfl (ext1_run (u:=v8) (z:=num 0) _ (eval_tmp (by simp [putD,s3]))) id ?_
 refine Gm.op (o:=⟨some 39,.extract (.tmp 34) 2,_,_,_,none⟩) (num 0) W4 rfl rfl (by kernel_rfl) rfl (ext2_run (u:=v8) (v:=.bool true) _ (eval_tmp (by simp [putD,s3]))) id ?_
 refine Gm.op (o:=⟨some 8,.assign (.tmp 37),_,_,_,none⟩) v8 W4 rfl rfl (by kernel_rfl) rfl (as_run _ (eval_tmp (by simp [putD,s3]))) id ?_
 refine Gm.op (o:=⟨some 9,.assign (.tmp 38),_,_,_,none⟩) (.bool true) W4 rfl rfl (by kernel_rfl) rfl (as_run _ (eval_tmp (by simp [putD,s3]))) id ?_
 refine Gm.op (o:=⟨some 10,.assign (.tmp 39),_,_,_,none⟩) (num 0) W4 rfl rfl (by kernel_rfl) rfl (as_run _ (eval_tmp (by simp [putD,s3]))) id ?_
 refine Gm.regionEnd ?_
 generalize ht4:putD _ (some 10) (num 0)=t4
 have s4:t4.size=146:=by rw [← ht4];simp [putD,s3]
 have n1:t4[1]?=some (ptr p1):=by rw [← ht4];simp [putD,m1]
 have n2:t4[2]?=some (num 2):=by rw [← ht4];simp [putD,m2]
 have n3:t4[3]?=some (.bool true):=by rw [← ht4];simp [putD,m3]
 have n4:t4[4]?=some (num 0):=by rw [← ht4];simp [putD,m4]
 have n5:t4[5]?=some v5:=by rw [← ht4];simp [putD,m5]
 have n6:t4[6]?=some (.bool true):=by rw [← ht4];simp [putD,m6]
 have n7:t4[7]?=some (num 0):=by rw [← ht4];simp [putD,m7]
 have n8:t4[8]?=some v8:=by rw [← ht4];simp [putD,s3]
 have n9:t4[9]?=some (.bool true):=by rw [← ht4];simp [putD,s3]
 have n10:t4[10]?=some (num 0):=by rw [← ht4];simp [putD,s3]
 clear ht4 s3 m1 m2 m3 m4 m5 m6 m7
 generalize (⟨.slice ha exD.heats.length hcap,.slice sa exD.steps.length scap⟩:R2)=r at hE4
 refine Gm.seq ?_
 refine Gm.lone (F:=FW) (fun t5 W5=>∃ v11,(t5.size=146∧t5[1]?=some (ptr p1)∧t5[2]?=some (num 2)∧t5[3]?=some (.bool true)∧t5[4]?=some (num 0)∧t5[5]?=some v5∧t5[6]?=some (.bool true)∧t5[7]?=some (num 0)∧t5[8]?=some v8∧t5[9]?=some (.bool true)∧t5[10]?=some (num 0)∧t5[11]?=some v11∧t5[12]?=some (num 1)∧t5[13]?=some (.bool true)∧t5[14]?=some (num 0))∧OldC W4 W5∧Sl W5 v11 1 (([0,0,0]:List Int).map one)) rfl rfl trivial FW_ok (by kernel_rfl) (by kernel_rfl) (fun τ=>?_) ?_
 ·refine wpIn_mono (dr5 p1 v5 v8 r t4 s4 n1 n2 n3 n4 n5 n6 n7 n8 n9 n10 { W4 with tape:=τ } hE4.tape) ?_
  rintro e a w' ⟨k1,k2,v11,k3,k4,k5⟩
  exact⟨k1,k2,v11,k3,nx_tape k4,k5⟩
 rintro t5 W5 ⟨v11,⟨s5,m1,m2,m3,m4,m5,m6,m7,m8,m9,m10,m11,m12,m13,m14⟩,o5,hv11⟩
 have hE5:=hE4.oc o5
 have hv5:=hv5.oc o5
 have hv8:=hv8.oc o5
 have o5:=o4.trans o5
 clear o4 hE4 s4 n1 n2 n3 n4 n5 n6 n7 n8 n9 n10
 refine Gm.seq ?_
 refine Gm.lone (F:=FW) (fun t6 W6=>∃ pa pb,(t6.size=146∧t6[1]?=some (ptr p1)∧t6[2]?=some (num 2)∧t6[3]?=some (.bool true)∧t6[4]?=some (num 0)∧t6[5]?=some v5∧t6[6]?=some (.bool true)∧t6[7]?=some (num 0)∧t6[8]?=some v8∧t6[9]?=some (.bool true)∧t6[10]?=some (num 0)∧t6[11]?=some v11∧t6[12]?=some (num 1)∧t6[13]?=some (.bool true)∧t6[14]?=some (num 0)∧t6[15]?=some (ptr pa)∧t6[16]?=some (ptr pb)∧t6[17]?=some (num 0))∧OldC W5 W6∧W6.heap[pa]?=some (.cells #[num 720,num 825] 45 (0,0))∧W6.heap[pb]?=some (.cells #[num 20,num 20] 45 (0,0))) rfl rfl trivial FW_ok (by kernel_rfl) (by kernel_rfl) (fun τ=>?_) ?_
 ·refine wpIn_mono (dr6 p1 v5 v8 v11 r t5 s5 m1 m2 m3 m4 m5 m6 m7 m8 m9 m10 m11 m12 m13 m14 { W5 with tape:=τ } hE5.tape) ?_
  rintro e a w' ⟨k1,k2,pa,pb,k3,k4,k5,k6⟩
  exact⟨k1,k2,pa,pb,k3,nx_tape k4,k5,k6⟩
 rintro t6 W6 ⟨pa,pb,⟨s6,n1,n2,n3,n4,n5,n6,n7,n8,n9,n10,n11,n12,n13,n14,n15,n16,n17⟩,o6,ga,gb⟩
 have hE6:=hE5.oc o6
 have hv5:=hv5.oc o6
 have hv8:=hv8.oc o6
 have hv11:=hv11.oc o6
 have ca0:W6.cell? ⟨pa,0,none⟩=some (num 720):=row_cell ga rfl
 have ca1:W6.cell? ⟨pa,1,none⟩=some (num 825):=row_cell ga rfl
 have cb0:W6.cell? ⟨pb,0,none⟩=some (num 20):=row_cell gb rfl
 have cb1:W6.cell? ⟨pb,1,none⟩=some (num 20):=row_cell gb rfl
 have o6:=o5.trans o6
 clear o5 hE5 s5 m1 m2 m3 m4 m5 m6 m7 m8 m9 m10 m11 m12 m13 m14 ga gb
 refine Gm.seq ?_
 refine Gm.lone (F:=FW) (fun t7 W7=>∃ v18,(t7.size=146∧t7[1]?=some (ptr p1)∧t7[2]?=some (num 2)∧t7[3]?=some (.bool true)∧t7[4]?=some (num 0)∧t7[5]?=some v5∧t7[6]?=some (.bool true)∧t7[7]?=some (num 0)∧t7[8]?=some v8∧t7[9]?=some (.bool true)∧t7[10]?=some (num 0)∧t7[11]?=some v11∧t7[12]?=some (num 1)∧t7[13]?=some (.bool true)∧t7[14]?=some (num 0)∧t7[15]?=some (ptr pa)∧t7[16]?=some (ptr pb)∧t7[17]?=some (num 0)∧t7[18]?=some v18∧t7[19]?=some (num 0))∧OldC W6 W7∧Sl W7 v18 2 (L32.map spc)) rfl rfl trivial FW_ok (by kernel_rfl) (by kernel_rfl) (fun τ=>?_) ?_
 ·refine wpIn_mono (dr7 p1 pa pb v5 v8 v11 r t6 s6 n1 n2 n3 n4 n5 n6 n7 n8 n9 n10 n11 n12 n13 n14 n15 n16 n17 { W6 with tape:=τ } hE6.tape) ?_
  rintro e a w' ⟨k1,k2,v18,k3,k4,k5⟩
  exact⟨k1,k2,v18,k3,nx_tape k4,k5⟩
 rintro t7 W7 ⟨v18,⟨s7,m1,m2,m3,m4,m5,m6,m7,m8,m9,m10,m11,m12,m13,m14,m15,m16,m17,m18,m19⟩,o7,hv18⟩
 have hv5:=hv5.oc o7
 have hv8:=hv8.oc o7
 have hv11:=hv11.oc o7
 have ca0:=o7.at ca0
 have ca1:=o7.at ca1
 have cb0:=o7.at cb0
 have cb1:=o7.at cb1
 have o7:=o6.trans o7
 clear o6 hE6 s6 n1 n2 n3 n4 n5 n6 n7 n8 n9 n10 n11 n12 n13 n14 n15 n16 n17
 refine Gm.seq (Gm.seq ?_)
 refine Gm.lone (F:=FW) (fun t8 W8=>P8 t8 p1 pa pb v5 v8 v11 v18∧W8.heap=W7.heap) rfl rfl trivial FW_ok (by kernel_rfl) (by kernel_rfl) (fun τ=>?_) ?_
 ·refine wpIn_mono (dr8 p1 pa pb v5 v8 v11 v18 t7 s7 m1 m2 m3 m4 m5 m6 m7 m8 m9 m10 m11 m12 m13 m14 m15 m16 m17 m18 m19 { W7 with tape:=τ }) ?_
  rintro e a w' ⟨k1,k2,k3,rfl⟩
  exact⟨k1,k2,k3,rfl⟩
 rintro t8 W8 ⟨⟨s8,n1,n2,n3,n4,n5,n6,n7,n8,n9,n10,n11,n12,n13,n14,n15,n16,n17,n18,n19,n85⟩,hW8⟩
 have o8:=OldC.same hW8
 have hv5:=hv5.oc o8
 have hv8:=hv8.oc o8
 have hv11:=hv11.oc o8
 have hv18:=hv18.oc o8
 have ca0:=o8.at ca0
 have ca1:=o8.at ca1
 have cb0:=o8.at cb0
 have cb1:=o8.at cb1
 have o8:=o7.trans o8
 clear o7 hW8 s7 m1 m2 m3 m4 m5 m6 m7 m8 m9 m10 m11 m12 m13 m14 m15 m16 m17 m18 m19
 refine Gm.cond (b:=false) (eval_tmp n85) rfl ?_
 refine Gm.skip (Gm.seq ?_)
 obtain⟨a8,k8,rfl⟩:=sl_len3 hv8
 obtain⟨a11,k11,rfl⟩:=sl_len3 hv11
 obtain⟨a18,k18,rfl⟩:=sl_len3 hv18
 obtain⟨vs,hvs,hlen,hel⟩:=hv5
 rw [ex_safe2] at hlen
 obtain⟨b5,o5,k5,rfl,u,cu,hu⟩:∃ b5 o5 k5,v5=.slice (some ⟨b5,o5,none⟩) 4 k5∧∃ u,W8.cell? ⟨b5,o5+2,none⟩=some u∧Sl W8 u 3 (L46.map St.cells):=by
  obtain⟨cap,⟨h1,_⟩ | ⟨b,off,rfl,_,hc⟩⟩:=hvs
  ·have:vs=[]:=by simpa using h1
   rw [this] at hlen;cases hlen
  ·refine⟨b,off,cap,by rw [List.length_map,hlen],?_⟩
   have hu2:vs[2]?=some (vs[2]'(by omega)):=List.getElem?_eq_getElem _
   refine⟨_,?_,hel 2 _ L46 hu2 ex_safe3⟩
   have:=hc 2 0 [vs[2]'(by omega)] _ (by rw [List.getElem?_map,hu2];rfl) rfl
   exact this
 obtain⟨ua,uc,rfl⟩:=sl_len3 hu
 refine Gm.lone (F:=FW) (fun t9 W9=>t9[0]?=some (.bool true)∧OldC W8 W9) rfl rfl trivial FW_ok (by kernel_rfl) (by kernel_rfl) (fun τ=>?_) ?_
 ·refine wpIn_mono (dr10 pa pb b5 o5 k5 k8 k11 k18 a8 a11 a18 t8 ⟨s8,n2,n3,n5,n6,n8,n9,n11,n12,n13,n15,n16,n18⟩ { W8 with tape:=τ } uc ua cu (hu.oc (OldC.same rfl)) (hv8.oc (OldC.same rfl)) (hv11.oc (OldC.same rfl)) (hv18.oc (OldC.same rfl)) ca0 ca1 cb0 cb1) ?_
  rintro e a w' ⟨k1,k2,k3,k4⟩
  exact⟨k1,k2,k3,nx_tape k4⟩
 rintro t9 W9 ⟨h0,o9⟩
 refine Gm.ret Try.func17 (results17 (.bool true) t9 h0) ?_
 exact hcont φ1 W9 Fz1 (o8.trans o9)
end Go.Proofs.Ytedomogjmhommaa
namespace Go.Proofs.Ytedomogjmhommaa
open Go.RowKit Go.Con Go.Conc
local instance dryI88:Lone:=dryL
theorem wanted_guard {ops:Array Oper} {o:Oper} {i d:Nat} {b:Bool} {t:Array Value} (hg:o.guard=some (i,b)) (hd:(ops[i]?).bind (·.dst)=some d) (hv:t[d]?=some (.bool b)):Region.wanted o (yielded ops t)=true:=by
 unfold Region.wanted yielded
 simp [hg,hd,hv]
section
variable {dst:Option Nat} {ty:TypeId} {pos:String} {af:Array Edge} {gd:Option (Nat×Bool)} {x y:Nat}
theorem pick_run (e:Operand→Value) {w:World} {v c:Value} (h:e (.tmp x)=.bool true) (h2:e (.tmp y)=v) (τ:Tape):(execOp e ⟨dst,.pick (.tmp x) (.tmp y) (.const c),ty,pos,af,gd⟩).run Try.prog { w with tape:=τ }=.ok (.value v) { w with tape:=τ }:=by
 simp [execOp,go_sem,h,h2]
theorem eq30_run (e:Operand→Value) {w:World} {n:Int} (h:e (.tmp x)=num n) (h2:e (.tmp y)=num n) (τ:Tape):(execOp e ⟨dst,.binOp .eql 30 (.tmp x) (.tmp y) 30,ty,pos,af,gd⟩).run Try.prog { w with tape:=τ }=.ok (.value (.bool true)) { w with tape:=τ }:=by
 simp [execOp,go_sem,h,h2]
end
theorem body17_of:Try.f17.body=some b17:=by kernel_rfl
theorem one_back {g:Nat} {args:Array Value} {W:World} {v:Value} {τ:Tape} (h:CallsIn FW 0 Try.prog g args { W with tape:=τ } fun e w'=>e=.returned v∧Nx { W with tape:=τ } w') :
  CallsIn FW 0 Try.prog g args { W with tape:=τ } fun e w'=>match e with | .returned u=>(u=v∧OldC W w') | _=>False:=by
 refine h.mono ?_
 rintro e w' ⟨rfl,n⟩
 exact⟨rfl,nx_tape n⟩
end Go.Proofs.Ytedomogjmhommaa
