import Derived.Test.YtedomogjmhommaaC08
import Derived.Test.YtedomogjmhommaaC02
import Derived.Maps.RangeWalk
import Derived.Sort.Statements
set_option linter.all false
set_option maxRecDepth 100000
set_option maxHeartbeats 8000000
namespace Go.Proofs.Ytedomogjmhommaa
open Go.RowKit
theorem bset {B:Nat} {a w' : World} (h:Below B a w') {b i:Nat} {v:Value} (hb:B≤b):Below B a (w'.setCell ⟨b,i,none⟩ v):=h.setCell (by exact hb) _
theorem followS_len' (d:Dry) (s:St) (hs aa:List Int) (h:aa.length=hs.length):(followS d s hs aa).length=hs.length:=followS_len d s hs aa h.symm
theorem follow44_any (d:Dry) (r:R2) (u1 u2:Value) (plan air:List Int) (w:World) (hd:DrySl w d r) (h1:Sl w u1 1 (plan.map one)) (h2:Sl w u2 1 (air.map one)) (hl1:plan.length≤1000000000) (hl2:air.length≤1000000000) :
  CallsIn FW 0 Try.prog 44 #[d.val r,u1,u2] w fun e w'=>∃ v,e=.returned (.tuple #[v,num (followF d plan air).2])∧Nx w w'∧StRow w' w.heap.size v (followF d plan air).1:=by
 have k70b:=fun (h:dryF d≠0) (w1:World) (n:Nx w w1)=>planned_bad d r u1 w1 (hd.nx n) h
 have k70:=fun (h:dryF d=0) (w1:World) (n:Nx w w1)=>planned_ok d r u1 plan w1 (hd.nx n) h (h1.nx n) hl1
 obtain⟨a1,cap1,rfl⟩:=h1.cases
 obtain⟨a2,cap2,rfl⟩:=h2.cases
 have HD:=Lib.hid hd
 have H1:=Lib.hid h1
 have H2:=Lib.hid h2
 obtain⟨rh,rs⟩:=r
 obtain⟨ha,hcap,hrs⟩:=hd.heats.cases
 dsimp only at hrs
 subst hrs
 obtain⟨sa,scap,hrs⟩:=hd.steps.cases
 dsimp only at hrs
 subst hrs
 rw [List.length_map,List.length_map] at *
 rw [List.length_map,List.length_map] at *
 clear hd h1 h2
 obtain⟨g,hg⟩:∃ g,followF d plan air=g:=⟨_,rfl⟩
 rw [hg]
 have HG:=Lib.hid hg
 clear hg
 gi_enter Try.func44,Try.ntmps44
 gi_upto_region 1 with fail
 generalize hW:w.alloc _=W
 obtain⟨nW,hbW⟩:=DBox.of (d:=d) (r:=⟨_,_⟩) hW
 clear hW
 generalize hA:w.heap.size=A at *
 have c0:=hbW.at' 0 _ rfl
 have c1:=hbW.at' 1 _ rfl
 have c2:=hbW.at' 2 _ rfl
 have c3:=hbW.at' 3 _ rfl
 have c4:=hbW.at' 4 _ rfl
 have c5:=hbW.at' 5 _ rfl
 have c6:=hbW.at' 6 _ rfl
 by_cases q0:dryF d=0
 case neg =>
  have HR:Hid (g=([],dryF d)):=by
   have e:planF d plan=dryF d:=by unfold planF;rw [if_pos q0]
   show _=_;rw [← HG.out];unfold followF;rw [e,if_pos q0]
  have b1:(dryF d == 0)=false:=beq_false_of_ne q0
  have k70b:=k70b q0
  clear k70
  generalize dryF d=f at *
  gi_wp2_with (first | (gi_at_call 70;refine CallsIn.mono (k70b _ nW) ?_;rintro e w2 ⟨rfl,n2⟩) | gi_in)
  go_ret2
  exact⟨_,by rw [HR.out]<;>rfl,nW.trans n2,by rw [HR.out];exact World.ownsRow_nil ..⟩
 case pos =>
 have hpf:planF d plan=plF d plan:=by unfold planF;rw [if_neg (by simpa using q0)]
 have k70:=k70 q0
 clear k70b
 by_cases q1:plF d plan=0
 case neg =>
  have HR:Hid (g=([],plF d plan)):=by show _=_;rw [← HG.out];unfold followF;rw [hpf,if_pos q1]
  have b1:(plF d plan == 0)=false:=beq_false_of_ne q1
  generalize plF d plan=f at *
  gi_wp2_with (first | (gi_at_call 70;refine CallsIn.mono (k70 _ nW) ?_;rintro e w2 ⟨B,rfl,n2,hS⟩) | gi_in)
  go_ret2
  exact⟨_,by rw [HR.out]<;>rfl,nW.trans n2,by rw [HR.out];exact World.ownsRow_nil ..⟩
 case pos =>
 have q1' : planF d plan=0:=hpf.trans q1
 obtain⟨hO,hpl,hpin⟩:=planF_ok q1'
 have HL2:=Lib.hid hpl
 have HIN:=Lib.hid hpin
 clear hpl hpin
 have HG1:Hid (g=if airF d air≠0 then ([],airF d air) else (followS d d.start plan air,0)):=by show _=_;rw [← HG.out];unfold followF;rw [if_neg (by simpa using q1')]
 rw [q1] at k70
 gi_upto_region 2 with (first | (gi_at_call 70;refine CallsIn.mono (k70 _ nW) ?_;rintro e w2 ⟨B,rfl,n2,hS⟩) | gi_in)
 have nw2:=nW.trans n2
 have hb2:=hbW.nx n2
 clear c0 c1 c2 c3 c4 c5 c6 q1 hpf
 by_cases hlen:air.length=plan.length
 case neg =>
  have hq:airF d air=2:=by have:=HL2.out;unfold airF;rw [if_pos (by omega)]
  have HR:Hid (g=([],2)):=by show _=_;rw [HG1.out,hq];rfl
  have b1:((air.length:Int) != (plan.length:Int))=true:=by simp;omega
  gi_wp2
  go_ret2
  exact⟨_,by rw [HR.out]<;>rfl,nw2,by rw [HR.out];exact World.ownsRow_nil ..⟩
 case pos =>
 have b1:((air.length:Int) != (plan.length:Int))=false:=by simp [hlen]
 have HP1:Hid ((air.zip d.steps).all inR=false→g=([],1)):=fun h=>by
  have hq:airF d air=1:=by have:=HL2.out;unfold airF;rw [if_neg (by omega),if_pos h]
  rw [HG1.out,hq];rfl
 have HP2:Hid ((air.zip d.steps).all inR=true→g=(followS d d.start plan air,0)∧PA d plan air):=fun h=>by
  have hq:airF d air=0:=by have:=HL2.out;unfold airF;rw [if_neg (by omega),if_neg (by rw [h];decide)]
  exact⟨by rw [HG1.out,hq];rfl,pa_of q1' hq⟩
 have HL:=Lib.hid hlen
 have HO:=Lib.hid hO
 have hsO:=stF_ok.1 hO.start
 clear hlen q1' q0
 have c3:=hb2.at' 3 _ rfl
 have c4:=hb2.at' 4 _ rfl
 have c5:=hb2.at' 5 _ rfl
 gi_upto_region 7 with fail
 generalize hV:w2.alloc _=V
 obtain⟨nV,sV,g0⟩:=al1 hV
 clear hV c3 c4 c5
 have nwV:=nw2.trans nV
 have hSV:=hS.nx nV
 have hAw:A≤w2.heap.size:=by have:=nw2.size;omega
 generalize hX:w2.heap.size=X at *
 gi_wp2
 clear b1
 have hB2V:Below X w2 V:=by rw [← hX];exact nV
 have g00:V.heap[X]?=some (.cells (stAt d d.start plan air 0).cells.toArray 24 (0,0)):=by
  rw [g0]
  cases plan<;>cases air<;>rfl
 gi_loopw [6,33] (fun v i wr=>∃ k:Nat,k≤air.length∧i=num k∧wr.ownsRow (X+1) 24 3 v k (((followS d d.start plan air).take k).map St.cells).flatten∧wr.heap[X]?=some (.cells (stAt d d.start plan air k).cells.toArray 24 (0,0))∧Nx w wr∧X<wr.heap.size∧((air.zip d.steps).take k).all inR=true∧(stAt d d.start plan air k).Ok d.heats.length∧Below X w2 wr) (fun _ i _=>air.length-(intOf i).toNat)
 case atStart=>exact⟨0,Nat.zero_le _,rfl,World.ownsRow_nil ..,g00,nwV,by omega,rfl,by cases plan<;>cases air<;>exact hsO,hB2V⟩
 case round =>
  obtain⟨k,hk,rfl,hown,gX,nr,hXl,hall,hok,hB2⟩:=hrel
  have hSr:StoveAt wr B d:=hS.nx (by rw [Nx,hX];exact hB2)
  by_cases hlt:k<air.length
  ·obtain⟨b,off,rfl,hbl,hcl⟩:=(H1.out).get (by simp;have:=HL.out;omega)
   obtain⟨b',off',rfl,hbl',hcl'⟩:=(H2.out).get (by simp;omega)
   have hkp:k<plan.length:=by have:=HL.out;omega
   have hkl:k<d.steps.length:=by have:=HL2.out;omega
   have hh:plan[k]?=some plan[k]:=List.getElem?_eq_getElem hkp
   generalize plan[k]=h at hh
   have ha:air[k]?=some air[k]:=List.getElem?_eq_getElem hlt
   have hx:d.steps[k]?=some d.steps[k]:=List.getElem?_eq_getElem hkl
   have hz:(air.zip d.steps)[k]?=some (air[k],d.steps[k]):=by rw [List.getElem?_eq_getElem (by simp;omega)];simp
   generalize air[k]=a at ha hz
   generalize d.steps[k]=x at hx hz
   have hstx:=(HO.out.st x (List.mem_of_getElem? hx)).1
   have HF:=Lib.hid (all_stop (p:=inR) hz)
   have HA:=Lib.hid (all_go hz hall)
   have e0:=Sl.at1 hcl nr hbl hh
   have f0:=Sl.at1 hcl' nr hbl' ha
   obtain⟨v7,c7,hsl⟩:=hSr.stages
   obtain⟨sa7,cap7,rfl⟩:=hsl.cases
   rw [List.length_map] at c7 hsl
   obtain⟨b3,off3,rfl,hbl3,hcl3⟩:=hsl.get (by simp;omega)
   have z0:wr.cell? ⟨b3,off3+k * 7,none⟩=some (num x.lo):=Sl.at hcl3 (Nx.refl wr) hbl3 hx 0 (v:=num x.lo) rfl
   have z1:wr.cell? ⟨b3,off3+k * 7+1,none⟩=some (num x.hi):=Sl.at hcl3 (Nx.refl wr) hbl3 hx 1 (v:=num x.hi) rfl
   have bh:=HIN.out _ (List.mem_of_getElem? hh)
   have hsu:=stAt_succ d d.start plan air k h a hh ha
   have htk:=Lib.hid (followS_take d d.start plan air k h a hh ha)
   have hhv:d.heats[h.toNat]?=some (heatAt d h.toNat):=by
    have:h.toNat<d.heats.length:=by omega
    unfold heatAt
    rw [List.getElem?_eq_getElem this]
    rfl
   have k61:=fun (ba:0≤a∧a≤3) (w1:World) (n1:Nx wr w1)=>next_any d B (stAt d d.start plan air k) h.toNat _ a w1 (hSr.nx n1) HO.out hhv hok ba
   rw [show ((h.toNat:Nat):Int)=h by omega,← hsu] at k61
   have hok':=Lib.hid (fun (ba:0≤a∧a≤3)=>next_ok HO.out (List.mem_of_getElem? hhv) hok bh ba.1)
   rw [← hsu] at hok'
   have k55:=fun (w1:World)=>between_any a x.lo x.hi w1
   clear hcl hcl' hcl3 hh ha hx hz hall hsu hhv hok hsl
   have HS:=Lib.hid hSr
   clear hSr
   generalize stAt d d.start plan air k=s at *
   generalize hs' : stAt d d.start plan air (k+1)=s' at *
   gi_upto_region 11 with fail
   generalize hYn:wr.alloc _=Y
   obtain⟨nY,sY,gY⟩:=al1 hYn
   clear hYn z0 z1 c7
   have y0:Y.cell? ⟨wr.heap.size,0,none⟩=some (num x.lo):=row_cell gY rfl
   have y1:Y.cell? ⟨wr.heap.size,1,none⟩=some (num x.hi):=row_cell gY rfl
   by_cases hin:x.lo≤a∧a≤x.hi
   case neg =>
    have HR:=Lib.hid (HP1.out (HF.out (by unfold inR;exact decide_eq_false hin)))
    have b2:=decide_eq_false hin
    clear hin
    gi_wp2_with (first | ((gi_at_call 55;refine CallsIn.mono (by (with_reducible exact k55 _)) ?_;rintro e w1 ⟨rfl,hw1⟩;replace hw1:=hw1.symm;subst hw1)) | gi_in)
    go_ret2
    exact⟨_,by rw [HR.out]<;>rfl,nr.trans nY,by rw [HR.out];exact World.ownsRow_nil ..⟩
   case pos =>
    have HAL:=Lib.hid (HA.out (by unfold inR;exact decide_eq_true hin))
    have b2:=decide_eq_true hin
    have ba:0≤a∧a≤3:=by omega
    have k61:=k61 ba
    have hok2:=Lib.hid (hok'.out ba)
    clear hin hok'
    gi_upto_region 13 with (first | ((gi_at_call 55;refine CallsIn.mono (by (with_reducible exact k55 _)) ?_;rintro e w1 ⟨rfl,hw1⟩;replace hw1:=hw1.symm;subst hw1)) | gi_in)
    have gX:=(nY.block X hXl).trans gX
    have hXY:X<Y.heap.size:=Nat.lt_of_lt_of_le hXl nY.size
    have hownY:=own_nx hown nY
    have e0:=(Kc.nx nY).cell e0
    have nrY:=nr.trans nY
    have s0:Y.cell? ⟨X,0,none⟩=some (num s.w):=row_cell gX rfl
    have s1:Y.cell? ⟨X,1,none⟩=some (num s.c):=row_cell gX rfl
    have s2:Y.cell? ⟨X,2,none⟩=some (num s.h):=row_cell gX rfl
    clear y0 y1 gY sY f0
    refine wpIn_region_tail 7 rfl (by kernel_rfl) (by kernel_rfl) ?_
    simp only [List.take_succ_cons,List.take_zero,List.drop_succ_cons,List.drop_zero]
    repeat (gi_big_quiet_step (fail))
    refine wpQuietIn_nil ?_
    rintro w' ⟨nq,rfl⟩
    have nq4:Nx Y (Y.drewN nq):=(Nx.refl Y).drewN nq
    generalize Y.drewN nq=w4 at nq4 ⊢
    have k61:=k61 w4 (nY.trans nq4)
    have hX4:X<w4.heap.size:=Nat.lt_of_lt_of_le hXY nq4.size
    have g4:=(nq4.block X hXY).trans gX
    have hown4:=own_nx hownY nq4
    have hlen:((followS d d.start plan air).take k).length=k:=by rw [List.length_take,followS_len' d d.start plan air HL.out];have:=HL.out;omega
    clear s0 s1 s2 e0
    gi_upto_region 14 with (first | (gi_at_call 61;refine CallsIn.mono k61 ?_;rintro e w5 ⟨rfl,n5⟩;have g5:=(n5.block X hX4).trans g4;have y0:=row_cell (i:=0) g5 rfl;have y1:=row_cell (i:=1) g5 rfl;have y2:=row_cell (i:=2) g5 rfl;have z0:=row_frozen (i:=0) g5;have z1:=row_frozen (i:=1) g5;have z2:=row_frozen (i:=2) g5) | gi_in)
    have gV:=set3 (v0:=num s'.w) (v1:=num s'.c) (v2:=num s'.h) g5
    have oth:∀ b,b≠X→(((w5.setCell ⟨X,0,none⟩ (num s'.w)).setCell ⟨X,1,none⟩ (num s'.c)).setCell ⟨X,2,none⟩ (num s'.h)).heap[b]?=w5.heap[b]?:=fun b hb=>(set_other hb).trans ((set_other hb).trans (set_other hb))
    have sV:(((w5.setCell ⟨X,0,none⟩ (num s'.w)).setCell ⟨X,1,none⟩ (num s'.c)).setCell ⟨X,2,none⟩ (num s'.h)).heap.size=w5.heap.size:=by rw [set_size,set_size,set_size]
    have nV' : Nx w (((w5.setCell ⟨X,0,none⟩ (num s'.w)).setCell ⟨X,1,none⟩ (num s'.c)).setCell ⟨X,2,none⟩ (num s'.h)):=by
     repeat (refine Nx.set ?_ (by omega))
     exact nrY.trans (nq4.trans n5)
    have nB:Below X w2 (((w5.setCell ⟨X,0,none⟩ (num s'.w)).setCell ⟨X,1,none⟩ (num s'.c)).setCell ⟨X,2,none⟩ (num s'.h)):=by
     refine bset (bset (bset ?_ (Nat.le_refl _)) (Nat.le_refl _)) (Nat.le_refl _)
     exact hB2.trans (Below.mono (nY.trans (nq4.trans n5)) (show X≤wr.heap.size by omega))
    generalize ((w5.setCell ⟨X,0,none⟩ (num s'.w)).setCell ⟨X,1,none⟩ (num s'.c)).setCell ⟨X,2,none⟩ (num s'.h)=V5 at gV oth sV nV' nB ⊢
    have hownV:=own_keep (w':=V5) (own_nx hown4 n5) (fun g hg=>oth g (by have:=(hown.lt g hg).1;omega))
    have v0:V5.cell? ⟨X,0,none⟩=some (num s'.w):=row_cell gV rfl
    have v1:V5.cell? ⟨X,1,none⟩=some (num s'.c):=row_cell gV rfl
    have v2:V5.cell? ⟨X,2,none⟩=some (num s'.h):=row_cell gV rfl
    have hVX:X<V5.heap.size:=by have:=n5.size;omega
    clear y0 y1 y2 z0 z1 z2 g4 g5 gX sV
    gi_wp2_with (first | (gi_at_builtin;refine wpListIn_more T69 rfl _ _ rfl rfl (X+1) _ k (((followS d d.start plan air).take k).map St.cells) rfl (own_alloc hownV _) (by rw [List.length_map];exact hlen) V5.heap.size s'.cells rfl row_new rfl (by simp [Value.oneCell']) (by omega) (by omega) (by simp;omega) ?_;intro v' w7 hown7 hg7 hat7) | gi_in)
    have hrow:∀ g,u6.ownBlock=some g→X+1≤g:=fun g hg=>(hown.lt g hg).1
    have gX7:=(hg7.block X (by simp;omega) (fun e=>by have:=hrow X e.symm;omega)).trans ((row_old hVX).trans gV)
    have n7:Nx w w7:=Below.grown (alloc_nx nV' _) hg7 (alloc_nx nV' _).size (fun g hg=>by have:=hrow g hg;omega)
    have hX7:X<w7.heap.size:=lt_row gX7
    have e1:((followS d d.start plan air).take k).map St.cells++[s'.cells]=((followS d d.start plan air).take (k+1)).map St.cells:=by rw [htk.out,List.map_append];rfl
    rw [e1] at hown7
    have hB7:Below X w2 w7:=Below.grown (nB.alloc (by omega) _) hg7 (by simp;omega) (fun g hg=>by have:=hrow g hg;omega)
    exact⟨⟨k+1,hlt,by simp,hown7,by rw [hs'];exact gX7,n7,hX7,HAL.out,by rw [hs'];exact hok2.out,hB7⟩,by simp [intOf];omega⟩
  ·obtain rfl:k=air.length:=by omega
   have hz:(air.zip d.steps).take air.length=air.zip d.steps:=List.take_of_length_le (by simp;omega)
   rw [hz] at hall
   obtain⟨hg1,hPA⟩:=HP2.out hall
   have hfl:=followS_len d d.start plan air hPA.len
   have hfull:(followS d d.start plan air).take air.length=followS d d.start plan air:=List.take_of_length_le (by rw [hfl];have:=HL.out;omega)
   rw [hfull] at hown
   have hown:=Lib.hid hown
   have HR:=Lib.hid hg1
   have HF:=Lib.hid hfl
   clear hall hz hg1 hPA hfl hfull
   gi_wp2
   go_ret2
   refine⟨_,by rw [HR.out]<;>rfl,nr,?_⟩
   rw [HR.out]
   unfold StRow
   dsimp only
   rw [HF.out,← HL.out]
   exact own_base hown.out (by omega)
end Go.Proofs.Ytedomogjmhommaa
namespace Go.Proofs.Ytedomogjmhommaa
open Go.RowKit
def orF:List Int→Int
 | []=>0
 | x :: xs=>if x≠0 then x else orF xs
theorem orF_at {xs:List Int} {k:Nat} {x:Int} (h:xs[k]?=some x):orF (xs.drop k)=if x≠0 then x else orF (xs.drop (k+1)):=by
 have h1:=(List.getElem?_eq_some_iff.1 h).1
 rw [List.drop_eq_getElem_cons h1]
 rw [List.getElem?_eq_getElem h1,Option.some.injEq] at h
 rw [h]
 rfl
theorem sl_new3 {W:World} {b:Nat} {x1 x2 x3:Int} (hb:b=W.heap.size):Sl (W.alloc (.cells #[num x1,num x2,num x3] 3)) (.slice (some ⟨b,0,none⟩) 3 3) 1 ([x1,x2,x3].map one):=by
 have g:(W.alloc (.cells #[num x1,num x2,num x3] 3)).heap[b]?=some (.cells #[num x1,num x2,num x3] 3):=by rw [hb];exact row_new
 refine⟨3,.inr ⟨b,0,rfl,lt_row g,fun j k l x hj hk=>?_⟩⟩
 refine row_cell g ?_
 rw [List.getElem?_map] at hj
 match j,hj with
 | 0,hj=>cases hj;match k,hk with
  | 0,hk=>cases hk;rfl
 | 1,hj=>cases hj;match k,hk with
  | 0,hk=>cases hk;rfl
 | 2,hj=>cases hj;match k,hk with
  | 0,hk=>cases hk;rfl
def orderS (a b:St):Int:=orF [a.w-b.w,a.c-b.c,a.h-b.h]
def beforeS (a b:St):Bool:=if a.w≠b.w then decide (a.w<b.w) else if a.c≠b.c then decide (a.c<b.c) else decide (a.h<b.h)
theorem order_before (a b:St):decide (orderS a b<0)=beforeS a b:=by
 unfold orderS beforeS orF
 by_cases h1:a.w=b.w
 ·by_cases h2:a.c=b.c
  ·simp [h1,h2,orF]
   split<;>omega
  ·have:¬ a.c-b.c=0:=by omega
   simp [h1,h2,orF,this]
   omega
 ·have:¬ a.w-b.w=0:=by omega
  simp [h1,this]
  omega
end Go.Proofs.Ytedomogjmhommaa
namespace Go.Proofs.Ytedomogjmhommaa
open Go.RowKit Go.WideMaps
theorem inv3 {v:Value} {ls:List Lit} {d:Nat} (h:Try.prog.keyLits (d+1) 3 [v]=some ls):∃ n,v=num n∧I64 n:=by
 unfold Program.keyLits at h
 rw [Try.underlying3] at h
 cases v<;>simp at h
 obtain⟨⟨rfl,hw⟩,_⟩:=h
 refine⟨_,rfl,?_⟩
 have e1:IntKind.i64.min=-9223372036854775808:=rfl
 have e2:IntKind.i64.max=9223372036854775807:=rfl
 simp [Lit.wf,e1,e2] at hw
 unfold I64
 omega
theorem inv24 {v:Value} {l:Lit} (h:keyOf Try.prog 24 v=some l):∃ s:St,v=s.val∧StI s:=by
 obtain⟨n,hn⟩:=size3
 unfold keyOf at h
 rw [Try.underlying24,hn] at h
 simp only [keyType24,Bool.true_and] at h
 split at h
 case isFalse=>cases h
 rename_i hf
 cases v<;>simp [Value.formed,Try.underlying24,cells24] at hf
 rename_i cs
 obtain⟨cs⟩:=cs
 match cs,hf with
 | [a,b,c],_ =>
 rw [show (Value.agg ⟨[a,b,c]⟩).cells.toList=[a,b,c] from rfl] at h
 unfold Program.keyLits at h
 rw [Try.underlying24] at h
 cases ha:Try.prog.keyLits (n+2) 3 [a] with
 | none=>simp [cells24,cells3,ha] at h
 | some la =>
 cases hb:Try.prog.keyLits (n+2) 3 [b] with
 | none=>simp [cells24,cells3,ha,hb] at h
 | some lb =>
 cases hc:Try.prog.keyLits (n+2) 3 [c] with
 | none=>simp [cells24,cells3,ha,hb,hc] at h
 | some lc =>
 obtain⟨x,rfl,hx⟩:=inv3 (d:=n+1) ha
 obtain⟨y,rfl,hy⟩:=inv3 (d:=n+1) hb
 obtain⟨z,rfl,hz⟩:=inv3 (d:=n+1) hc
 exact⟨⟨x,y,z⟩,rfl,hx,hy,hz⟩
theorem val_inj {s t:St} (h:s.val=t.val):s=t:=by
 cases s
 cases t
 simp only [Value.agg.injEq,Array.mk.injEq,List.cons.injEq,Value.int.injEq,true_and,and_true] at h
 simp [h]
def IsSet (D:DataW Unit) (X:St→Prop):Prop:=Maps.IsMap D∧(∀ s l,keyOf Try.prog 24 s.val=some l→(Maps.has D l=true↔X s))∧(∀ s,X s→StI s)∧∀ s l zd,keyOf Try.prog 24 s.val=some l→X s→D.atKey l zd=.lit (.bool true)
def SetM (w:World) (b n:Nat) (X:St→Prop):Prop:=∃ D:DataW Unit,w.ownsMap Try.prog 24 (plainElem Try.prog 4) b n D∧IsSet D X
theorem setM_new {w:World} {b:Nat} (h:w.heap[b]?=some (.map #[] 0)):SetM w b 0 (fun _=>False) :=
 ⟨.map [],⟨#[],0,h,⟨by simp,MapKept.stamped_empty 0,by simp⟩,Nat.le_refl _,rfl⟩,⟨⟨_,rfl⟩,fun s l _=>by simp [Maps.has],fun _ h=>h.elim,fun _ _ _ _ h=>h.elim⟩⟩
theorem SetM.kept {w w' : World} {b n:Nat} {X:St→Prop} {row:Option Nat} (h:SetM w b n X) (hg:w.grownBy w' row) (hne:some b≠row):SetM w' b n X:=by
 obtain⟨D,h1,h2⟩:=h
 exact⟨D,h1.kept hg hne,h2⟩
theorem isSet_put {D:DataW Unit} {X:St→Prop} (h:IsSet D X) {s:St} {l:Lit} (hl:keyOf Try.prog 24 s.val=some l):IsSet (D.put l (.lit (.bool true))) (fun t=>X t∨t=s):=by
 obtain⟨h1,h2,h3,h4⟩:=h
 have same:∀ (t:St) (l' : Lit),keyOf Try.prog 24 t.val=some l'→l'=l→t=s:=fun t l' ht e=>val_inj (K24.inj (e ▸ ht) hl)
 refine⟨?_,fun t l' ht=>?_,fun t ht=>?_,fun t l' zd ht hX=>?_⟩
 ·obtain⟨es,rfl⟩:=h1
  exact⟨_,rfl⟩
 ·by_cases e:l'=l
  ·subst e
   have:=same t _ ht rfl
   subst this
   simp [Maps.has_put_same h1 (K24.key hl)]
  ·rw [Maps.has_put_other e,h2 t l' ht]
   constructor
   ·exact .inl
   ·rintro (h | rfl)
    ·exact h
    ·rw [ht] at hl;exact absurd (Option.some.inj hl) e
 ·rcases ht with ht | rfl
  ·exact h3 t ht
  ·obtain⟨s',e,hs'⟩:=inv24 hl
   rw [val_inj e]
   exact hs'
 ·by_cases e:l'=l
  ·subst e
   exact Maps.atKey_put_same h1 (K24.key hl) _ _
  ·rw [Maps.atKey_put_other e]
   rcases hX with hX | rfl
   ·exact h4 t l' zd ht hX
   ·rw [ht] at hl;exact absurd (Option.some.inj hl) e
def RgS (w:World) (b r n:Nat) (X:St→Prop) (xs:List St) (cnt:Nat):Prop:=∃ (D:DataW Unit) (left:Lit→Bool),w.ranges Try.prog 24 (plainElem Try.prog 4) b r n D left cnt∧IsSet D X ∧
 ∀ s l,keyOf Try.prog 24 s.val=some l→(left l=true↔X s∧s∉xs)
theorem RgS.left_eq {w:World} {b r n:Nat} {X:St→Prop} {xs:List St} {cnt:Nat} (h:RgS w b r n X xs cnt):w.rangeLeft b r=cnt:=by
 obtain⟨D,left,h1,_⟩:=h
 exact h1.left_eq
theorem RgS.kept {w w' : World} {b r n:Nat} {X:St→Prop} {xs:List St} {cnt:Nat} {row:Option Nat} (h:RgS w b r n X xs cnt) (hg:w.grownBy w' row) (h1:some b≠row) (h2:some r≠row):RgS w' b r n X xs cnt:=by
 obtain⟨D,left,k1,k2,k3⟩:=h
 exact⟨D,left,k1.kept hg h1 h2,k2,k3⟩
theorem RgS.lt {w:World} {b r n:Nat} {X:St→Prop} {xs:List St} {cnt:Nat} (h:RgS w b r n X xs cnt):r<w.heap.size:=by
 obtain⟨D,left,h1,_⟩:=h
 exact h1.lt
section
variable {F:Fence} {nF:Nat} {w:World} {ops:Array Oper} {rest:List Oper} {o:Oper} {a:Act} {Q:Exit→Act→World→Prop}
theorem wpListIn_rangeS (hg:o.guard=none) (m:Operand) (t:TypeId) (hop:o.op=Op.range t m) (ht:Try.prog.underlying t=some (.map 24 4)) (b n:Nat) (X:St→Prop) (hm:a.eval m=.map (some b)) (h:SetM w b n X)
  (hK:∀ w',RgS w' b w.heap.size n X [] (w'.rangeLeft b w.heap.size)→Nx w w'→w'.heap.size=w.heap.size+1→w'.rangeLeft b w.heap.size≤n→wpListIn F nF Try.prog ops Q rest (a.put o.dst (.pointer (some ⟨w.heap.size,0,none⟩))) w'):wpListIn F nF Try.prog ops Q (o :: rest) a w:=by
 refine wpListIn_plain hg fun K' hK'=>?_
 obtain⟨D,hown,hset⟩:=h
 obtain⟨w',hrun,r1,r2,r3⟩:=hown.range K24 ht
 unfold Oper.wpIn
 refine⟨by simp [Oper.about,hop],?_⟩
 rw [Oper.semAt_plain F _ _ (by rw [hop];intro c hc';cases hc')]
 simp [execOp,hop,hm,hrun,Result.andThen]
 refine hK' _ _ (hK w' ⟨D,Maps.has D,by rw [r1.left_eq];exact r1,hset,fun s l hl=>?_⟩ ⟨r2.os,r2.tape,r2.output,r2.size,fun i hi=>r2.block i hi (by simp)⟩ r3 (by rw [r1.left_eq];exact hown.size_le))
 rw [hset.2.1 s l hl]
 simp
theorem wpListIn_nextS (hg:o.guard=none) (it:Operand) (hop:o.op=Op.next it false) (b r n:Nat) (X:St→Prop) (xs:List St) (cnt:Nat) (hit:a.eval it=.pointer (some ⟨r,0,none⟩)) (h:RgS w b r n X xs cnt)
  (hDone:(∀ s,X s→s∈xs)→wpListIn F nF Try.prog ops Q rest (a.put o.dst (.tuple #[.bool false])) w)
  (hMore:∀ (s:St) (v:Value) (w' : World) (cnt' : Nat),X s→s∉xs→RgS w' b r n X (s :: xs) cnt'→cnt' < cnt→w.grownBy w' (some r)→w'.heap.size=w.heap.size→(Instr.entry (.pointer (some ⟨r,0,none⟩))).run Try.prog w'=.ok (.tuple #[s.val,v]) w'→wpListIn F nF Try.prog ops Q rest (a.put o.dst (.tuple #[.bool true,s.val,v])) w') :
  wpListIn F nF Try.prog ops Q (o :: rest) a w:=by
 refine wpListIn_plain hg fun K' hK'=>?_
 obtain⟨D,left,h1,h2,h3⟩:=h
 unfold Oper.wpIn
 refine⟨by simp [Oper.about,hop],?_⟩
 rw [Oper.semAt_plain F _ _ (by rw [hop];intro c hc';cases hc')]
 rcases h1.next K24 o.type with ⟨h0,hl,hrun⟩ | ⟨key,v,kl,y,w',cnt',hkey,hlk,hv,hat,hrun,hrg,hlt,hgr,hsz,hen⟩
 ·simp [execOp,hop,hit,hrun,Result.andThen]
  refine hK' _ _ (hDone fun s hs=>?_)
  obtain⟨l,hl'⟩:=key24 (h2.2.2.1 s hs)
  have:=(h3 s l hl')
  rw [hl l] at this
  exact Decidable.byContradiction fun hn=>by have:=this.2 ⟨hs,hn⟩;cases this
 ·obtain⟨s,rfl,hsI⟩:=inv24 hkey
  simp [execOp,hop,hit,hrun,Result.andThen]
  obtain⟨hX,hn⟩:=(h3 s kl hkey).1 hlk
  refine hK' _ _ (hMore s v w' cnt' hX hn ⟨D,_,hrg,h2,fun t l ht=>?_⟩ hlt hgr hsz hen)
  have hk:WideAt.IsKeyLit l:=K24.key ht
  by_cases e:l=kl
  ·subst e
   have:t=s:=val_inj (K24.inj ht hkey)
   subst this
   simp [WideAt.sameKey_self hk]
  ·have hsk:l.sameKey kl=false:=by
    cases hs:l.sameKey kl
    ·rfl
    ·exact absurd (WideAt.sameKey_eq hs) e
   have hts:t≠s:=fun e2=>e (by subst e2;rw [ht] at hkey;exact Option.some.inj hkey)
   simp [hsk,h3 t l ht,hts]
end
end Go.Proofs.Ytedomogjmhommaa
namespace Go.Proofs.Ytedomogjmhommaa
open Go.RowKit
def sortS (xs:List St):List St:=xs.mergeSort fun a b=>!decide (orderS b a<0)
abbrev SortC (m:Nat):Prop:=∀ (base:Nat) (v:Value) (xs:List St) (W:World),(∀ s∈xs,s.Ok m)→xs.length≤1000000000000→base≤W.heap.size→StRow W base v xs →
 CallsIn FW 0 Try.prog 94 #[v,.func (.func 63) #[] #[]] W fun e w'=>e=.returned (.tuple #[])∧W.grownBy w' v.ownBlock∧w'.ownsRow base 24 3 v xs.length ((sortS xs).map St.cells).flatten
theorem sorted62_any (m:Nat) (hSort:SortC m) (b n:Nat) (X:St→Prop) (w:World) (hX:SetM w b n X) (hok:∀ s,X s→s.Ok m) (hn:n≤1000000000000) :
  CallsIn FW 0 Try.prog 62 #[.map (some b),.func (.func 63) #[] #[]] w fun e w'=>∃ (v:Value) (xs:List St),e=.returned v∧Nx w w'∧w'.ownsRow w.heap.size 24 3 v xs.length ((sortS xs).map St.cells).flatten∧xs.Nodup∧∀ s,s∈xs↔X s:=by
 have hbl:b<w.heap.size:=by obtain⟨D0,hown0,_⟩:=hX;exact hown0.lt
 gi_enter Try.func62,Try.ntmps62
 gi_wp2_with (first | (refine wpListIn_rangeS rfl _ 104 rfl Try.underlying104 b n X rfl hX ?_;intro w1 hr1 n1 s1 hc1;simp only [Act.put,List.setIfInBounds_toArray,List.set_cons_succ,List.set_cons_zero]) | gi_in)
 generalize hR:w.heap.size=R at *
 gi_loopw [5] (fun v wr=>∃ (zs:List St) (cnt:Nat),RgS wr b R n X zs.reverse cnt∧wr.ownsRow (R+1) 24 3 v zs.length (zs.map St.cells).flatten∧zs.Nodup∧(∀ s∈zs,X s)∧Nx w wr∧zs.length+cnt≤n∧R<wr.heap.size) (fun _ wr=>wr.rangeLeft b R)
 case atStart=>exact⟨[],_,hr1,World.ownsRow_nil ..,List.nodup_nil,fun _ h=>(List.not_mem_nil h).elim,n1,by simpa using hc1,by omega⟩
 case round =>
  obtain⟨zs,cnt,hrg,hown,hnd,hXz,nr,hcnt,hRl⟩:=hrel
  have hleft:=Lib.hid hrg.left_eq
  gi_wp2_with (first | (refine wpListIn_nextS rfl _ rfl b R n X zs.reverse cnt rfl hrg ?_ ?_) | gi_in)
  ·intro hall
   have hiff:∀ s,s∈zs↔X s:=fun s=>⟨hXz s,fun h=>by simpa using hall s h⟩
   have k94:=hSort (R+1) u5 zs wr (fun s hs=>hok s (hXz s hs)) (by omega) (by omega) hown
   clear hall hrg hleft
   gi_wp2_with (first | (gi_at_call 94;refine CallsIn.mono k94 ?_;rintro e w3 ⟨rfl,hg3,hown3⟩) | gi_in)
   go_ret
   exact⟨_,zs,rfl,Below.grown nr hg3 (by have:=nr.size;omega) (fun g hg=>by have:=(hown.lt g hg).1;omega),own_base hown3 (by omega),hnd,hiff⟩
  ·intro s v2 w2 cnt' hXs hns hrg2 hlt hg2 hsz2 hen
   have hns' : s∉zs:=by simpa using hns
   have n2:Nx w w2:=Below.grown nr hg2 (by have:=nr.size;omega) (fun g hg=>by cases hg;omega)
   have hown2:=own_keep (w':=w2) hown (fun g hg=>hg2.block g (hown.lt g hg).2 (fun e=>by have:=(hown.lt g hg).1;cases e;omega))
   have hR2:R<w2.heap.size:=by omega
   clear hrg hown hns
   gi_upto_region 5 with fail
   generalize hYn:w2.alloc _=Y
   obtain⟨nY,sY,gY⟩:=al1 hYn
   clear hYn hen
   rw [hsz2] at gY
   have y0:Y.cell? ⟨wr.heap.size,0,none⟩=some (num s.w):=row_cell gY rfl
   have y1:Y.cell? ⟨wr.heap.size,1,none⟩=some (num s.c):=row_cell gY rfl
   have y2:Y.cell? ⟨wr.heap.size,2,none⟩=some (num s.h):=row_cell gY rfl
   have hownY:=own_nx hown2 nY
   have hrgY:=hrg2.kept (nY.grown none) (by simp) (by simp)
   have nwY:=n2.trans nY
   have hRY:R<Y.heap.size:=by omega
   clear gY sY hrg2 hsz2
   gi_wp2_with (first | (gi_at_builtin;refine wpListIn_more T69 rfl _ _ rfl rfl (R+1) _ zs.length (zs.map St.cells) rfl (own_alloc hownY _) (by simp) Y.heap.size s.cells rfl row_new rfl (by simp [Value.oneCell']) (by omega) (by omega) (by simp;omega) ?_;intro v' w7 hown7 hg7 hat7;simp only [Act.put,List.setIfInBounds_toArray,List.set_cons_succ,List.set_cons_zero]) | gi_in)
   have hrow:∀ g,u5.ownBlock=some g→R+1≤g:=fun g hg=>(hown2.lt g hg).1
   have hbR:b<Y.heap.size:=by omega
   have hrg7:=(hrgY.kept (alloc_nx (Nx.refl Y) _ |>.grown none) (by simp) (by simp)).kept hg7 (fun e=>by have:=hrow b e.symm;omega) (fun e=>by have:=hrow R e.symm;omega)
   have hlz:(zs++[s]).reverse=s :: zs.reverse:=by simp
   rw [← hlz] at hrg7
   have hml:w7.rangeLeft b R<wr.rangeLeft b R:=by rw [hleft.out,hrg7.left_eq];exact hlt
   refine⟨⟨zs++[s],cnt',hrg7,?_,?_,?_,?_,?_,?_⟩,hml⟩
   ·rw [List.length_append,List.map_append];exact hown7
   ·rw [List.nodup_append];exact⟨hnd,by simp,fun a ha b hb=>by simp at hb;subst hb;exact fun e=>hns' (e ▸ ha)⟩
   ·intro y hy
    rcases List.mem_append.1 hy with hy | hy
    ·exact hXz y hy
    ·rw [List.mem_singleton.1 hy];exact hXs
   ·exact Below.grown (alloc_nx nwY _) hg7 (alloc_nx nwY _).size (fun g hg=>by have:=hrow g hg;omega)
   ·simp;omega
   ·have:=hg7.size;simp at this;omega
end Go.Proofs.Ytedomogjmhommaa
namespace Go.Proofs.Ytedomogjmhommaa
open Go.RowKit
theorem or95_same (u:Value) (xs:List Int) (w:World) (hu:Sl w u 1 (xs.map one)) (hl:xs.length≤1000000000):CallsIn FW 0 Try.prog 95 #[u] w fun e w'=>e=.returned (num (orF xs))∧w'=w:=by
 obtain⟨a,cap,rfl⟩:=hu.cases
 rw [List.length_map] at *
 have HU:=Lib.hid hu
 clear hu
 obtain⟨g,hg⟩:∃ g,orF xs=g:=⟨_,rfl⟩
 rw [hg]
 have HG:Hid (g=orF (xs.drop 0)):=by show _=_;rw [← hg,List.drop_zero]
 clear hg
 gi_enter Try.func95,Try.ntmps95
 gi_wp2
 gi_loopw [8] (fun i wr=>∃ k:Nat,k≤xs.length∧i=num k∧g=orF (xs.drop k)∧wr=w) (fun i _=>xs.length-(intOf i).toNat)
 case atStart=>exact⟨0,Nat.zero_le _,rfl,HG.out,rfl⟩
 case round =>
  obtain⟨k,hk,rfl,hgo,hw⟩:=hrel
  have hw:=hw.symm
  subst hw
  by_cases hlt:k<xs.length
  ·obtain⟨b,off,rfl,hbl,hcl⟩:=(HU.out).get (by simp;omega)
   have hh:xs[k]?=some xs[k]:=List.getElem?_eq_getElem hlt
   generalize xs[k]=x at hh
   have e0:=Sl.at1 hcl (Nx.refl w) hbl hh
   have hgo2:=Lib.hid (hgo.trans (orF_at hh))
   clear hcl hh hgo
   by_cases h0:x=0
   ·have HR:=Lib.hid (hgo2.out.trans (if_neg (by simpa using h0)))
    have b1:(x != 0)=false:=by simp [h0]
    clear h0
    gi_wp2
    exact⟨⟨k+1,hlt,by simp,HR.out,by first | rfl | trivial⟩,by simp [intOf];omega⟩
   ·have HR:=Lib.hid (hgo2.out.trans (if_pos h0))
    have b1:(x != 0)=true:=by simp [h0]
    clear h0
    gi_wp2
    go_ret
    exact⟨by rw [HR.out]<;>rfl,rfl⟩
  ·obtain rfl:k=xs.length:=by omega
   have HR:Hid (g=0):=by show _=_;rw [hgo,List.drop_length];rfl
   clear hgo
   gi_wp2
   go_ret
   exact⟨by rw [HR.out]<;>rfl,rfl⟩
theorem order63_same (a b:St) (n:Nat) (w:World) (ha:a.Ok n) (hb:b.Ok n) (hn:n≤4):CallsIn FW 0 Try.prog 63 #[a.val,b.val] w fun e w'=>e=.returned (num (orderS a b))∧w'=((w.alloc (.cells #[num a.w,num a.c,num a.h] 24)).alloc (.cells #[num b.w,num b.c,num b.h] 24)).alloc (.cells #[num (a.w-b.w),num (a.c-b.c),num (a.h-b.h)] 3):=by
 have:=ha.w;have:=ha.c;have:=ha.h;have:=hb.w;have:=hb.c;have:=hb.h
 have w1:wrap64 (a.w-b.w)=a.w-b.w:=wrap_id (by omega)
 have w2:wrap64 (a.c-b.c)=a.c-b.c:=wrap_id (by omega)
 have w3:wrap64 (a.h-b.h)=a.h-b.h:=wrap_id (by omega)
 clear ha hb
 have k95:=fun (u:Value) (W:World) (h:Sl W u 1 ([a.w-b.w,a.c-b.c,a.h-b.h].map one))=>or95_same u [a.w-b.w,a.c-b.c,a.h-b.h] W h (by simp)
 have HD:Hid (orderS a b=orF [a.w-b.w,a.c-b.c,a.h-b.h]):=rfl
 generalize orderS a b=g at *
 gi_enter Try.func63,Try.ntmps63
 gi_wp2_with (first | (gi_at_call 95;refine CallsIn.mono (k95 _ _ (sl_new3 (by simp))) ?_;rintro e w4 ⟨rfl,rfl⟩) | gi_in)
 go_ret
 exact⟨by rw [HD.out]<;>rfl,rfl⟩
end Go.Proofs.Ytedomogjmhommaa
namespace Go.Proofs.Ytedomogjmhommaa
open Go.RowKit
theorem before_iff (a b:St):beforeS a b=true↔a.w<b.w∨(a.w=b.w∧(a.c<b.c∨(a.c=b.c∧a.h<b.h))):=by
 unfold beforeS
 by_cases h1:a.w=b.w
 ·by_cases h2:a.c=b.c
  ·simp [h1,h2]
  ·simp [h1,h2]
 ·simp [h1]
theorem before_iff' (a b:St):beforeS a b=false↔¬ (a.w<b.w∨(a.w=b.w∧(a.c<b.c∨(a.c=b.c∧a.h<b.h)))):=by
 rw [← before_iff,Bool.not_eq_true]
theorem before_irrefl (a:St):beforeS a a=false:=by rw [before_iff'];omega
theorem before_trans {a b c:St} (h1:beforeS a b=true) (h2:beforeS b c=true):beforeS a c=true:=by
 rw [before_iff] at *
 omega
theorem before_ntrans {a b c:St} (h1:beforeS a b=false) (h2:beforeS b c=false):beforeS a c=false:=by
 rw [before_iff'] at *
 omega
theorem before_total {a b:St} (h1:beforeS a b=false) (h2:beforeS b a=false):a=b:=by
 rw [before_iff'] at *
 have e1:a.w=b.w:=by omega
 have e2:a.c=b.c:=by omega
 have e3:a.h=b.h:=by omega
 cases a
 cases b
 simp_all
abbrev StM (m:Nat):={ s:St // s.Ok m }
theorem swo (m:Nat):Go.Sort.SWO (fun x y:StM m=>decide (orderS x.1 y.1<0)) where
 irrefl x:=by rw [order_before];exact before_irrefl _
 trans x y z h1 h2:=by rw [order_before] at *;exact before_trans h1 h2
 ntrans x y z h1 h2:=by rw [order_before] at *;exact before_ntrans h1 h2
end Go.Proofs.Ytedomogjmhommaa
