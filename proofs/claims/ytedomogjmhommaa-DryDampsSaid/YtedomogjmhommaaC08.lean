import Derived.Test.YtedomogjmhommaaC07
set_option linter.all false
set_option maxRecDepth 100000
set_option maxHeartbeats 8000000
namespace Go.Proofs.Ytedomogjmhommaa
open Go.RowKit
theorem Sl.at1 {w wr:World} {b off:Nat} {xs:List Int} (hcl:∀ (j k:Nat) (z:List Value) (x:Value),(xs.map one)[j]?=some z→z[k]?=some x→w.cell? ⟨b,off+j * 1+k,none⟩=some x) (n:Nx w wr) (hb:b<w.heap.size) {k:Nat} {h:Int} (hk:xs[k]?=some h):wr.cell? ⟨b,off+k,none⟩=some (num h):=by
 have:=Sl.at (en:=one) hcl n hb hk 0 (v:=num h) rfl
 simpa using this
theorem own_base {w:World} {base base' e sz n:Nat} {v:Value} {xs:List Value} (h:w.ownsRow base e sz v n xs) (hb:base'≤base):w.ownsRow base' e sz v n xs:=by
 obtain⟨h1,h2⟩:=h
 refine⟨h1,h2.imp id ?_⟩
 rintro ⟨g,cap,cur,rfl,hb',r⟩
 exact⟨g,cap,cur,rfl,by omega,r⟩
theorem states72_any (d:Dry) (B:Nat) (u1 u2:Value) (plan air:List Int) (w:World) (hst:StoveAt w B d) (hO:d.Ok) (hP:PA d plan air) (h1:Sl w u1 1 (plan.map one)) (h2:Sl w u2 1 (air.map one)) (hl:plan.length≤1000000000) :
  CallsIn FW 0 Try.prog 72 #[ptr B,u1,u2] w fun e w'=>∃ v,e=.returned v∧Nx w w'∧w'.ownsRow w.heap.size 24 3 v plan.length ((followS d d.start plan air).map St.cells).flatten:=by
 have hO3:=hO.start
 have hsO:=stF_ok.1 hO3
 have hPl:=hP.len
 have k61:=fun (s:St) (hs:s.Ok d.heats.length) (k:Nat) (hv:Int×Int) (hk:d.heats[k]?=some hv) (a:Int) (ha:0≤a∧a≤3) (w1:World) (n:Nx w w1)=>next_any d B s k hv a w1 (hst.nx n) hO hk hs ha
 obtain⟨a1,cap1,rfl⟩:=h1.cases
 obtain⟨a2,cap2,rfl⟩:=h2.cases
 have c3:=hst.s0
 have c4:=hst.s1
 have c5:=hst.s2
 have hB:=hst.lt
 rw [List.length_map] at *
 rw [List.length_map]
 have H1:=Lib.hid h1
 have H2:=Lib.hid h2
 have HP:=Lib.hid hP
 have HO:=Lib.hid hO
 clear h1 h2 hP hO hst hO3
 have HL:=Lib.hid hPl
 have hlen0:=Lib.hid (followS_len d d.start plan air hPl)
 clear hPl
 gi_enter Try.func72,Try.ntmps72
 gi_upto_region 3 with fail
 generalize hW:w.alloc _=W
 obtain⟨nW,sW,g0⟩:=al1 hW
 clear hW c3 c4 c5
 generalize hX:w.heap.size=X at *
 gi_wp2
 have g00:W.heap[X]?=some (.cells (stAt d d.start plan air 0).cells.toArray 24 (0,0)):=by
  rw [g0]
  cases plan<;>cases air<;>rfl
 gi_loopw [7,18] (fun v i wr=>∃ k:Nat,k≤plan.length∧i=num k∧wr.ownsRow (X+1) 24 3 v k (((followS d d.start plan air).take k).map St.cells).flatten∧wr.heap[X]?=some (.cells (stAt d d.start plan air k).cells.toArray 24 (0,0))∧Nx w wr∧X<wr.heap.size) (fun _ i _=>plan.length-(intOf i).toNat)
 case atStart=>exact⟨0,Nat.zero_le _,rfl,World.ownsRow_nil ..,g00,nW,by omega⟩
 case round =>
  obtain⟨k,hk,rfl,hown,gX,nr,hXl⟩:=hrel
  by_cases hlt:k<plan.length
  ·obtain⟨b,off,rfl,hbl,hcl⟩:=(H1.out).get (by simp;omega)
   obtain⟨b',off',rfl,hbl',hcl'⟩:=(H2.out).get (by simp;have:=HL.out;omega)
   have hh:plan[k]?=some plan[k]:=List.getElem?_eq_getElem hlt
   generalize plan[k]=h at hh
   have hka:k<air.length:=by have:=HL.out;omega
   have ha:air[k]?=some air[k]:=List.getElem?_eq_getElem hka
   generalize air[k]=a at ha
   have e0:=Sl.at1 hcl nr hbl hh
   have f0:=Sl.at1 hcl' nr hbl' ha
   have bh:=HP.out.p _ (List.mem_of_getElem? hh)
   have ba:=HP.out.a _ (List.mem_of_getElem? ha)
   have hok:=stAt_ok HO.out HP.out hsO k hk
   have hsu:=stAt_succ d d.start plan air k h a hh ha
   have htk:=Lib.hid (followS_take d d.start plan air k h a hh ha)
   have hlen:((followS d d.start plan air).take k).length=k:=by rw [List.length_take,hlen0.out];omega
   have hhv:d.heats[h.toNat]?=some (heatAt d h.toNat):=by
    have:h.toNat<d.heats.length:=by omega
    unfold heatAt
    rw [List.getElem?_eq_getElem this]
    rfl
   have k61:=k61 _ hok h.toNat _ hhv a ba
   rw [show ((h.toNat:Nat):Int)=h by omega,← hsu] at k61
   have HS:=Lib.hid hsu
   clear hcl hcl' hh ha hsu hhv hok
   generalize stAt d d.start plan air k=s at *
   generalize hs' : stAt d d.start plan air (k+1)=s' at *
   have s0:wr.cell? ⟨X,0,none⟩=some (num s.w):=row_cell gX rfl
   have s1:wr.cell? ⟨X,1,none⟩=some (num s.c):=row_cell gX rfl
   have s2:wr.cell? ⟨X,2,none⟩=some (num s.h):=row_cell gX rfl
   gi_upto_region 6 with fail
   refine wpIn_region_tail 7 rfl (by kernel_rfl) (by kernel_rfl) ?_
   simp only [List.take_succ_cons,List.take_zero,List.drop_succ_cons,List.drop_zero]
   repeat (gi_big_quiet_step (fail))
   refine wpQuietIn_nil ?_
   rintro w' ⟨nq,rfl⟩
   have nq4:Nx wr (wr.drewN nq):=(Nx.refl wr).drewN nq
   generalize wr.drewN nq=w4 at nq4 ⊢
   have k61:=k61 w4 (nr.trans nq4)
   have hX4:X<w4.heap.size:=Nat.lt_of_lt_of_le hXl nq4.size
   have g4:=(nq4.block X hXl).trans gX
   have hown4:=own_nx hown nq4
   clear s0 s1 s2 e0 f0
   gi_upto_region 7 with (first | (gi_at_call 61;refine CallsIn.mono k61 ?_;rintro e w5 ⟨rfl,n5⟩;have g5:=(n5.block X hX4).trans g4;have y0:=row_cell (i:=0) g5 rfl;have y1:=row_cell (i:=1) g5 rfl;have y2:=row_cell (i:=2) g5 rfl;have z0:=row_frozen (i:=0) g5;have z1:=row_frozen (i:=1) g5;have z2:=row_frozen (i:=2) g5) | gi_in)
   have gV:=set3 (v0:=num s'.w) (v1:=num s'.c) (v2:=num s'.h) g5
   have oth:∀ b,b≠X→(((w5.setCell ⟨X,0,none⟩ (num s'.w)).setCell ⟨X,1,none⟩ (num s'.c)).setCell ⟨X,2,none⟩ (num s'.h)).heap[b]?=w5.heap[b]?:=fun b hb=>(set_other hb).trans ((set_other hb).trans (set_other hb))
   have sV:(((w5.setCell ⟨X,0,none⟩ (num s'.w)).setCell ⟨X,1,none⟩ (num s'.c)).setCell ⟨X,2,none⟩ (num s'.h)).heap.size=w5.heap.size:=by rw [set_size,set_size,set_size]
   have nV:Nx w (((w5.setCell ⟨X,0,none⟩ (num s'.w)).setCell ⟨X,1,none⟩ (num s'.c)).setCell ⟨X,2,none⟩ (num s'.h)):=by
    repeat (refine Nx.set ?_ (by omega))
    exact nr.trans (nq4.trans n5)
   generalize ((w5.setCell ⟨X,0,none⟩ (num s'.w)).setCell ⟨X,1,none⟩ (num s'.c)).setCell ⟨X,2,none⟩ (num s'.h)=V at gV oth sV nV ⊢
   have hownV:=own_keep (w':=V) (own_nx hown4 n5) (fun g hg=>oth g (by have:=(hown.lt g hg).1;omega))
   have v0:V.cell? ⟨X,0,none⟩=some (num s'.w):=row_cell gV rfl
   have v1:V.cell? ⟨X,1,none⟩=some (num s'.c):=row_cell gV rfl
   have v2:V.cell? ⟨X,2,none⟩=some (num s'.h):=row_cell gV rfl
   have hVX:X<V.heap.size:=by have:=n5.size;omega
   clear y0 y1 y2 z0 z1 z2 g4 g5 gX sV
   gi_wp2_with (first | (gi_at_builtin;refine wpListIn_more T69 rfl _ _ rfl rfl (X+1) _ k (((followS d d.start plan air).take k).map St.cells) rfl (own_alloc hownV _) (by rw [List.length_map];exact hlen) V.heap.size s'.cells rfl row_new rfl (by simp [Value.oneCell']) (by omega) (by omega) (by simp;omega) ?_;intro v' w7 hown7 hg7 hat7) | gi_in)
   have hrow:∀ g,u7.ownBlock=some g→X+1≤g:=fun g hg=>(hown.lt g hg).1
   have gX7:=(hg7.block X (by simp;omega) (fun e=>by have:=hrow X e.symm;omega)).trans ((row_old hVX).trans gV)
   have n7:Nx w w7:=Below.grown (alloc_nx nV _) hg7 (alloc_nx nV _).size (fun g hg=>by have:=hrow g hg;omega)
   have hX7:X<w7.heap.size:=lt_row gX7
   have e1:((followS d d.start plan air).take k).map St.cells++[s'.cells]=((followS d d.start plan air).take (k+1)).map St.cells:=by rw [htk.out,List.map_append];rfl
   rw [e1] at hown7
   exact⟨⟨k+1,hlt,by simp,hown7,by rw [hs'];exact gX7,n7,hX7⟩,by simp [intOf];omega⟩
  ·obtain rfl:k=plan.length:=by omega
   have hfull:(followS d d.start plan air).take plan.length=followS d d.start plan air:=List.take_of_length_le (by rw [hlen0.out];exact Nat.le_refl _)
   rw [hfull] at hown
   have hown:=Lib.hid hown
   gi_wp2
   go_ret
   exact⟨_,rfl,nr,own_base hown.out (by omega)⟩
end Go.Proofs.Ytedomogjmhommaa
namespace Go.Proofs.Ytedomogjmhommaa
open Go.RowKit
theorem follow82_any (d:Dry) (r:R2) (u1 u2:Value) (plan air:List Int) (w:World) (hd:DrySl w d r) (hO:d.Ok) (hP:PA d plan air) (h1:Sl w u1 1 (plan.map one)) (h2:Sl w u2 1 (air.map one)) (hl:plan.length≤1000000000) :
  CallsIn FW 0 Try.prog 82 #[d.val r,u1,u2] w fun e w'=>∃ v,e=.returned v∧Nx w w'∧w'.ownsRow w.heap.size 24 3 v plan.length ((followS d d.start plan air).map St.cells).flatten:=by
 have hO3:=hO.start
 have hsO:=stF_ok.1 hO3
 have hPl:=hP.len
 have k61:=fun (s:St) (hs:s.Ok d.heats.length) (k:Nat) (hv:Int×Int) (hk:d.heats[k]?=some hv) (a:Int) (ha:0≤a∧a≤3) (w1:World) (n:Nx w w1)=>next36_any d r s k hv a w1 (hd.nx n) hO hk hs ha
 obtain⟨a1,cap1,rfl⟩:=h1.cases
 obtain⟨a2,cap2,rfl⟩:=h2.cases
 obtain⟨rh,rs⟩:=r
 obtain⟨ha,hcap,hrs⟩:=hd.heats.cases
 dsimp only at hrs
 subst hrs
 obtain⟨sa,scap,hrs⟩:=hd.steps.cases
 dsimp only at hrs
 subst hrs
 rw [List.length_map,List.length_map] at *
 rw [List.length_map] at *
 rw [List.length_map]
 have H1:=Lib.hid h1
 have H2:=Lib.hid h2
 have HP:=Lib.hid hP
 have HO:=Lib.hid hO
 clear h1 h2 hP hO hd hO3
 have HL:=Lib.hid hPl
 have hlen0:=Lib.hid (followS_len d d.start plan air hPl)
 clear hPl
 gi_enter Try.func82,Try.ntmps82
 gi_upto_region 2 with fail
 generalize hU:w.alloc _=U
 obtain⟨nU,hbU⟩:=DBox.of (d:=d) (r:=⟨_,_⟩) hU
 have hUX:w.heap.size≤U.heap.size:=nU.size
 clear hU
 generalize hA:w.heap.size=A at *
 have c3:=hbU.at' 3 _ rfl
 have c4:=hbU.at' 4 _ rfl
 have c5:=hbU.at' 5 _ rfl
 gi_upto_region 3 with fail
 generalize hW:U.alloc _=W
 obtain⟨nW,sW,g0⟩:=al1 hW
 clear hW c3 c4 c5
 have hbW:=hbU.nx nW
 have nW:=nU.trans nW
 have hAX:A<U.heap.size:=hbU.lt
 clear nU hbU
 generalize hX:U.heap.size=X at *
 gi_wp2
 have g00:W.heap[X]?=some (.cells (stAt d d.start plan air 0).cells.toArray 24 (0,0)):=by
  rw [g0]
  cases plan<;>cases air<;>rfl
 gi_loopw [7,9] (fun v i wr=>∃ k:Nat,k≤plan.length∧i=num k∧wr.ownsRow (X+1) 24 3 v k (((followS d d.start plan air).take k).map St.cells).flatten∧wr.heap[X]?=some (.cells (stAt d d.start plan air k).cells.toArray 24 (0,0))∧Nx w wr∧X<wr.heap.size∧DBox wr A d ⟨_,_⟩) (fun _ i _=>plan.length-(intOf i).toNat)
 case atStart=>exact⟨0,Nat.zero_le _,rfl,World.ownsRow_nil ..,g00,nW,by omega,hbW⟩
 case round =>
  obtain⟨k,hk,rfl,hown,gX,nr,hXl,hbr⟩:=hrel
  by_cases hlt:k<plan.length
  ·obtain⟨b,off,rfl,hbl,hcl⟩:=(H1.out).get (by simp;omega)
   obtain⟨b',off',rfl,hbl',hcl'⟩:=(H2.out).get (by simp;have:=HL.out;omega)
   have hh:plan[k]?=some plan[k]:=List.getElem?_eq_getElem hlt
   generalize plan[k]=h at hh
   have hka:k<air.length:=by have:=HL.out;omega
   have ha:air[k]?=some air[k]:=List.getElem?_eq_getElem hka
   generalize air[k]=a at ha
   have e0:=Sl.at1 hcl nr hbl hh
   have f0:=Sl.at1 hcl' nr hbl' ha
   have bh:=HP.out.p _ (List.mem_of_getElem? hh)
   have ba:=HP.out.a _ (List.mem_of_getElem? ha)
   have hok:=stAt_ok HO.out HP.out hsO k hk
   have hsu:=stAt_succ d d.start plan air k h a hh ha
   have htk:=Lib.hid (followS_take d d.start plan air k h a hh ha)
   have hlen:((followS d d.start plan air).take k).length=k:=by rw [List.length_take,hlen0.out];omega
   have hhv:d.heats[h.toNat]?=some (heatAt d h.toNat):=by
    have:h.toNat<d.heats.length:=by omega
    unfold heatAt
    rw [List.getElem?_eq_getElem this]
    rfl
   have k61:=k61 _ hok h.toNat _ hhv a ba
   rw [show ((h.toNat:Nat):Int)=h by omega,← hsu] at k61
   have HS:=Lib.hid hsu
   clear hcl hcl' hh ha hsu hhv hok
   generalize stAt d d.start plan air k=s at *
   generalize hs' : stAt d d.start plan air (k+1)=s' at *
   have s0:wr.cell? ⟨X,0,none⟩=some (num s.w):=row_cell gX rfl
   have s1:wr.cell? ⟨X,1,none⟩=some (num s.c):=row_cell gX rfl
   have s2:wr.cell? ⟨X,2,none⟩=some (num s.h):=row_cell gX rfl
   have c0:=hbr.at' 0 _ rfl
   have c1:=hbr.at' 1 _ rfl
   have c2:=hbr.at' 2 _ rfl
   have c3:=hbr.at' 3 _ rfl
   have c4:=hbr.at' 4 _ rfl
   have c5:=hbr.at' 5 _ rfl
   have c6:=hbr.at' 6 _ rfl
   gi_upto_region 6 with fail
   refine wpIn_region_tail 10 rfl (by kernel_rfl) (by kernel_rfl) ?_
   simp only [List.take_succ_cons,List.take_zero,List.drop_succ_cons,List.drop_zero]
   repeat (gi_big_quiet_step (fail))
   refine wpQuietIn_nil ?_
   rintro w' ⟨nq,rfl⟩
   have nq4:Nx wr (wr.drewN nq):=(Nx.refl wr).drewN nq
   generalize wr.drewN nq=w4 at nq4 ⊢
   have k61:=k61 w4 (nr.trans nq4)
   have hX4:X<w4.heap.size:=Nat.lt_of_lt_of_le hXl nq4.size
   have g4:=(nq4.block X hXl).trans gX
   have hown4:=own_nx hown nq4
   clear s0 s1 s2 e0 f0 c0 c1 c2 c3 c4 c5 c6
   gi_upto_region 7 with (first | (gi_at_call 36;refine CallsIn.mono k61 ?_;rintro e w5 ⟨rfl,n5⟩;have g5:=(n5.block X hX4).trans g4;have y0:=row_cell (i:=0) g5 rfl;have y1:=row_cell (i:=1) g5 rfl;have y2:=row_cell (i:=2) g5 rfl;have z0:=row_frozen (i:=0) g5;have z1:=row_frozen (i:=1) g5;have z2:=row_frozen (i:=2) g5) | gi_in)
   have gV:=set3 (v0:=num s'.w) (v1:=num s'.c) (v2:=num s'.h) g5
   have oth:∀ b,b≠X→(((w5.setCell ⟨X,0,none⟩ (num s'.w)).setCell ⟨X,1,none⟩ (num s'.c)).setCell ⟨X,2,none⟩ (num s'.h)).heap[b]?=w5.heap[b]?:=fun b hb=>(set_other hb).trans ((set_other hb).trans (set_other hb))
   have sV:(((w5.setCell ⟨X,0,none⟩ (num s'.w)).setCell ⟨X,1,none⟩ (num s'.c)).setCell ⟨X,2,none⟩ (num s'.h)).heap.size=w5.heap.size:=by rw [set_size,set_size,set_size]
   have nV:Nx w (((w5.setCell ⟨X,0,none⟩ (num s'.w)).setCell ⟨X,1,none⟩ (num s'.c)).setCell ⟨X,2,none⟩ (num s'.h)):=by
    repeat (refine Nx.set ?_ (by omega))
    exact nr.trans (nq4.trans n5)
   generalize ((w5.setCell ⟨X,0,none⟩ (num s'.w)).setCell ⟨X,1,none⟩ (num s'.c)).setCell ⟨X,2,none⟩ (num s'.h)=V at gV oth sV nV ⊢
   have hownV:=own_keep (w':=V) (own_nx hown4 n5) (fun g hg=>oth g (by have:=(hown.lt g hg).1;omega))
   have v0:V.cell? ⟨X,0,none⟩=some (num s'.w):=row_cell gV rfl
   have v1:V.cell? ⟨X,1,none⟩=some (num s'.c):=row_cell gV rfl
   have v2:V.cell? ⟨X,2,none⟩=some (num s'.h):=row_cell gV rfl
   have hVX:X<V.heap.size:=by have:=n5.size;omega
   clear y0 y1 y2 z0 z1 z2 g4 g5 gX sV
   gi_wp2_with (first | (gi_at_builtin;refine wpListIn_more T69 rfl _ _ rfl rfl (X+1) _ k (((followS d d.start plan air).take k).map St.cells) rfl (own_alloc hownV _) (by rw [List.length_map];exact hlen) V.heap.size s'.cells rfl row_new rfl (by simp [Value.oneCell']) (by omega) (by omega) (by simp;omega) ?_;intro v' w7 hown7 hg7 hat7) | gi_in)
   have hrow:∀ g,u7.ownBlock=some g→X+1≤g:=fun g hg=>(hown.lt g hg).1
   have gX7:=(hg7.block X (by simp;omega) (fun e=>by have:=hrow X e.symm;omega)).trans ((row_old hVX).trans gV)
   have n7:Nx w w7:=Below.grown (alloc_nx nV _) hg7 (alloc_nx nV _).size (fun g hg=>by have:=hrow g hg;omega)
   have hX7:X<w7.heap.size:=lt_row gX7
   have hb7:DBox w7 A d ⟨_,_⟩:=⟨by omega,fun i v hv=>by
    have h1:=(hbr.nx (nq4.trans n5)).at' i v hv
    have h2:w7.heap[A]?=w5.heap[A]?:=(hg7.block A (by simp;omega) (fun e=>by have:=hrow A e.symm;omega)).trans ((row_old (by omega)).trans (oth A (by omega)))
    exact (World.cell?_of_block (a:=⟨A,i,none⟩) h2).trans h1⟩
   have e1:((followS d d.start plan air).take k).map St.cells++[s'.cells]=((followS d d.start plan air).take (k+1)).map St.cells:=by rw [htk.out,List.map_append];rfl
   rw [e1] at hown7
   exact⟨⟨k+1,hlt,by simp,hown7,by rw [hs'];exact gX7,n7,hX7,hb7⟩,by simp [intOf];omega⟩
  ·obtain rfl:k=plan.length:=by omega
   have hfull:(followS d d.start plan air).take plan.length=followS d d.start plan air:=List.take_of_length_le (by rw [hlen0.out];exact Nat.le_refl _)
   rw [hfull] at hown
   have hown:=Lib.hid hown
   gi_wp2
   go_ret
   exact⟨_,rfl,nr,own_base hown.out (by omega)⟩
end Go.Proofs.Ytedomogjmhommaa
namespace Go.Proofs.Ytedomogjmhommaa
open Go.RowKit
def inR (p:Int×Stp):Bool:=decide (p.2.lo≤p.1∧p.1≤p.2.hi)
def airF (d:Dry) (air:List Int):Int:=if air.length≠d.steps.length then 2 else if (air.zip d.steps).all inR=false then 1 else 0
def followF (d:Dry) (plan air:List Int):List St×Int:=if planF d plan≠0 then ([],planF d plan) else if airF d air≠0 then ([],airF d air) else (followS d d.start plan air,0)
theorem planGo_ok {d:Dry}:∀ {xs:List Stp} {was:Int} {plan:List Int},planGo d xs was plan=0→plan.length=xs.length→∀ h∈plan,0≤h∧h≤(d.heats.length:Int)-1
 | _,_,[],_,_,h,hh=>by cases hh
 | [],_,_ :: _,_,e,_,_=>by simp at e
 | x :: xs,was,h0 :: hs,h,e,y,hy=>by
  unfold planGo at h
  split at h
  ·cases h
  rename_i h1
  split at h
  ·cases h
  simp at e
  rcases List.mem_cons.1 hy with rfl | hy
  ·simpa using h1
  ·exact planGo_ok h e y hy
theorem planF_ok {d:Dry} {plan:List Int} (h:planF d plan=0):d.Ok∧plan.length=d.steps.length∧∀ h∈plan,0≤h∧h≤(d.heats.length:Int)-1:=by
 unfold planF at h
 split at h
 ·contradiction
 rename_i h1
 unfold plF at h
 split at h
 ·cases h
 rename_i h2
 simp only [Decidable.not_not,ne_eq] at h1 h2
 exact⟨dryF_ok h1,h2,planGo_ok h h2⟩
theorem airF_ok {d:Dry} {air:List Int} (h:airF d air=0) (hO:d.Ok):air.length=d.steps.length∧∀ a∈air,0≤a∧a≤3:=by
 unfold airF at h
 split at h
 ·cases h
 rename_i h1
 split at h
 ·cases h
 rename_i h2
 simp only [Decidable.not_not,ne_eq] at h1
 refine⟨h1,fun a ha=>?_⟩
 obtain⟨k,hk,rfl⟩:=List.mem_iff_getElem.1 ha
 have hk2:k<d.steps.length:=by omega
 rw [Bool.not_eq_false,List.all_eq_true] at h2
 have h3:=h2 (air[k],d.steps[k]) (List.mem_of_getElem? (i:=k) (by rw [List.getElem?_eq_getElem (by simp;omega)];simp))
 have h4:=(hO.st d.steps[k] (List.getElem_mem _)).1
 simp only [inR,decide_eq_true_eq] at h3
 omega
theorem pa_of {d:Dry} {plan air:List Int} (h1:planF d plan=0) (h2:airF d air=0):PA d plan air:=by
 obtain⟨hO,h3,h4⟩:=planF_ok h1
 obtain⟨h5,h6⟩:=airF_ok h2 hO
 exact⟨h3.trans h5.symm,h4,h6⟩
theorem air86_any (d:Dry) (r:R2) (u:Value) (air:List Int) (w:World) (hd:DrySl w d r) (hu:Sl w u 1 (air.map one)) (hl:air.length≤1000000000) :
  CallsIn FW 0 Try.prog 86 #[d.val r,u] w fun e w'=>e=.returned (num (airF d air))∧Nx w w':=by
 obtain⟨ua,ucap,rfl⟩:=hu.cases
 have HU:=Lib.hid hu
 have HT:=Lib.hid hd.steps
 have hsl:=hd.sl
 obtain⟨rh,rs⟩:=r
 obtain⟨ha,hcap,hrs⟩:=hd.heats.cases
 dsimp only at hrs
 subst hrs
 obtain⟨sa,scap,hrs⟩:=hd.steps.cases
 dsimp only at hrs
 subst hrs
 dsimp only at HT
 rw [List.length_map,List.length_map] at *
 rw [List.length_map] at *
 clear hd hu
 obtain⟨g,hg⟩:∃ g,airF d air=g:=⟨_,rfl⟩
 rw [hg]
 have HG:=Lib.hid hg
 clear hg
 gi_enter Try.func86,Try.ntmps86
 gi_upto_region 1 with fail
 generalize hW:w.alloc _=W
 obtain⟨nW,hbW⟩:=DBox.of (d:=d) (r:=⟨_,_⟩) hW
 clear hW
 generalize w.heap.size=A at *
 have c6:=hbW.at' 6 _ rfl
 by_cases hlen:air.length=d.steps.length
 case neg =>
  have HR:Hid (g=2):=by show _=_;rw [← HG.out];unfold airF;rw [if_pos hlen]
  have b1:((air.length:Int) != (d.steps.length:Int))=true:=by simp;omega
  gi_wp2
  go_ret
  exact⟨by rw [HR.out]<;>rfl,nW⟩
 case pos =>
 have HP:Hid (g=if (air.zip d.steps).all inR=false then 1 else 0):=by show _=_;rw [← HG.out];unfold airF;rw [if_neg (by simpa using hlen)]
 have b1:((air.length:Int) != (d.steps.length:Int))=false:=by simp [hlen]
 have HL:=Lib.hid hlen
 clear hlen
 gi_wp2
 clear b1 c6
 gi_loopw [5] (fun i wr=>∃ k:Nat,k≤air.length∧i=num k∧((air.zip d.steps).take k).all inR=true∧Nx W wr) (fun i _=>air.length-(intOf i).toNat)
 case atStart=>exact⟨0,Nat.zero_le _,rfl,rfl,Nx.refl _⟩
 case round =>
  obtain⟨k,hk,rfl,hall,nr⟩:=hrel
  have nwr:=nW.trans nr
  have hbr:=hbW.nx nr
  have c6:=hbr.at' 6 _ rfl
  by_cases hlt:k<air.length
  ·obtain⟨b,off,rfl,hbl,hcl⟩:=(HU.out).get (by simp;omega)
   obtain⟨b',off',rfl,hbl',hcl'⟩:=HT.out.get (by simp;have:=HL.out;omega)
   have hh:air[k]?=some air[k]:=List.getElem?_eq_getElem hlt
   have hkl:k<d.steps.length:=by have:=HL.out;omega
   have hx:d.steps[k]?=some d.steps[k]:=List.getElem?_eq_getElem hkl
   have hz:(air.zip d.steps)[k]?=some (air[k],d.steps[k]):=by rw [List.getElem?_eq_getElem (by simp;omega)];simp
   generalize air[k]=h at hh hz
   generalize d.steps[k]=x at hx hz
   have e0:=Sl.at1 hcl nwr hbl hh
   have z0:wr.cell? ⟨b',off' + k * 6,none⟩=some (num x.lo):=Sl.at hcl' nwr hbl' hx 0 (v:=num x.lo) rfl
   have z1:wr.cell? ⟨b',off' + k * 6+1,none⟩=some (num x.hi):=Sl.at hcl' nwr hbl' hx 1 (v:=num x.hi) rfl
   have k58:=fun (w1:World)=>in58_any h x.lo x.hi w1
   have HF:=Lib.hid (all_stop (p:=inR) hz)
   have HA:=Lib.hid (all_go hz hall)
   clear hcl hcl' hh hx hall hz
   by_cases h1:x.lo≤h∧h≤x.hi
   case neg =>
    have HR:=Lib.hid (HP.out.trans (if_pos (HF.out (by unfold inR;exact decide_eq_false h1))))
    have b2:=decide_eq_false h1
    clear h1
    gi_upto_region 6 with fail
    gi_big_quiet_th (first | (gi_at_call 58;refine CallsIn.quiet_of_same (k58 _)))
    gi_wp2
    go_ret
    exact⟨by rw [HR.out]<;>rfl,nwr.drewN _⟩
   case pos =>
    have HR:=Lib.hid (HA.out (by unfold inR;exact decide_eq_true h1))
    have b2:=decide_eq_true h1
    clear h1
    gi_upto_region 6 with fail
    gi_big_quiet_th (first | (gi_at_call 58;refine CallsIn.quiet_of_same (k58 _)))
    gi_wp2
    exact⟨⟨k+1,hlt,by simp,HR.out,nr.drewN _⟩,by simp [intOf];omega⟩
  ·obtain rfl:k=air.length:=by omega
   have hz:(air.zip d.steps).take air.length=air.zip d.steps:=List.take_of_length_le (by simp;omega)
   rw [hz] at hall
   have HR:=Lib.hid (HP.out.trans (if_neg (by rw [hall];decide)))
   clear hall hz
   gi_wp2
   go_ret
   exact⟨by rw [HR.out]<;>rfl,nwr⟩
end Go.Proofs.Ytedomogjmhommaa
namespace Go.Proofs.Ytedomogjmhommaa
open Go.RowKit
abbrev StRow (w:World) (base:Nat) (v:Value) (xs:List St):Prop:=w.ownsRow base 24 3 v xs.length (xs.map St.cells).flatten
theorem follow45_any (d:Dry) (r:R2) (u1 u2:Value) (plan air:List Int) (w:World) (hd:DrySl w d r) (h1:Sl w u1 1 (plan.map one)) (h2:Sl w u2 1 (air.map one)) (hl1:plan.length≤1000000000) (hl2:air.length≤1000000000) :
  CallsIn FW 0 Try.prog 45 #[d.val r,u1,u2] w fun e w'=>∃ v,e=.returned (.tuple #[v,num (followF d plan air).2])∧Nx w w'∧StRow w' w.heap.size v (followF d plan air).1:=by
 have k39:=fun (w1:World) (n:Nx w w1)=>plan39_any d r u1 plan w1 (hd.nx n) (h1.nx n) hl1
 have k86:=fun (w1:World) (n:Nx w w1)=>air86_any d r u2 air w1 (hd.nx n) (h2.nx n) hl2
 have k82:=fun (hO:d.Ok) (hP:PA d plan air) (w1:World) (n:Nx w w1)=>follow82_any d r u1 u2 plan air w1 (hd.nx n) hO hP (h1.nx n) (h2.nx n) hl1
 obtain⟨a1,cap1,rfl⟩:=h1.cases
 obtain⟨a2,cap2,rfl⟩:=h2.cases
 have HD:=Lib.hid hd
 obtain⟨rh,rs⟩:=r
 obtain⟨ha,hcap,hrs⟩:=hd.heats.cases
 dsimp only at hrs
 subst hrs
 obtain⟨sa,scap,hrs⟩:=hd.steps.cases
 dsimp only at hrs
 subst hrs
 rw [List.length_map,List.length_map] at *
 rw [List.length_map,List.length_map] at *
 clear hd h1 h2
 obtain⟨g,hg⟩:∃ g,followF d plan air=g:=⟨_,rfl⟩
 rw [hg]
 have HG:=Lib.hid hg
 clear hg
 gi_enter Try.func45,Try.ntmps45
 gi_upto_region 1 with fail
 generalize hW:w.alloc _=W
 obtain⟨nW,hbW⟩:=DBox.of (d:=d) (r:=⟨_,_⟩) hW
 clear hW
 generalize hA:w.heap.size=A at *
 have c0:=hbW.at' 0 _ rfl
 have c1:=hbW.at' 1 _ rfl
 have c2:=hbW.at' 2 _ rfl
 have c3:=hbW.at' 3 _ rfl
 have c4:=hbW.at' 4 _ rfl
 have c5:=hbW.at' 5 _ rfl
 have c6:=hbW.at' 6 _ rfl
 by_cases q1:planF d plan=0
 case neg =>
  have HR:Hid (g=([],planF d plan)):=by show _=_;rw [← HG.out];unfold followF;rw [if_pos q1]
  have b1:(planF d plan == 0)=false:=beq_false_of_ne q1
  generalize planF d plan=f at *
  gi_wp2_with (first | (gi_at_call 39;refine CallsIn.mono (k39 _ nW) ?_;rintro e w2 ⟨rfl,n2⟩) | gi_in)
  go_ret2
  exact⟨_,by rw [HR.out]<;>rfl,nW.trans n2,by rw [HR.out];exact World.ownsRow_nil ..⟩
 case pos =>
 have HG1:Hid (g=if airF d air≠0 then ([],airF d air) else (followS d d.start plan air,0)):=by show _=_;rw [← HG.out];unfold followF;rw [if_neg (by simpa using q1)]
 have hO:=(planF_ok q1).1
 have HPA:=Lib.hid (fun h=>pa_of (air:=air) q1 h)
 rw [q1] at k39
 gi_upto_region 4 with (first | (gi_at_call 39;refine CallsIn.mono (k39 _ nW) ?_;rintro e w2 ⟨rfl,n2⟩) | gi_in)
 have nw2:=nW.trans n2
 have hb2:=hbW.nx n2
 clear c0 c1 c2 c3 c4 c5 c6 q1
 have c0:=hb2.at' 0 _ rfl
 have c1:=hb2.at' 1 _ rfl
 have c2:=hb2.at' 2 _ rfl
 have c3:=hb2.at' 3 _ rfl
 have c4:=hb2.at' 4 _ rfl
 have c5:=hb2.at' 5 _ rfl
 have c6:=hb2.at' 6 _ rfl
 by_cases q2:airF d air=0
 case neg =>
  have HR:Hid (g=([],airF d air)):=by show _=_;rw [HG1.out,if_pos q2]
  have b1:(airF d air == 0)=false:=beq_false_of_ne q2
  generalize airF d air=f at *
  gi_wp2_with (first | (gi_at_call 86;refine CallsIn.mono (k86 _ nw2) ?_;rintro e w3 ⟨rfl,n3⟩) | gi_in)
  go_ret2
  exact⟨_,by rw [HR.out]<;>rfl,nw2.trans n3,by rw [HR.out];exact World.ownsRow_nil ..⟩
 case pos =>
 have HR:Hid (g=(followS d d.start plan air,0)):=by show _=_;rw [HG1.out,if_neg (by simpa using q2)]
 have hPA:=HPA.out q2
 have hlen:=followS_len d d.start plan air hPA.len
 have k82:=k82 hO hPA
 rw [q2] at k86
 gi_upto_region 7 with (first | (gi_at_call 86;refine CallsIn.mono (k86 _ nw2) ?_;rintro e w3 ⟨rfl,n3⟩) | gi_in)
 have nw3:=nw2.trans n3
 have hb3:=hb2.nx n3
 clear c0 c1 c2 c3 c4 c5 c6 q2
 have c0:=hb3.at' 0 _ rfl
 have c1:=hb3.at' 1 _ rfl
 have c2:=hb3.at' 2 _ rfl
 have c3:=hb3.at' 3 _ rfl
 have c4:=hb3.at' 4 _ rfl
 have c5:=hb3.at' 5 _ rfl
 have c6:=hb3.at' 6 _ rfl
 have hAw:A≤w3.heap.size:=by have:=nw3.size;omega
 have HL:=Lib.hid hlen
 clear hlen hPA
 gi_wp2_with (first | (gi_at_call 82;refine CallsIn.mono (k82 _ nw3) ?_;rintro e w4 ⟨v,rfl,n4,hrow⟩) | gi_in)
 go_ret2
 exact⟨v,by rw [HR.out]<;>rfl,nw3.trans n4,by rw [HR.out];unfold StRow;dsimp only;rw [HL.out];exact own_base hrow (by omega)⟩
end Go.Proofs.Ytedomogjmhommaa
