import Derived.Test.YtedomogjmhommaaH07
set_option linter.all false
set_option maxRecDepth 100000
set_option maxHeartbeats 8000000
namespace Go.Proofs.Ytedomogjmhommaa
open Go.RowKit
theorem Sl.at1 {w wr:World} {b off:Nat} {xs:List Int} (hcl:∀ (j k:Nat) (z:List Value) (x:Value),(xs.map one)[j]?=some z→z[k]?=some x→w.cell? ⟨b,off+j * 1+k,none⟩=some x) (n:Nx w wr) (hb:b<w.heap.size) {k:Nat} {h:Int} (hk:xs[k]?=some h):wr.cell? ⟨b,off+k,none⟩=some (num h):=by
 have:=Sl.at (en:=one) hcl n hb hk 0 (v:=num h) rfl
 simpa using this
theorem zeV {w:World} {base base' e sz n:Nat} {v:Value} {xs:List Value} (h:w.ownsRow base e sz v n xs) (hb:base'≤base):w.ownsRow base' e sz v n xs:=by
 obtain⟨h1,h2⟩:=h
 refine⟨h1,h2.imp id ?_⟩
 rintro ⟨g,cap,cur,rfl,hb',r⟩
 exact⟨g,cap,cur,rfl,by omega,r⟩
theorem zfM (d:Dry) (B:Nat) (u1 u2:Value) (plan air:List Int) (w:World) (hst:StoveAt w B d) (hO:d.Ok) (hP:PA d plan air) (h1:Sl w u1 1 (plan.map one)) (h2:Sl w u2 1 (air.map one)) (hl:plan.length≤1000000000) :
  CallsIn FW 0 Try.prog 72 #[ptr B,u1,u2] w fun e w'=>∃ v,e=.returned v∧Nx w w'∧w'.ownsRow w.heap.size 24 3 v plan.length ((zaq d d.start plan air).map St.cells).flatten:=by
 have hO3:=hO.start
 have hsO:=stF_ok.1 hO3
 have hPl:=hP.len
 have k61:=fun (s:St) (hs:s.Ok d.heats.length) (k:Nat) (hv:Int×Int) (hk:d.heats[k]?=some hv) (a:Int) (ha:0≤a∧a≤3) (w1:World) (n:Nx w w1)=>zf9 d B s k hv a w1 (hst.nx n) hO hk hs ha
 obtain⟨a1,cap1,rfl⟩:=h1.cases
 obtain⟨a2,cap2,rfl⟩:=h2.cases
 have c3:=hst.s0
 have c4:=hst.s1
 have c5:=hst.s2
 have hB:=hst.lt
 rw [List.length_map] at *
 rw [List.length_map]
 have H1:=Lib.hid h1
 have H2:=Lib.hid h2
 have HP:=Lib.hid hP
 have HO:=Lib.hid hO
 clear h1 h2 hP hO hst hO3
 have HL:=Lib.hid hPl
 have hlen0:=Lib.hid (zbu d d.start plan air hPl)
 clear hPl
 gi_enter Try.func72,Try.ntmps72
 gi_upto_region 3 with fail
 generalize hW:w.alloc _=W
 obtain⟨nW,sW,g0⟩:=al1 hW
 clear hW c3 c4 c5
 generalize hX:w.heap.size=X at *
 gi_wp2
 have g00:W.heap[X]?=some (.cells (stAt d d.start plan air 0).cells.toArray 24 (0,0)):=by
  rw [g0]
  cases plan<;>cases air<;>rfl
 gi_loopw [7,18] (fun v i wr=>∃ k:Nat,k≤plan.length∧i=num k∧wr.ownsRow (X+1) 24 3 v k (((zaq d d.start plan air).take k).map St.cells).flatten∧wr.heap[X]?=some (.cells (stAt d d.start plan air k).cells.toArray 24 (0,0))∧Nx w wr∧X<wr.heap.size) (fun _ i _=>plan.length-(intOf i).toNat)
 case atStart=>exact⟨0,Nat.zero_le _,rfl,World.ownsRow_nil ..,g00,nW,by omega⟩
 case round =>
  obtain⟨k,hk,rfl,hown,gX,nr,hXl⟩:=hrel
  by_cases hlt:k<plan.length
  ·obtain⟨b,off,rfl,hbl,hcl⟩:=(H1.out).get (by simp;omega)
   obtain⟨b',off',rfl,hbl',hcl'⟩:=(H2.out).get (by simp;have:=HL.out;omega)
   have hh:plan[k]?=some plan[k]:=List.getElem?_eq_getElem hlt
   generalize plan[k]=h at hh
   have hka:k<air.length:=by have:=HL.out;omega
   have ha:air[k]?=some air[k]:=List.getElem?_eq_getElem hka
   generalize air[k]=a at ha
   have e0:=Sl.at1 hcl nr hbl hh
   have f0:=Sl.at1 hcl' nr hbl' ha
   have bh:=HP.out.p _ (List.mem_of_getElem? hh)
   have ba:=HP.out.a _ (List.mem_of_getElem? ha)
   have hok:=ziO HO.out HP.out hsO k hk
   have hsu:=zc9 d d.start plan air k h a hh ha
   have htk:=Lib.hid (zcO d d.start plan air k h a hh ha)
   have hlen:((zaq d d.start plan air).take k).length=k:=by rw [List.length_take,hlen0.out];omega
   have hhv:d.heats[h.toNat]?=some (zaM d h.toNat):=by
    have:h.toNat<d.heats.length:=by omega
    unfold zaM
    rw [List.getElem?_eq_getElem this]
    rfl
   have k61:=k61 _ hok h.toNat _ hhv a ba
   rw [show ((h.toNat:Nat):Int)=h by omega,← hsu] at k61
   have HS:=Lib.hid hsu
   clear hcl hcl' hh ha hsu hhv hok
   generalize stAt d d.start plan air k=s at *
   generalize hs' : stAt d d.start plan air (k+1)=s' at *
   have s0:wr.cell? ⟨X,0,none⟩=some (num s.w):=zaa gX rfl
   have s1:wr.cell? ⟨X,1,none⟩=some (num s.c):=zaa gX rfl
   have s2:wr.cell? ⟨X,2,none⟩=some (num s.h):=zaa gX rfl
   gi_upto_region 6 with fail
   refine zaX 7 rfl (by kernel_rfl) (by kernel_rfl) ?_
   simp only [List.take_succ_cons,List.take_zero,List.drop_succ_cons,List.drop_zero]
   repeat (gi_big_quiet_step (fail))
   refine wpQuietIn_nil ?_
   rintro w' ⟨nq,rfl⟩
   have nq4:Nx wr (wr.drewN nq):=(Nx.refl wr).drewN nq
   generalize wr.drewN nq=w4 at nq4 ⊢
   have k61:=k61 w4 (nr.trans nq4)
   have hX4:X<w4.heap.size:=Nat.lt_of_lt_of_le hXl nq4.size
   have g4:=(nq4.block X hXl).trans gX
   have hown4:=zck hown nq4
   clear s0 s1 s2 e0 f0
   gi_upto_region 7 with (first | (gi_at_call 61;refine CallsIn.mono k61 ?_;rintro e w5 ⟨rfl,n5⟩;have g5:=(n5.block X hX4).trans g4;have y0:=zaa (i:=0) g5 rfl;have y1:=zaa (i:=1) g5 rfl;have y2:=zaa (i:=2) g5 rfl;have z0:=zac (i:=0) g5;have z1:=zac (i:=1) g5;have z2:=zac (i:=2) g5) | gi_in)
   have gV:=set3 (v0:=num s'.w) (v1:=num s'.c) (v2:=num s'.h) g5
   have oth:∀ b,b≠X→(((w5.setCell ⟨X,0,none⟩ (num s'.w)).setCell ⟨X,1,none⟩ (num s'.c)).setCell ⟨X,2,none⟩ (num s'.h)).heap[b]?=w5.heap[b]?:=fun b hb=>(zae hb).trans ((zae hb).trans (zae hb))
   have sV:(((w5.setCell ⟨X,0,none⟩ (num s'.w)).setCell ⟨X,1,none⟩ (num s'.c)).setCell ⟨X,2,none⟩ (num s'.h)).heap.size=w5.heap.size:=by rw [zay,zay,zay]
   have nV:Nx w (((w5.setCell ⟨X,0,none⟩ (num s'.w)).setCell ⟨X,1,none⟩ (num s'.c)).setCell ⟨X,2,none⟩ (num s'.h)):=by
    repeat (refine Nx.set ?_ (by omega))
    exact nr.trans (nq4.trans n5)
   generalize ((w5.setCell ⟨X,0,none⟩ (num s'.w)).setCell ⟨X,1,none⟩ (num s'.c)).setCell ⟨X,2,none⟩ (num s'.h)=V at gV oth sV nV ⊢
   have hownV:=zbn (w':=V) (zck hown4 n5) (fun g hg=>oth g (by have:=(hown.lt g hg).1;omega))
   have v0:V.cell? ⟨X,0,none⟩=some (num s'.w):=zaa gV rfl
   have v1:V.cell? ⟨X,1,none⟩=some (num s'.c):=zaa gV rfl
   have v2:V.cell? ⟨X,2,none⟩=some (num s'.h):=zaa gV rfl
   have hVX:X<V.heap.size:=by have:=n5.size;omega
   clear y0 y1 y2 z0 z1 z2 g4 g5 gX sV
   gi_wp2_with (first | (gi_at_builtin;refine zaP T69 rfl _ _ rfl rfl (X+1) _ k (((zaq d d.start plan air).take k).map St.cells) rfl (zbi hownV _) (by rw [List.length_map];exact hlen) V.heap.size s'.cells rfl zaT rfl (by simp [Value.oneCell']) (by omega) (by omega) (by simp;omega) ?_;intro v' w7 hown7 hg7 hat7) | gi_in)
   have hrow:∀ g,u7.ownBlock=some g→X+1≤g:=fun g hg=>(hown.lt g hg).1
   have gX7:=(hg7.block X (by simp;omega) (fun e=>by have:=hrow X e.symm;omega)).trans ((zbq hVX).trans gV)
   have n7:Nx w w7:=Below.grown (zaj nV _) hg7 (zaj nV _).size (fun g hg=>by have:=hrow g hg;omega)
   have hX7:X<w7.heap.size:=zav gX7
   have e1:((zaq d d.start plan air).take k).map St.cells++[s'.cells]=((zaq d d.start plan air).take (k+1)).map St.cells:=by rw [htk.out,List.map_append];rfl
   rw [e1] at hown7
   exact⟨⟨k+1,hlt,by simp,hown7,by rw [hs'];exact gX7,n7,hX7⟩,by simp [intOf];omega⟩
  ·obtain rfl:k=plan.length:=by omega
   have hfull:(zaq d d.start plan air).take plan.length=zaq d d.start plan air:=List.take_of_length_le (by rw [hlen0.out];exact Nat.le_refl _)
   rw [hfull] at hown
   have hown:=Lib.hid hown
   gi_wp2
   go_ret
   exact⟨_,rfl,nr,zeV hown.out (by omega)⟩
end Go.Proofs.Ytedomogjmhommaa
namespace Go.Proofs.Ytedomogjmhommaa
open Go.RowKit
theorem zfA (d:Dry) (r:R2) (u1 u2:Value) (plan air:List Int) (w:World) (hd:DrySl w d r) (hO:d.Ok) (hP:PA d plan air) (h1:Sl w u1 1 (plan.map one)) (h2:Sl w u2 1 (air.map one)) (hl:plan.length≤1000000000) :
  CallsIn FW 0 Try.prog 82 #[d.val r,u1,u2] w fun e w'=>∃ v,e=.returned v∧Nx w w'∧w'.ownsRow w.heap.size 24 3 v plan.length ((zaq d d.start plan air).map St.cells).flatten:=by
 have hO3:=hO.start
 have hsO:=stF_ok.1 hO3
 have hPl:=hP.len
 have k61:=fun (s:St) (hs:s.Ok d.heats.length) (k:Nat) (hv:Int×Int) (hk:d.heats[k]?=some hv) (a:Int) (ha:0≤a∧a≤3) (w1:World) (n:Nx w w1)=>zl8 d r s k hv a w1 (hd.nx n) hO hk hs ha
 obtain⟨a1,cap1,rfl⟩:=h1.cases
 obtain⟨a2,cap2,rfl⟩:=h2.cases
 obtain⟨rh,rs⟩:=r
 obtain⟨ha,hcap,hrs⟩:=hd.heats.cases
 dsimp only at hrs
 subst hrs
 obtain⟨sa,scap,hrs⟩:=hd.steps.cases
 dsimp only at hrs
 subst hrs
 rw [List.length_map,List.length_map] at *
 rw [List.length_map] at *
 rw [List.length_map]
 have H1:=Lib.hid h1
 have H2:=Lib.hid h2
 have HP:=Lib.hid hP
 have HO:=Lib.hid hO
 clear h1 h2 hP hO hd hO3
 have HL:=Lib.hid hPl
 have hlen0:=Lib.hid (zbu d d.start plan air hPl)
 clear hPl
 gi_enter Try.func82,Try.ntmps82
 gi_upto_region 2 with fail
 generalize hU:w.alloc _=U
 obtain⟨nU,hbU⟩:=DBox.of (d:=d) (r:=⟨_,_⟩) hU
 have hUX:w.heap.size≤U.heap.size:=nU.size
 clear hU
 generalize hA:w.heap.size=A at *
 have c3:=hbU.at' 3 _ rfl
 have c4:=hbU.at' 4 _ rfl
 have c5:=hbU.at' 5 _ rfl
 gi_upto_region 3 with fail
 generalize hW:U.alloc _=W
 obtain⟨nW,sW,g0⟩:=al1 hW
 clear hW c3 c4 c5
 have hbW:=hbU.nx nW
 have nW:=nU.trans nW
 have hAX:A<U.heap.size:=hbU.lt
 clear nU hbU
 generalize hX:U.heap.size=X at *
 gi_wp2
 have g00:W.heap[X]?=some (.cells (stAt d d.start plan air 0).cells.toArray 24 (0,0)):=by
  rw [g0]
  cases plan<;>cases air<;>rfl
 gi_loopw [7,9] (fun v i wr=>∃ k:Nat,k≤plan.length∧i=num k∧wr.ownsRow (X+1) 24 3 v k (((zaq d d.start plan air).take k).map St.cells).flatten∧wr.heap[X]?=some (.cells (stAt d d.start plan air k).cells.toArray 24 (0,0))∧Nx w wr∧X<wr.heap.size∧DBox wr A d ⟨_,_⟩) (fun _ i _=>plan.length-(intOf i).toNat)
 case atStart=>exact⟨0,Nat.zero_le _,rfl,World.ownsRow_nil ..,g00,nW,by omega,hbW⟩
 case round =>
  obtain⟨k,hk,rfl,hown,gX,nr,hXl,hbr⟩:=hrel
  by_cases hlt:k<plan.length
  ·obtain⟨b,off,rfl,hbl,hcl⟩:=(H1.out).get (by simp;omega)
   obtain⟨b',off',rfl,hbl',hcl'⟩:=(H2.out).get (by simp;have:=HL.out;omega)
   have hh:plan[k]?=some plan[k]:=List.getElem?_eq_getElem hlt
   generalize plan[k]=h at hh
   have hka:k<air.length:=by have:=HL.out;omega
   have ha:air[k]?=some air[k]:=List.getElem?_eq_getElem hka
   generalize air[k]=a at ha
   have e0:=Sl.at1 hcl nr hbl hh
   have f0:=Sl.at1 hcl' nr hbl' ha
   have bh:=HP.out.p _ (List.mem_of_getElem? hh)
   have ba:=HP.out.a _ (List.mem_of_getElem? ha)
   have hok:=ziO HO.out HP.out hsO k hk
   have hsu:=zc9 d d.start plan air k h a hh ha
   have htk:=Lib.hid (zcO d d.start plan air k h a hh ha)
   have hlen:((zaq d d.start plan air).take k).length=k:=by rw [List.length_take,hlen0.out];omega
   have hhv:d.heats[h.toNat]?=some (zaM d h.toNat):=by
    have:h.toNat<d.heats.length:=by omega
    unfold zaM
    rw [List.getElem?_eq_getElem this]
    rfl
   have k61:=k61 _ hok h.toNat _ hhv a ba
   rw [show ((h.toNat:Nat):Int)=h by omega,← hsu] at k61
   have HS:=Lib.hid hsu
   clear hcl hcl' hh ha hsu hhv hok
   generalize stAt d d.start plan air k=s at *
   generalize hs' : stAt d d.start plan air (k+1)=s' at *
   have s0:wr.cell? ⟨X,0,none⟩=some (num s.w):=zaa gX rfl
   have s1:wr.cell? ⟨X,1,none⟩=some (num s.c):=zaa gX rfl
   have s2:wr.cell? ⟨X,2,none⟩=some (num s.h):=zaa gX rfl
   have c0:=hbr.at' 0 _ rfl
   have c1:=hbr.at' 1 _ rfl
   have c2:=hbr.at' 2 _ rfl
   have c3:=hbr.at' 3 _ rfl
   have c4:=hbr.at' 4 _ rfl
   have c5:=hbr.at' 5 _ rfl
   have c6:=hbr.at' 6 _ rfl
   gi_upto_region 6 with fail
   refine zaX 10 rfl (by kernel_rfl) (by kernel_rfl) ?_
   simp only [List.take_succ_cons,List.take_zero,List.drop_succ_cons,List.drop_zero]
   repeat (gi_big_quiet_step (fail))
   refine wpQuietIn_nil ?_
   rintro w' ⟨nq,rfl⟩
   have nq4:Nx wr (wr.drewN nq):=(Nx.refl wr).drewN nq
   generalize wr.drewN nq=w4 at nq4 ⊢
   have k61:=k61 w4 (nr.trans nq4)
   have hX4:X<w4.heap.size:=Nat.lt_of_lt_of_le hXl nq4.size
   have g4:=(nq4.block X hXl).trans gX
   have hown4:=zck hown nq4
   clear s0 s1 s2 e0 f0 c0 c1 c2 c3 c4 c5 c6
   gi_upto_region 7 with (first | (gi_at_call 36;refine CallsIn.mono k61 ?_;rintro e w5 ⟨rfl,n5⟩;have g5:=(n5.block X hX4).trans g4;have y0:=zaa (i:=0) g5 rfl;have y1:=zaa (i:=1) g5 rfl;have y2:=zaa (i:=2) g5 rfl;have z0:=zac (i:=0) g5;have z1:=zac (i:=1) g5;have z2:=zac (i:=2) g5) | gi_in)
   have gV:=set3 (v0:=num s'.w) (v1:=num s'.c) (v2:=num s'.h) g5
   have oth:∀ b,b≠X→(((w5.setCell ⟨X,0,none⟩ (num s'.w)).setCell ⟨X,1,none⟩ (num s'.c)).setCell ⟨X,2,none⟩ (num s'.h)).heap[b]?=w5.heap[b]?:=fun b hb=>(zae hb).trans ((zae hb).trans (zae hb))
   have sV:(((w5.setCell ⟨X,0,none⟩ (num s'.w)).setCell ⟨X,1,none⟩ (num s'.c)).setCell ⟨X,2,none⟩ (num s'.h)).heap.size=w5.heap.size:=by rw [zay,zay,zay]
   have nV:Nx w (((w5.setCell ⟨X,0,none⟩ (num s'.w)).setCell ⟨X,1,none⟩ (num s'.c)).setCell ⟨X,2,none⟩ (num s'.h)):=by
    repeat (refine Nx.set ?_ (by omega))
    exact nr.trans (nq4.trans n5)
   generalize ((w5.setCell ⟨X,0,none⟩ (num s'.w)).setCell ⟨X,1,none⟩ (num s'.c)).setCell ⟨X,2,none⟩ (num s'.h)=V at gV oth sV nV ⊢
   have hownV:=zbn (w':=V) (zck hown4 n5) (fun g hg=>oth g (by have:=(hown.lt g hg).1;omega))
   have v0:V.cell? ⟨X,0,none⟩=some (num s'.w):=zaa gV rfl
   have v1:V.cell? ⟨X,1,none⟩=some (num s'.c):=zaa gV rfl
   have v2:V.cell? ⟨X,2,none⟩=some (num s'.h):=zaa gV rfl
   have hVX:X<V.heap.size:=by have:=n5.size;omega
   clear y0 y1 y2 z0 z1 z2 g4 g5 gX sV
   gi_wp2_with (first | (gi_at_builtin;refine zaP T69 rfl _ _ rfl rfl (X+1) _ k (((zaq d d.start plan air).take k).map St.cells) rfl (zbi hownV _) (by rw [List.length_map];exact hlen) V.heap.size s'.cells rfl zaT rfl (by simp [Value.oneCell']) (by omega) (by omega) (by simp;omega) ?_;intro v' w7 hown7 hg7 hat7) | gi_in)
   have hrow:∀ g,u7.ownBlock=some g→X+1≤g:=fun g hg=>(hown.lt g hg).1
   have gX7:=(hg7.block X (by simp;omega) (fun e=>by have:=hrow X e.symm;omega)).trans ((zbq hVX).trans gV)
   have n7:Nx w w7:=Below.grown (zaj nV _) hg7 (zaj nV _).size (fun g hg=>by have:=hrow g hg;omega)
   have hX7:X<w7.heap.size:=zav gX7
   have hb7:DBox w7 A d ⟨_,_⟩:=⟨by omega,fun i v hv=>by
    have h1:=(hbr.nx (nq4.trans n5)).at' i v hv
    have h2:w7.heap[A]?=w5.heap[A]?:=(hg7.block A (by simp;omega) (fun e=>by have:=hrow A e.symm;omega)).trans ((zbq (by omega)).trans (oth A (by omega)))
    exact (World.cell?_of_block (a:=⟨A,i,none⟩) h2).trans h1⟩
   have e1:((zaq d d.start plan air).take k).map St.cells++[s'.cells]=((zaq d d.start plan air).take (k+1)).map St.cells:=by rw [htk.out,List.map_append];rfl
   rw [e1] at hown7
   exact⟨⟨k+1,hlt,by simp,hown7,by rw [hs'];exact gX7,n7,hX7,hb7⟩,by simp [intOf];omega⟩
  ·obtain rfl:k=plan.length:=by omega
   have hfull:(zaq d d.start plan air).take plan.length=zaq d d.start plan air:=List.take_of_length_le (by rw [hlen0.out];exact Nat.le_refl _)
   rw [hfull] at hown
   have hown:=Lib.hid hown
   gi_wp2
   go_ret
   exact⟨_,rfl,nr,zeV hown.out (by omega)⟩
end Go.Proofs.Ytedomogjmhommaa
namespace Go.Proofs.Ytedomogjmhommaa
open Go.RowKit
theorem zjA {d:Dry}:∀ {xs:List Stp} {was:Int} {plan:List Int},zc2 d xs was plan=0→plan.length=xs.length→∀ h∈plan,0≤h∧h≤(d.heats.length:Int)-1
 | _,_,[],_,_,h,hh=>by cases hh
 | [],_,_ :: _,_,e,_,_=>by simp at e
 | x :: xs,was,h0 :: hs,h,e,y,hy=>by
  unfold zc2 at h
  split at h
  ·cases h
  rename_i h1
  split at h
  ·cases h
  simp at e
  rcases List.mem_cons.1 hy with rfl | hy
  ·simpa using h1
  ·exact zjA h e y hy
theorem zcR {d:Dry} {plan:List Int} (h:zbp d plan=0):d.Ok∧plan.length=d.steps.length∧∀ h∈plan,0≤h∧h≤(d.heats.length:Int)-1:=by
 unfold zbp at h
 split at h
 ·contradiction
 rename_i h1
 unfold plF at h
 split at h
 ·cases h
 rename_i h2
 simp only [Decidable.not_not,ne_eq] at h1 h2
 exact⟨zdc h1,h2,zjA h h2⟩
end Go.Proofs.Ytedomogjmhommaa
namespace Go.Proofs.Ytedomogjmhommaa
open Go.RowKit
abbrev zq4 (w:World) (base:Nat) (v:Value) (xs:List St):Prop:=w.ownsRow base 24 3 v xs.length (xs.map St.cells).flatten
end Go.Proofs.Ytedomogjmhommaa
