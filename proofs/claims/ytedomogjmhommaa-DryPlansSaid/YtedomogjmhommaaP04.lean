import Derived.Test.YtedomogjmhommaaP03
set_option linter.all false
set_option maxRecDepth 100000
set_option maxHeartbeats 8000000
namespace Go.Proofs.Ytedomogjmhommaa
open Go.RowKit Go.Shelf
theorem zhH {α:Type} {p:α→Bool} {l:List α} {k:Nat} {a:α} (h:l[k]?=some a) (hp:p a=true) (hn:(l.take k).find? p=none):l.find? p=some a:=by
 have e:l=l.take k++a :: l.drop (k+1):=by
  rw [← zdx h,List.take_append_drop]
 rw [e,List.find?_append,hn,List.find?_cons_of_pos hp]
 rfl
theorem zjf {α:Type} {p:α→Bool} {l:List α} {k:Nat} {a:α} (h:l[k]?=some a) (hp:p a=false) (hn:(l.take k).find? p=none):(l.take (k+1)).find? p=none:=by
 rw [zcn h,List.find?_append,hn,List.find?_cons_of_neg (by simp [hp])]
 rfl
theorem zfd {d:Dry} (hO:d.Ok):(zaH d.steps).length≤1024:=by
 have h:=(zeg hO d.steps.length).1
 rw [zhw] at h
 exact Nat.le_trans h (by have:=hO.s5;exact Nat.pow_le_pow_right (by omega) (show d.steps.length≤5 by omega))
theorem zkE {d:Dry} (hO:d.Ok):(zbs d d.steps d.start.h).length≤1024:=by
 have h:=(zdG hO d.steps.length).1
 rw [zgW] at h
 exact Nat.le_trans h (by have:=hO.s5;exact Nat.pow_le_pow_right (by omega) (show d.steps.length≤5 by omega))
theorem zhJ (d:Dry):∀ (s:St) (hs aa:List Int),(zaq d s hs aa).length≤hs.length
 | s,[],aa=>by cases aa<;>exact Nat.le_refl _
 | s,h :: hs,[]=>Nat.zero_le _
 | s,h :: hs,a :: aa=>by
  have:=zhJ d (za9 d (zaM d h.toNat) s h a) hs aa
  simp only [zaq,List.length_cons]
  omega
theorem ISets.read {w:World} {v:Value} {M:List (List Int)} (h:ISets w v M) (hM:M≠[]):∃ (b o c:Nat) (vs:List Value),v=.slice (some ⟨b,o,none⟩) M.length c∧b<w.heap.size∧∀ (i:Nat) (l:List Int),M[i]?=some l→∃ (a:Option Addr) (c' : Nat),w.cell? ⟨b,o+i,none⟩=some (.slice a l.length c')∧Sl w (.slice a l.length c') 1 (l.map one):=by
 obtain⟨vs,h1,h2,h3⟩:=h
 obtain⟨a,c,e⟩:=h1.cases
 subst e
 obtain⟨b,o,rfl,hb,hc⟩:=h1.get (by rw [List.length_map,h2];exact List.length_pos_iff.2 hM)
 rw [List.length_map,h2]
 refine⟨b,o,c,vs,rfl,hb,fun i l hl=>?_⟩
 have hi:=(List.getElem?_eq_some_iff.1 hl).1
 have hv:vs[i]?=some (vs[i]'(by omega)):=List.getElem?_eq_getElem _
 have hs:=h3 i _ l hv hl
 obtain⟨a',c',e'⟩:=hs.cases
 rw [List.length_map] at e'
 rw [e'] at hs
 refine⟨a',c',?_,hs⟩
 have:=hc i 0 [.slice a' l.length c'] (.slice a' l.length c') (by rw [List.getElem?_map,hv,e'];rfl) rfl
 simpa using this
theorem zj9 {d:Dry} (hO:d.Ok):zaH d.steps≠[]:=by
 obtain⟨a,ha⟩:=zgk d.steps fun x hx=>(hO.st x hx).1.2.1
 intro e
 rw [e] at ha
 cases ha
theorem zkK (d:Dry) (r:R2) (u:Value) (plan:List Int) (w:World) (hd:DrySl w d r) (hu:Sl w u 1 (plan.map one)) (hl:plan.length≤1000000000) :
  CallsIn FW 0 Try.prog 27 #[d.val r,u] w fun e w'=>∃ v,e=.returned (.tuple #[v,num (zbL d plan).2.1,.bool (zbL d plan).2.2.1,num (zbL d plan).2.2.2])∧Nx w w'∧Sl w' v 1 ((zbL d plan).1.map one):=by
 have k39:=fun (w1:World) (n:Nx w w1)=>zhS d r u plan w1 (hd.nx n) (hu.nx n) hl
 have k69:=fun (hO:d.Ok) (w1:World) (n:Nx w w1)=>zfb d r w1 (hd.nx n) hO
 have k40:=fun (hO:d.Ok) (hP:∀ a∈zaH d.steps,PA d plan a) (hpl:plan.length=d.steps.length) (a:List Int) (ha:a∈zaH d.steps) (v:Value) (w1:World) (n:Nx w w1) (hv:Sl w1 v 1 (a.map one))=>zfx d r u v plan a w1 (hd.nx n) hO (hP a ha) hpl (hu.nx n) hv hl
 obtain⟨rh,rs⟩:=r
 obtain⟨ha,hcap,e1⟩:=hd.heats.cases
 obtain⟨sa,scap,e2⟩:=hd.steps.cases
 dsimp only at e1 e2
 rw [List.length_map] at e1 e2
 subst e1 e2
 obtain⟨ua,ucap,rfl⟩:=hu.cases
 rw [List.length_map] at *
 obtain⟨pl,hpe⟩:∃ n,plan.length=n:=⟨_,rfl⟩
 have HPE:=Lib.hid hpe
 rw [hpe] at k39 k40
 rw [hpe]
 clear hd hu hpe
 obtain⟨g,hg⟩:∃ g,zbL d plan=g:=⟨_,rfl⟩
 rw [hg]
 have HG:=Lib.hid hg
 clear hg
 gi_enter Try.func27,Try.ntmps27
 gi_upto_region 1 with fail
 generalize hW:w.alloc _=W
 obtain⟨nW,sW,g0⟩:=al1 hW
 clear hW
 have hbW:DBox W w.heap.size d ⟨.slice ha d.heats.length hcap,.slice sa d.steps.length scap⟩:=⟨by omega,fun i v h=>zaa g0 h⟩
 generalize w.heap.size=A at *
 have c0:=hbW.at' 0 _ rfl
 have c1:=hbW.at' 1 _ rfl
 have c2:=hbW.at' 2 _ rfl
 have c3:=hbW.at' 3 _ rfl
 have c4:=hbW.at' 4 _ rfl
 have c5:=hbW.at' 5 _ rfl
 have c6:=hbW.at' 6 _ rfl
 by_cases hp:zbp d plan=0
 case neg =>
  have HR:Hid (g=([],0,false,zbp d plan)):=by show _=_;rw [← HG.out];unfold zbL;rw [if_pos hp]
  have b1:(zbp d plan != 0)=true:=by simpa using hp
  generalize zbp d plan=f at *
  clear hp k40 k69
  gi_wp2_with (first | (gi_at_call 39;refine CallsIn.mono (k39 _ nW) ?_;rintro e w2 ⟨rfl,n2⟩) | gi_in)
  refine bodyPost_ret (v:=.tuple #[.slice none 0 0,num 0,.bool false,num f]) (by simp [results,Try.results27,go_sem]) rfl ⟨.slice none 0 0,by rw [HR.out]<;>rfl,nW.trans n2,?_⟩
  rw [HR.out]
  exact⟨0,.inl ⟨rfl,rfl⟩⟩
 case pos =>
 obtain⟨hO,hpl,hpb⟩:=zcR hp
 have HR:Hid (g=ziG d plan ((zaH d.steps).find? (fun a=>decide (0≤brk d (zaq d d.start plan a))))):=by show _=_;rw [← HG.out];unfold zbL;rw [if_neg (fun h=>h hp)]
 have k69:=k69 hO
 have k40:=k40 hO (fun a ha=>zfe hO hpl hpb ha) (HPE.out.symm.trans hpl)
 rw [hp] at k39
 have hcnt:=zfd hO
 have hne:=zj9 hO
 have HB:Hid (∀ a,brk d (zaq d d.start plan a)≤1000000000∧-1≤brk d (zaq d d.start plan a)):=fun a=>by
  rcases zgm d (zaq d d.start plan a) with ⟨h,_⟩ | ⟨k,hk,h,_⟩
  ·omega
  ·have:(zaq d d.start plan a).length≤plan.length:=zhJ d d.start plan a
   omega
 clear hp hpb hpl hO HG
 gi_upto_region 4 with (first | (gi_at_call 39;refine CallsIn.mono (k39 _ nW) ?_;rintro e w2 ⟨rfl,n2⟩) | gi_in)
 have hb2:=hbW.nx n2
 have nw2:=nW.trans n2
 clear c0 c1 c2 c3 c4 c5 c6
 have c0:=hb2.at' 0 _ rfl
 have c1:=hb2.at' 1 _ rfl
 have c2:=hb2.at' 2 _ rfl
 have c3:=hb2.at' 3 _ rfl
 have c4:=hb2.at' 4 _ rfl
 have c5:=hb2.at' 5 _ rfl
 have c6:=hb2.at' 6 _ rfl
 gi_upto_region 5 with (first | (gi_at_call 69;refine CallsIn.mono (k69 _ nw2) ?_;rintro e w3 ⟨vM,rfl,n3,hM⟩) | gi_in)
 have hb3:=hb2.nx n3
 have nw3:=nw2.trans n3
 obtain⟨mb,mo,mc,vs,rfl,hmb,hrd⟩:=hM.read hne
 have HRD:=Lib.hid hrd
 clear c0 c1 c2 c3 c4 c5 c6 hM hrd k39 k69
 generalize hMM:zaH d.steps=M at *
 gi_wp2
 gi_loopw [10] (fun i wr=>∃ k:Nat,k≤M.length∧i=num k∧Nx w3 wr∧(M.take k).find? (fun a=>decide (0≤brk d (zaq d d.start plan a)))=none) (fun i _=>M.length-(intOf i).toNat)
 case atStart=>exact⟨0,Nat.zero_le _,rfl,Nx.refl _,rfl⟩
 case round =>
  obtain⟨k,hk,rfl,nr,hnf⟩:=hrel
  have hbr:=hb3.nx nr
  have c0:=hbr.at' 0 _ rfl
  have c1:=hbr.at' 1 _ rfl
  have c2:=hbr.at' 2 _ rfl
  have c3:=hbr.at' 3 _ rfl
  have c4:=hbr.at' 4 _ rfl
  have c5:=hbr.at' 5 _ rfl
  have c6:=hbr.at' 6 _ rfl
  by_cases hlt:k<M.length
  ·have hp:M[k]?=some M[k]:=List.getElem?_eq_getElem hlt
   generalize M[k]=a at hp
   obtain⟨aa,ac,ca,hsa⟩:=HRD.out k a hp
   have k40:=fun (w1:World) (n:Nx w3 w1)=>k40 a (List.mem_of_getElem? hp) _ w1 (nw3.trans n) (hsa.nx n)
   have hbb:=HB.out a
   have HP:=Lib.hid hp
   have HNF:=Lib.hid hnf
   obtain⟨al,hal⟩:∃ n,a.length=n:=⟨_,rfl⟩
   have HS:=Lib.hid hsa
   rw [hal] at ca k40
   have HAL:=Lib.hid hal
   have HBR:Hid ((fun a=>decide (0≤brk d (zaq d d.start plan a))) a=decide (0≤brk d (zaq d d.start plan a))):=rfl
   have HGO:Hid (ziG d plan (some a)=(a,brk d (zaq d d.start plan a),true,0)):=rfl
   obtain⟨z,hz0⟩:∃ z,brk d (zaq d d.start plan a)=z:=⟨_,rfl⟩
   have HZ:=Lib.hid hz0
   rw [hz0] at k40 hbb HGO
   clear hp hsa hal hnf hz0
   have ca':=(nr.cell (p:=⟨mb,mo+k,none⟩) hmb).trans ca
   gi_upto_region 8 with fail
   refine zaX 6 rfl (by kernel_rfl) (by kernel_rfl) ?_
   simp only [List.take_succ_cons,List.take_zero,List.drop_succ_cons,List.drop_zero]
   repeat (gi_big_quiet_step (fail))
   refine wpQuietIn_nil ?_
   rintro w' ⟨nq,rfl⟩
   have nq4:Nx wr (wr.drewN nq):=(Nx.refl wr).drewN nq
   generalize wr.drewN nq=w4 at nq4 ⊢
   have n34:=nr.trans nq4
   have k40:=k40 _ n34
   clear c0 c1 c2 c3 c4 c5 c6 ca'
   by_cases hz:0≤z
   ·have b1:decide (z≥0)=true:=decide_eq_true hz
    have HF:Hid (g=(a,z,true,0)):=by
     show _=_
     rw [HR.out,zhH HP.out (by first | (rw [HBR.out];exact decide_eq_true hz) | (show decide _=true;rw [HZ.out];exact decide_eq_true hz)) HNF.out]
     exact HGO.out
    gi_upto_region 10 with (first | (gi_at_call 40;refine CallsIn.mono k40 ?_;rintro e w5 ⟨rfl,n5⟩) | gi_in)
    have n35:=n34.trans n5
    have ca5:=(n35.cell (p:=⟨mb,mo+k,none⟩) hmb).trans ca
    gi_wp2
    refine bodyPost_ret (v:=.tuple #[.slice aa al ac,num z,.bool true,num 0]) (by simp [results,Try.results27,go_sem]) rfl ⟨.slice aa al ac,by rw [HF.out]<;>rfl,nw3.trans n35,?_⟩
    rw [HF.out,← HAL.out]
    exact HS.out.nx n35
   ·have b1:decide (z≥0)=false:=decide_eq_false hz
    have HF:Hid ((M.take (k+1)).find? (fun a=>decide (0≤brk d (zaq d d.start plan a)))=none):=zjf HP.out (by first | (rw [HBR.out];exact decide_eq_false hz) | (show decide _=false;rw [HZ.out];exact decide_eq_false hz)) HNF.out
    gi_wp2_with (first | (gi_at_call 40;refine CallsIn.mono k40 ?_;rintro e w5 ⟨rfl,n5⟩) | gi_in)
    exact⟨⟨k+1,hlt,by simp,n34.trans n5,HF.out⟩,by simp [intOf];omega⟩
  ·obtain rfl:k=M.length:=by omega
   rw [List.take_length] at hnf
   have HF:Hid (g=([],0,false,0)):=by show _=_;rw [HR.out,hnf];rfl
   clear c0 c1 c2 c3 c4 c5 c6 hnf
   gi_wp2
   refine bodyPost_ret (v:=.tuple #[.slice none 0 0,num 0,.bool false,num 0]) (by simp [results,Try.results27,go_sem]) rfl ⟨.slice none 0 0,by rw [HF.out]<;>rfl,nw3.trans nr,?_⟩
   rw [HF.out]
   exact⟨0,.inl ⟨rfl,rfl⟩⟩
end Go.Proofs.Ytedomogjmhommaa
namespace Go.Proofs.Ytedomogjmhommaa
open Go.RowKit Go.Shelf
theorem zlr {d:Dry}:∀ (xs:List Stp) (was:Int) (p:List Int),p∈zbs d xs was→∀ h∈p,0≤h∧h≤(d.heats.length:Int)-1
 | [],was,p,hp,h,hh=>by
  have hp:p=[]:=by simpa [zbs] using hp
  subst hp
  cases hh
 | x :: xs,was,p,hp,h,hh=>by
  obtain⟨k,hk,h2⟩:=List.mem_flatMap.1 hp
  obtain⟨t,ht,rfl⟩:=List.mem_map.1 h2
  have hr:=List.mem_range.1 (List.mem_filter.1 hk).1
  rcases List.mem_cons.1 hh with rfl | hh
  ·omega
  ·exact zlr xs k t ht h hh
theorem zhV {d:Dry}:∀ (xs:List Stp) (was:Int),0≤was∧was≤(d.heats.length:Int)-1→∃ p,p∈zbs d xs was
 | [],was,_=>⟨[],by simp [zbs]⟩
 | x :: xs,was,hw=>by
  obtain⟨t,ht⟩:=zhV xs ((was.toNat:Nat):Int) (by rw [Int.toNat_of_nonneg hw.1];exact hw)
  refine⟨((was.toNat:Nat):Int) :: t,List.mem_flatMap.2 ⟨was.toNat,List.mem_filter.2 ⟨List.mem_range.2 (by omega),?_⟩,List.mem_map.2 ⟨t,ht,rfl⟩⟩⟩
  rw [Int.toNat_of_nonneg hw.1]
  exact znz hw
theorem zo2 {d:Dry} (hO:d.Ok):zbs d d.steps d.start.h≠[]:=by
 have hs:=(stF_ok.1 hO.start).h
 obtain⟨p,hp⟩:=zhV (d:=d) d.steps d.start.h hs
 intro e
 rw [e] at hp
 cases hp
theorem zka (d:Dry) (r:R2) (w:World) (hd:DrySl w d r) :
  CallsIn FW 0 Try.prog 24 #[d.val r] w fun e w'=>∃ v,e=.returned (.tuple #[v,.bool (zfw d).2.1,num (zfw d).2.2])∧Nx w w'∧Sl w' v 1 ((zfw d).1.map one):=by
 have k33:=fun (w1:World) (n:Nx w w1)=>zgq d r w1 (hd.nx n)
 have k68:=fun (hO:d.Ok) (w1:World) (n:Nx w w1)=>zkD d r w1 (hd.nx n) hO
 have k69:=fun (hO:d.Ok) (w1:World) (n:Nx w w1)=>zfb d r w1 (hd.nx n) hO
 have k40:=fun (hO:d.Ok) (plan:List Int) (hpp:plan∈zbs d d.steps d.start.h) (a:List Int) (ha:a∈zaH d.steps) (u v:Value) (w1:World) (n:Nx w w1) (hu:Sl w1 u 1 (plan.map one)) (hv:Sl w1 v 1 (a.map one))=>zfx d r u v plan a w1 (hd.nx n) hO (zfe hO (zdF _ _ _ hpp).1 (zlr _ _ _ hpp) ha) (zdF _ _ _ hpp).1 hu hv (by rw [(zdF _ _ _ hpp).1];have:=hd.sl;omega)
 obtain⟨rh,rs⟩:=r
 obtain⟨ha,hcap,e1⟩:=hd.heats.cases
 obtain⟨sa,scap,e2⟩:=hd.steps.cases
 dsimp only at e1 e2
 rw [List.length_map] at e1 e2
 subst e1 e2
 clear hd
 obtain⟨g,hg⟩:∃ g,zfw d=g:=⟨_,rfl⟩
 rw [hg]
 have HG:=Lib.hid hg
 clear hg
 gi_enter Try.func24,Try.ntmps24
 gi_upto_region 1 with fail
 generalize hW:w.alloc _=W
 obtain⟨nW,sW,g0⟩:=al1 hW
 clear hW
 have hbW:DBox W w.heap.size d ⟨.slice ha d.heats.length hcap,.slice sa d.steps.length scap⟩:=⟨by omega,fun i v h=>zaa g0 h⟩
 generalize w.heap.size=A at *
 have c0:=hbW.at' 0 _ rfl
 have c1:=hbW.at' 1 _ rfl
 have c2:=hbW.at' 2 _ rfl
 have c3:=hbW.at' 3 _ rfl
 have c4:=hbW.at' 4 _ rfl
 have c5:=hbW.at' 5 _ rfl
 have c6:=hbW.at' 6 _ rfl
 by_cases hp:dryF d=0
 case neg =>
  have HR:Hid (g=([],false,dryF d)):=by show _=_;rw [← HG.out];unfold zfw;rw [if_pos hp]
  have b1:(dryF d != 0)=true:=by simpa using hp
  generalize dryF d=f at *
  clear hp k40 k69 k68
  gi_wp2_with (first | (gi_at_call 33;refine CallsIn.mono (k33 _ nW) ?_;rintro e w2 ⟨rfl,n2⟩) | gi_in)
  refine bodyPost_ret (v:=.tuple #[.slice none 0 0,.bool false,num f]) (by simp [results,Try.results24,go_sem]) rfl ⟨.slice none 0 0,by rw [HR.out]<;>rfl,nW.trans n2,?_⟩
  rw [HR.out]
  exact⟨0,.inl ⟨rfl,rfl⟩⟩
 case pos =>
 have hO:=zdc hp
 have HR:Hid (g=zmR ((zbs d d.steps d.start.h).find? (zgK d))):=by show _=_;rw [← HG.out];unfold zfw;rw [if_neg (fun h=>h hp)]
 have k68:=k68 hO
 have k69:=k69 hO
 have k40:=k40 hO
 rw [hp] at k33
 have hcnt:=zfd hO
 have hcnt2:=zkE hO
 have hne:=zj9 hO
 have hne2:=zo2 hO
 have HH:Hid (∀ p,zgK d p=(zaH d.steps).all fun a=>decide (brk d (zaq d d.start p a)<0)):=fun _=>rfl
 clear hp hO HG
 gi_upto_region 4 with (first | (gi_at_call 33;refine CallsIn.mono (k33 _ nW) ?_;rintro e w2 ⟨rfl,n2⟩) | gi_in)
 obtain⟨W2,hren⟩:∃ z,z=w2:=⟨_,rfl⟩
 subst hren
 have hb2:=hbW.nx n2
 have nw2:=nW.trans n2
 have hBl:=hb2.lt
 clear c0 c1 c2 c3 c4 c5 c6
 have c0:=hb2.at' 0 _ rfl
 have c1:=hb2.at' 1 _ rfl
 have c2:=hb2.at' 2 _ rfl
 have c3:=hb2.at' 3 _ rfl
 have c4:=hb2.at' 4 _ rfl
 have c5:=hb2.at' 5 _ rfl
 have c6:=hb2.at' 6 _ rfl
 refine zat (Nx W2) 3 (by kernel_rfl) ?_
 obtain⟨Z,G,hN,hG,hG'⟩:=zaC (C:=Nx W2) (x:=W2) (Nx.refl _)
 have r0:=fun z=>((hG' z).cell (p:=⟨A,0,none⟩) hBl).trans c0
 have r1:=fun z=>((hG' z).cell (p:=⟨A,1,none⟩) hBl).trans c1
 have r2:=fun z=>((hG' z).cell (p:=⟨A,2,none⟩) hBl).trans c2
 have r3:=fun z=>((hG' z).cell (p:=⟨A,3,none⟩) hBl).trans c3
 have r4:=fun z=>((hG' z).cell (p:=⟨A,4,none⟩) hBl).trans c4
 have r5:=fun z=>((hG' z).cell (p:=⟨A,5,none⟩) hBl).trans c5
 have r6:=fun z=>((hG' z).cell (p:=⟨A,6,none⟩) hBl).trans c6
 change Go.wpAnyZ _ _ _ _ _ _ _ _ 6 #[false,false,false,false,false,false] _ _
 obtain⟨n1,s1⟩:Nx W2 W2.drew∧W2.drew.heap.size=W2.heap.size:=⟨Nx.drew (Nx.refl W2),rfl⟩
 generalize W2.drew=V at n1 s1 ⊢
 refine Go.zqE 0 hG (by kernel_rfl) (fun _ _ _ h=>by cases h.1) rfl ?_;intro o ho K hK;simp at ho;subst ho;gi_big_quiet_op;go_big_quiet_on
 refine Go.zqE 2 hG (by kernel_rfl) (fun _ _ _ h=>by cases h.1) rfl ?_;intro o ho K hK;simp at ho;subst ho;gi_big_quiet_op;go_big_quiet_on
 clear r0 r1 r2 r3 r4 r5 r6 hG hG' hN c0 c1 c2 c3 c4 c5 c6
 refine Go.zoE 1 (by kernel_rfl) rfl ?_ ?_;rotate_left;intro o ho K hK;simp at ho;subst ho
 gi_wp2_with (first | (gi_at_call 68;refine CallsIn.mono (k68 _ (nw2.trans n1)) ?_;rintro e w3 ⟨vL,rfl,n3,hL⟩) | gi_in)
 have n13:=n1.trans n3
 refine Go.zoE 3 (by kernel_rfl) rfl ?_ ?_;rotate_left;intro o ho K hK;simp at ho;subst ho
 gi_wp2_with (first | (gi_at_call 69;refine CallsIn.mono (k69 _ (nw2.trans n13)) ?_;rintro e w4 ⟨vM,rfl,n4,hM⟩) | gi_in)
 have n14:=n13.trans n4
 obtain⟨W4,hren⟩:∃ z,z=w4:=⟨_,rfl⟩
 subst hren
 have hb4:=hb2.nx n14
 have nw4:=nw2.trans n14
 obtain⟨mb,mo,mc,vs,rfl,hmb,hrd⟩:=hM.read hne
 obtain⟨lb,lo,lc,us,rfl,hlb,hrl⟩:=(hL.nx n4).read hne2
 have HRD:=Lib.hid hrd
 have HRL:=Lib.hid hrl
 refine Go.zoE 4 (by kernel_rfl) rfl ?_ ?_;rotate_left;intro o ho K hK;simp at ho;subst ho
 gi_wp2_with fail
 refine Go.zoE 5 (by kernel_rfl) rfl ?_ ?_;rotate_left;intro o ho K hK;simp at ho;subst ho
 gi_wp2_with fail
 refine zar (by kernel_rfl) (fun h=>absurd h (by decide)) ⟨rfl,?_⟩
 rotate_left
 all_goals try (intro _;first | exact n1 | exact n13 | exact n14 | contradiction)
 clear hM hrd hL hrl k33 k68 k69
 generalize hMM:zaH d.steps=M at *
 generalize hLL:zbs d d.steps d.start.h=L at *
 gi_wp2
 gi_loopw [8] (fun i wr=>∃ p:Nat,p≤L.length∧i=num p∧Nx W4 wr∧(L.take p).find? (zgK d)=none) (fun i _=>L.length-(intOf i).toNat)
 case atStart=>exact⟨0,Nat.zero_le _,rfl,Nx.refl _,rfl⟩
 case round =>
  obtain⟨WR,hren⟩:∃ z,z=wr:=⟨_,rfl⟩
  subst hren
  obtain⟨p,hp,rfl,nr,hnf⟩:=hrel
  by_cases hlt:p<L.length
  ·have hpl:L[p]?=some L[p]:=List.getElem?_eq_getElem hlt
   generalize L[p]=plan at hpl
   obtain⟨pa,pc,cp,hsp⟩:=HRL.out p plan hpl
   have k40:=k40 plan (List.mem_of_getElem? hpl)
   have HP:=Lib.hid hpl
   have HNF:=Lib.hid hnf
   have HSP:=Lib.hid hsp
   obtain⟨pl,hpe⟩:∃ n,plan.length=n:=⟨_,rfl⟩
   rw [hpe] at cp
   have HPE:=Lib.hid hpe
   clear hpl hnf hsp hpe
   gi_wp2
   gi_loopw [9] (fun i wr=>∃ q:Nat,q≤M.length∧i=num q∧Nx WR wr∧((M.take q).all fun a=>decide (brk d (zaq d d.start plan a)<0))=true) (fun i _=>M.length-(intOf i).toNat)
   case atStart=>exact⟨0,Nat.zero_le _,rfl,Nx.refl _,rfl⟩
   case round =>
    obtain⟨WI,hren⟩:∃ z,z=wr:=⟨_,rfl⟩
    subst hren
    obtain⟨q,hq,rfl,ni,hall⟩:=hrel
    have n4i:=nr.trans ni
    have hbi:=hb4.nx n4i
    have hBi:=hbi.lt
    have cp':=(n4i.cell (p:=⟨lb,lo+p,none⟩) hlb).trans cp
    have hlbi:lb<WI.heap.size:=Nat.lt_of_lt_of_le hlb n4i.size
    have hmbi:mb<WI.heap.size:=Nat.lt_of_lt_of_le hmb n4i.size
    have c0:=hbi.at' 0 _ rfl
    have c1:=hbi.at' 1 _ rfl
    have c2:=hbi.at' 2 _ rfl
    have c3:=hbi.at' 3 _ rfl
    have c4:=hbi.at' 4 _ rfl
    have c5:=hbi.at' 5 _ rfl
    have c6:=hbi.at' 6 _ rfl
    by_cases hlt2:q<M.length
    ·have hma:M[q]?=some M[q]:=List.getElem?_eq_getElem hlt2
     generalize M[q]=a at hma
     obtain⟨aa,ac,ca,hsa⟩:=HRD.out q a hma
     have ca':=(n4i.cell (p:=⟨mb,mo+q,none⟩) hmb).trans ca
     have k40:=fun (w1:World) (n:Nx W4 w1)=>k40 a (List.mem_of_getElem? hma) _ _ w1 (nw4.trans n) (HSP.out.nx n) (hsa.nx n)
     obtain⟨al,hal⟩:∃ n,a.length=n:=⟨_,rfl⟩
     rw [hal] at ca' k40
     rw [HPE.out] at k40
     have HMA:=Lib.hid hma
     obtain⟨z,hz0⟩:∃ z,brk d (zaq d d.start plan a)=z:=⟨_,rfl⟩
     have HZ:=Lib.hid hz0
     rw [hz0] at k40
     have HALL:=Lib.hid hall
     have b1:decide ((q:Int)<(M.length:Int))=true:=decide_eq_true (by omega)
     clear ca hsa hma hal hz0 hall
     gi_upto_region 9 with fail
     refine zat (Nx WI) 16 (by kernel_rfl) ?_
     obtain⟨Z,G,hN,hG,hG'⟩:=zaC (C:=Nx WI) (x:=WI) (Nx.refl _)
     have r0:=fun z=>((hG' z).cell (p:=⟨A,0,none⟩) hBi).trans c0
     have r1:=fun z=>((hG' z).cell (p:=⟨A,1,none⟩) hBi).trans c1
     have r2:=fun z=>((hG' z).cell (p:=⟨A,2,none⟩) hBi).trans c2
     have r3:=fun z=>((hG' z).cell (p:=⟨A,3,none⟩) hBi).trans c3
     have r4:=fun z=>((hG' z).cell (p:=⟨A,4,none⟩) hBi).trans c4
     have r5:=fun z=>((hG' z).cell (p:=⟨A,5,none⟩) hBi).trans c5
     have r6:=fun z=>((hG' z).cell (p:=⟨A,6,none⟩) hBi).trans c6
     have t0:=fun z=>((hG' z).cell (p:=⟨lb,lo+p,none⟩) hlbi).trans cp'
     have t1:=fun z=>((hG' z).cell (p:=⟨mb,mo+q,none⟩) hmbi).trans ca'
     change Go.wpAnyZ _ _ _ _ _ _ _ _ 17 #[false,false,false,false,false,false,false,false,false,false,false,false,false,false,false,false,false] _ _
     obtain⟨n5,s5⟩:Nx WI WI.drew∧WI.drew.heap.size=WI.heap.size:=⟨Nx.drew (Nx.refl WI),rfl⟩
     generalize WI.drew=V5 at n5 s5 ⊢
     refine Go.zqE 0 hG (by kernel_rfl) (fun _ _ _ h=>by cases h.1) rfl ?_;intro o ho K hK;simp at ho;subst ho;gi_big_quiet_op;go_big_quiet_on
     refine Go.zqE 1 hG (by kernel_rfl) (fun _ _ _ h=>by cases h.1) rfl ?_;intro o ho K hK;simp at ho;subst ho;gi_big_quiet_op;go_big_quiet_on
     refine Go.ztE 2 (by kernel_rfl) (fun _ _ _ h=>by cases h.1) ?_;intro o ho;simp at ho;subst ho;refine⟨_,Go.yC_len rfl (fun _=>by simp [go_sem]),?_⟩;simp only [Go.Act.put,List.setIfInBounds_toArray,List.set_cons_succ,List.set_cons_zero]
     refine Go.zqE 3 hG (by kernel_rfl) (fun _ _ _ h=>by cases h.1) rfl ?_;intro o ho K hK;simp at ho;subst ho;gi_big_quiet_op;go_big_quiet_on
     refine Go.zqE 4 hG (by kernel_rfl) (fun _ _ _ h=>by cases h.1) rfl ?_;intro o ho K hK;simp at ho;subst ho;gi_big_quiet_op;go_big_quiet_on
     refine Go.zqE 5 hG (by kernel_rfl) (fun _ _ _ h=>by cases h.1) rfl ?_;intro o ho K hK;simp at ho;subst ho;gi_big_quiet_op;go_big_quiet_on
     refine Go.zqE 6 hG (by kernel_rfl) (fun _ _ _ h=>by cases h.1) rfl ?_;intro o ho K hK;simp at ho;subst ho;gi_big_quiet_op;go_big_quiet_on
     refine Go.zqE 7 hG (by kernel_rfl) (fun _ _ _ h=>by cases h.1) rfl ?_;intro o ho K hK;simp at ho;subst ho;gi_big_quiet_op;go_big_quiet_on
     refine Go.zqE 8 hG (by kernel_rfl) (fun _ _ _ h=>by cases h.1) rfl ?_;intro o ho K hK;simp at ho;subst ho;gi_big_quiet_op;go_big_quiet_on
     refine Go.zqE 9 hG (by kernel_rfl) (fun _ _ _ h=>by cases h.1) rfl ?_;intro o ho K hK;simp at ho;subst ho;gi_big_quiet_op;go_big_quiet_on
     refine Go.zqE 10 hG (by kernel_rfl) (fun _ _ _ h=>by cases h.1) rfl ?_;intro o ho K hK;simp at ho;subst ho;gi_big_quiet_op;go_big_quiet_on
     refine Go.zqE 11 hG (by kernel_rfl) (fun _ _ _ h=>by cases h.1) rfl ?_;intro o ho K hK;simp at ho;subst ho;gi_big_quiet_op;go_big_quiet_on
     refine Go.zqE 12 hG (by kernel_rfl) (fun _ _ _ h=>by cases h.1) rfl ?_;intro o ho K hK;simp at ho;subst ho;gi_big_quiet_op;go_big_quiet_on
     refine Go.zqE 13 hG (by kernel_rfl) (fun _ _ _ h=>by cases h.1) rfl ?_;intro o ho K hK;simp at ho;subst ho;gi_big_quiet_op;go_big_quiet_on
     clear r0 r1 r2 r3 r4 r5 r6 t0 t1 hG hG' hN
     refine Go.zoE 14 (by kernel_rfl) rfl ?_ ?_;rotate_left;intro o ho K hK;simp at ho;subst ho
     gi_wp2_with (first | (gi_at_call 40;refine CallsIn.mono (k40 _ (n4i.trans n5)) ?_;rintro e w6 ⟨rfl,n6⟩) | gi_in)
     have n56:=n5.trans n6
     by_cases hz:z<0
     ·have b2:decide (z<0)=true:=decide_eq_true hz
      refine Go.zoE 15 (by kernel_rfl) rfl ?_ ?_;rotate_left;intro o ho K hK;simp at ho;subst ho
      gi_wp2_with fail
      refine Go.zoE 16 (by kernel_rfl) rfl ?_ ?_;rotate_left;intro o ho K hK;simp at ho;subst ho
      gi_wp2_with fail
      refine zar (by kernel_rfl) (fun h=>absurd h (by decide)) ⟨rfl,?_⟩
      ·have hq2:((M.take (q+1)).all fun a=>decide (brk d (zaq d d.start plan a)<0))=true:=by
        rw [zcn HMA.out,List.all_append,HALL.out]
        simp [HZ.out,hz]
       have HQ:=Lib.hid hq2
       clear c0 c1 c2 c3 c4 c5 c6 cp' ca' hq2
       gi_wp2
       exact⟨⟨q+1,hlt2,by simp,ni.trans n56,HQ.out⟩,by simp [intOf];omega⟩
      all_goals (intro _;first | exact n5 | exact n56 | contradiction)
     ·have b2:decide (z<0)=false:=decide_eq_false hz
      refine Go.zoE 15 (by kernel_rfl) rfl ?_ ?_;rotate_left;intro o ho K hK;simp at ho;subst ho
      gi_wp2_with fail
      refine Go.zoE 16 (by kernel_rfl) rfl ?_ ?_;rotate_left;intro o ho K hK;simp at ho;subst ho
      gi_wp2_with fail
      refine zar (by kernel_rfl) (fun h=>absurd h (by decide)) ⟨rfl,?_⟩
      ·have hq2:(L.take (p+1)).find? (zgK d)=none:=by
        refine zjf HP.out ?_ HNF.out
        rw [HH.out plan,List.all_eq_false]
        exact⟨a,List.mem_of_getElem? HMA.out,by rw [HZ.out];simp;omega⟩
       have HQ:=Lib.hid hq2
       have b3:((q:Int) == (M.length:Int))=false:=by simp;omega
       clear c0 c1 c2 c3 c4 c5 c6 cp' ca' hq2
       gi_wp2
       exact⟨⟨p+1,hlt,by simp,(n4i.trans n56),HQ.out⟩,by simp [intOf];omega⟩
      all_goals (intro _;first | exact n5 | exact n56 | contradiction)
     all_goals exact fun _=>n5
    ·obtain rfl:q=M.length:=by omega
     rw [List.take_length] at hall
     have HF:Hid (g=(plan,true,0)):=by
      show _=_
      rw [HR.out,zhH HP.out (by rw [HH.out plan];exact hall) HNF.out]
      rfl
     have b1:decide (((M.length:Nat):Int)<(M.length:Int))=false:=decide_eq_false (by omega)
     clear hall
     gi_upto_region 9 with fail
     refine zat (Nx WI) 16 (by kernel_rfl) ?_
     obtain⟨Z,G,hN,hG,hG'⟩:=zaC (C:=Nx WI) (x:=WI) (Nx.refl _)
     change Go.wpAnyZ _ _ _ _ _ _ _ _ 17 #[false,false,false,false,false,false,false,false,false,false,false,false,false,false,false,false,false] _ _
     obtain⟨n5,s5⟩:Nx WI WI.drew∧WI.drew.heap.size=WI.heap.size:=⟨Nx.drew (Nx.refl WI),rfl⟩
     generalize WI.drew=V5 at n5 s5 ⊢
     refine Go.zqE 0 hG (by kernel_rfl) (fun _ _ _ h=>by cases h.1) rfl ?_;intro o ho K hK;simp at ho;subst ho;gi_big_quiet_op;go_big_quiet_on
     refine Go.zqE 1 hG (by kernel_rfl) (fun _ _ _ h=>by cases h.1) rfl ?_;intro o ho K hK;simp at ho;subst ho;gi_big_quiet_op;go_big_quiet_on
     refine Go.ztE 2 (by kernel_rfl) (fun _ _ _ h=>by cases h.1) ?_;intro o ho;simp at ho;subst ho;refine⟨_,Go.yC_len rfl (fun _=>by simp [go_sem]),?_⟩;simp only [Go.Act.put,List.setIfInBounds_toArray,List.set_cons_succ,List.set_cons_zero]
     refine Go.zqE 3 hG (by kernel_rfl) (fun _ _ _ h=>by cases h.1) rfl ?_;intro o ho K hK;simp at ho;subst ho;gi_big_quiet_op;go_big_quiet_on
     refine Go.zqE 4 hG (by kernel_rfl) (fun _ _ _ h=>by cases h.1) rfl ?_;intro o ho K hK;simp at ho;subst ho;gi_big_quiet_op;go_big_quiet_on
     refine Go.ztE 5 (by kernel_rfl) (fun _ _ _ h=>by cases h.1) ?_;intro o ho;simp at ho;subst ho;refine⟨_,Go.yC_not (fun _=>trivial) rfl,?_⟩;simp only [Go.Act.put,List.setIfInBounds_toArray,List.set_cons_succ,List.set_cons_zero]
     refine Go.ztE 6 (by kernel_rfl) (fun _ _ _ h=>by cases h.1) ?_;intro o ho;simp at ho;subst ho;refine⟨_,Go.yC_not (fun _=>trivial) rfl,?_⟩;simp only [Go.Act.put,List.setIfInBounds_toArray,List.set_cons_succ,List.set_cons_zero]
     refine Go.ztE 7 (by kernel_rfl) (fun _ _ _ h=>by cases h.1) ?_;intro o ho;simp at ho;subst ho;refine⟨_,Go.yC_not (fun _=>trivial) rfl,?_⟩;simp only [Go.Act.put,List.setIfInBounds_toArray,List.set_cons_succ,List.set_cons_zero]
     refine Go.ztE 8 (by kernel_rfl) (fun _ _ _ h=>by cases h.1) ?_;intro o ho;simp at ho;subst ho;refine⟨_,Go.yC_not (fun _=>trivial) rfl,?_⟩;simp only [Go.Act.put,List.setIfInBounds_toArray,List.set_cons_succ,List.set_cons_zero]
     refine Go.ztE 9 (by kernel_rfl) (fun _ _ _ h=>by cases h.1) ?_;intro o ho;simp at ho;subst ho;refine⟨_,Go.yC_not (fun _=>trivial) rfl,?_⟩;simp only [Go.Act.put,List.setIfInBounds_toArray,List.set_cons_succ,List.set_cons_zero]
     refine Go.ztE 10 (by kernel_rfl) (fun _ _ _ h=>by cases h.1) ?_;intro o ho;simp at ho;subst ho;refine⟨_,Go.yC_not (fun _=>trivial) rfl,?_⟩;simp only [Go.Act.put,List.setIfInBounds_toArray,List.set_cons_succ,List.set_cons_zero]
     refine Go.ztE 11 (by kernel_rfl) (fun _ _ _ h=>by cases h.1) ?_;intro o ho;simp at ho;subst ho;refine⟨_,Go.yC_not (fun _=>trivial) rfl,?_⟩;simp only [Go.Act.put,List.setIfInBounds_toArray,List.set_cons_succ,List.set_cons_zero]
     refine Go.ztE 12 (by kernel_rfl) (fun _ _ _ h=>by cases h.1) ?_;intro o ho;simp at ho;subst ho;refine⟨_,Go.yC_not (fun _=>trivial) rfl,?_⟩;simp only [Go.Act.put,List.setIfInBounds_toArray,List.set_cons_succ,List.set_cons_zero]
     refine Go.ztE 13 (by kernel_rfl) (fun _ _ _ h=>by cases h.1) ?_;intro o ho;simp at ho;subst ho;refine⟨_,Go.yC_not (fun _=>trivial) rfl,?_⟩;simp only [Go.Act.put,List.setIfInBounds_toArray,List.set_cons_succ,List.set_cons_zero]
     refine Go.ztE 14 (by kernel_rfl) (fun _ _ _ h=>by cases h.1) ?_;intro o ho;simp at ho;subst ho;refine⟨_,Go.yC_not (fun _=>trivial) rfl,?_⟩;simp only [Go.Act.put,List.setIfInBounds_toArray,List.set_cons_succ,List.set_cons_zero]
     refine Go.ztE 15 (by kernel_rfl) (fun _ _ _ h=>by cases h.1) ?_;intro o ho;simp at ho;subst ho;refine⟨_,Go.yC_not (fun _=>trivial) rfl,?_⟩;simp only [Go.Act.put,List.setIfInBounds_toArray,List.set_cons_succ,List.set_cons_zero]
     clear hG hG' hN
     refine Go.zoE 16 (by kernel_rfl) rfl ?_ ?_;rotate_left;intro o ho K hK;simp at ho;subst ho
     gi_wp2_with fail
     refine zar (by kernel_rfl) (fun h=>absurd h (by decide)) ⟨rfl,?_⟩
     ·have n45:=n4i.trans n5
      have cp5:=(n45.cell (p:=⟨lb,lo+p,none⟩) hlb).trans cp
      clear c0 c1 c2 c3 c4 c5 c6 cp'
      gi_wp2
      refine bodyPost_ret (v:=.tuple #[.slice pa pl pc,.bool true,num 0]) (by simp [results,Try.results24,go_sem]) rfl ⟨.slice pa pl pc,by rw [HF.out]<;>rfl,nw4.trans n45,?_⟩
      rw [HF.out,← HPE.out]
      exact HSP.out.nx n45
     all_goals (intro _;first | exact n5 | contradiction)
  ·obtain rfl:p=L.length:=by omega
   rw [List.take_length] at hnf
   have HF:Hid (g=([],false,0)):=by show _=_;rw [HR.out,hnf];rfl
   clear hnf
   gi_wp2
   refine bodyPost_ret (v:=.tuple #[.slice none 0 0,.bool false,num 0]) (by simp [results,Try.results24,go_sem]) rfl ⟨.slice none 0 0,by rw [HF.out]<;>rfl,nw4.trans nr,?_⟩
   rw [HF.out]
   exact⟨0,.inl ⟨rfl,rfl⟩⟩
end Go.Proofs.Ytedomogjmhommaa
