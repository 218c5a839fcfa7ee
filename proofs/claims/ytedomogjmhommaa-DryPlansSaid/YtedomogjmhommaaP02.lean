import Derived.Test.YtedomogjmhommaaP01
set_option linter.all false
set_option maxRecDepth 100000
set_option maxHeartbeats 8000000
namespace Go.Proofs.Ytedomogjmhommaa
open Go.RowKit Go.Shelf
theorem zli (d:Dry) (x:Stp) (was:Int):(mays d x was).length≤d.heats.length:=by
 unfold mays
 refine Nat.le_trans (List.length_filter_le ..) ?_
 simp
theorem zdG {d:Dry} (hO:d.Ok):∀ i,(zbY d i).length≤4 ^ i∧∀ l∈zbY d i,l.length=i∧∀ h∈l,0≤h∧h≤3
 | 0=>⟨Nat.le_refl _,fun l hl=>by rw [List.mem_singleton.1 hl];exact⟨rfl,fun h hh=>by cases hh⟩⟩
 | i+1=>by
  obtain⟨h1,h2⟩:=zdG hO i
  have h4:=hO.h4
  cases hx:d.steps[i]? with
  | none=>rw [zbY,hx];exact⟨Nat.zero_le _,fun l hl=>by cases hl⟩
  | some x =>
   rw [zdE hx]
   refine⟨?_,fun l hl=>?_⟩
   ·have:=zeN (F:=fun p:List Int=>(mays d x (p.getLastD d.start.h)).map fun h:Nat=>p++[(h:Int)]) (m:=4) (fun p=>by have:=zli d x (p.getLastD d.start.h);rw [List.length_map];omega) (zbY d i)
    rw [Nat.pow_succ]
    omega
   ·obtain⟨p,hp,h⟩:=List.mem_flatMap.1 hl
    obtain⟨a,ha,rfl⟩:=List.mem_map.1 h
    refine⟨by simp [(h2 p hp).1],fun h hh=>?_⟩
    rcases List.mem_append.1 hh with hh | hh
    ·exact (h2 p hp).2 h hh
    ·have:=List.mem_range.1 (List.mem_filter.1 ha).1
     rw [List.mem_singleton.1 hh]
     omega
def zfW (d:Dry) (x:Stp) (was:Int) (c:Nat):List Nat:=(List.range c).filter fun h=>mayB d.heats.length x was h
theorem zd0 (d:Dry) (x:Stp) (was:Int) (c:Nat):zfW d x was (c+1)=if mayB d.heats.length x was c=true then zfW d x was c++[c] else zfW d x was c:=by
 unfold zfW
 rw [List.range_succ,List.filter_append]
 by_cases h:mayB d.heats.length x was c=true
 ·rw [if_pos h];simp [h]
 ·rw [if_neg h];simp [h]
theorem zjq (d:Dry) (x:Stp) (was:Int) (c:Nat):(zfW d x was c).length≤c:=by
 unfold zfW
 refine Nat.le_trans (List.length_filter_le ..) ?_
 simp
theorem last_at {p:List Int} {k:Nat} {z:Int} (h:p.length=k) (hk:0<k):p[k-1]?=some (p.getLastD z):=by
 subst h
 rw [List.getLastD_eq_getLast?,List.getLast?_eq_getElem?]
 rw [List.getElem?_eq_getElem (by omega)]
 rfl
theorem zkD (d:Dry) (r:R2) (w:World) (hd:DrySl w d r) (hO:d.Ok):CallsIn FW 0 Try.prog 68 #[d.val r] w fun e w'=>∃ v,e=.returned v∧Nx w w'∧ISets w' v (zbs d d.steps d.start.h):=by
 rw [← zgW]
 obtain⟨rh,rs⟩:=r
 obtain⟨ha,hcap,e1⟩:=hd.heats.cases
 obtain⟨sa,scap,e2⟩:=hd.steps.cases
 dsimp only at e1 e2
 rw [List.length_map] at e1 e2
 subst e1 e2
 have hs5:=hO.s5
 have hh4:=hO.h4
 have HS:=Lib.hid hd.steps
 have HD:=Lib.hid hd
 have HO:=Lib.hid hO
 have HL:=Lib.hid (zdG hO)
 have hstb:=(stF_ok.1 hO.start).h
 clear hd hO
 gi_enter Try.func68,Try.ntmps68
 gi_upto_region 1 with fail
 generalize hW:w.alloc _=W
 obtain⟨nW,sW,g0⟩:=al1 hW
 clear hW
 have hbW:DBox W w.heap.size d ⟨.slice ha d.heats.length hcap,.slice sa d.steps.length scap⟩:=⟨by omega,fun i v h=>zaa g0 h⟩
 have c6:=hbW.at' 6 _ rfl
 generalize hA:w.heap.size=A at *
 gi_upto_region 2 with fail
 generalize hX:W.alloc _=X
 obtain⟨nX,sX,gX⟩:=al1 hX
 clear hX
 have hbX:=hbW.nx nX
 have nwX:=nW.trans nX
 have i0:IRows X (A+1) (.slice (some ⟨A+1,0,none⟩) 1 1) (zbY d 0) [.slice none 0 0]:=by
  rw [show W.heap.size=A+1 by omega] at gX
  refine⟨⟨rfl,.inr ⟨A+1,1,_,rfl,by omega,gX,Nat.le_refl _,by simp [maxLen],by simp,by simp⟩⟩,rfl,fun j u l hu hl=>?_⟩
  have hj:j=0:=by have:=(List.getElem?_eq_some_iff.1 hu).1;simp at this;omega
  subst hj
  cases hu
  cases hl
  exact⟨World.ownsRow_nil ..,fun g hg=>by cases hg⟩
 clear gX g0 c6
 gi_wp2
 gi_loopw [3,4] (fun v i wr=>∃ (k:Nat) (vs:List Value),k≤d.steps.length∧i=num k∧IRows wr (A+1) v (zbY d k) vs∧Nx w wr∧DBox wr A d ⟨.slice ha d.heats.length hcap,.slice sa d.steps.length scap⟩) (fun _ i _=>d.steps.length-(intOf i).toNat)
 case atStart=>exact⟨0,_,Nat.zero_le _,rfl,i0,nwX,hbX⟩
 case round =>
  obtain⟨WR,hren⟩:∃ z,z=wr:=⟨_,rfl⟩
  subst hren
  obtain⟨k,vs,hk,rfl,hI,nr,hbr⟩:=hrel
  have c6:=hbr.at' 6 _ rfl
  by_cases hlt:k<d.steps.length
  ·have hx:d.steps[k]?=some d.steps[k]:=List.getElem?_eq_getElem hlt
   generalize d.steps[k]=x at hx
   have hup:=Lib.hid (zdE hx)
   obtain⟨hM1,hM2⟩:=HL.out k
   have hM3:4 ^ k≤1024:=Nat.le_trans (Nat.pow_le_pow_right (by omega) (show k≤5 by omega)) (by decide)
   have hvl:=hI.2.1
   obtain⟨va3,c3,e5⟩:=zaB hI.1
   rw [hvl] at e5
   subst e5
   have HI:=Lib.hid hI
   have HVL:=Lib.hid hvl
   have hsl:Sl WR (.slice va3 (zbY d k).length c3) 1 (vs.map fun u=>[u]):=zcF (n:=vs.length) (by simp) (by simp) (by rw [zb8];exact hI.1)
   have HSL:=Lib.hid hsl
   have HX:=Lib.hid hx
   clear hI hsl hx hvl
   generalize zbY d k=M at *
   gi_wp2
   gi_loopw [5,6] (fun v5 i wi=>∃ (q:Nat) (us:List Value),q≤M.length∧i=num q∧IRows wi WR.heap.size v5 ((M.take q).flatMap fun p:List Int=>(mays d x (p.getLastD d.start.h)).map fun h:Nat=>p++[(h:Int)]) us∧Nx WR wi) (fun _ i _=>M.length-(intOf i).toNat)
   case atStart=>exact⟨0,[],Nat.zero_le _,rfl,IRows.nil _ _,Nx.refl _⟩
   case round =>
    obtain⟨WI,hren⟩:∃ z,z=wr:=⟨_,rfl⟩
    subst hren
    obtain⟨q,us,hq,rfl,hJ,ni⟩:=hrel
    have hbi:=hbr.nx ni
    have i5:=hbi.at' 5 _ rfl
    have i0:=hbi.at' 0 _ rfl
    have i6:=hbi.at' 6 _ rfl
    by_cases hlt2:q<M.length
    ·have hp:M[q]?=some M[q]:=List.getElem?_eq_getElem hlt2
     obtain⟨hpl,hpb⟩:=hM2 _ (List.mem_of_getElem? hp)
     generalize M[q]=p at hp hpl hpb
     have hu:vs[q]?=some (vs[q]'(by rw [HVL.out];exact hlt2)):=List.getElem?_eq_getElem _
     generalize vs[q]'(by rw [HVL.out];exact hlt2)=u at hu
     have hrow:=(HI.out.2.2 q u p hu hp).1
     obtain⟨ua,uc,rfl⟩:=zaB hrow
     have hus:Sl WR (.slice ua p.length uc) 1 (p.map one):=zcF (n:=p.length) (zjv p) (by simp) (by rw [zcj];exact hrow)
     obtain⟨b3,o3,rfl,hb3,hc3⟩:=(HSL.out).get (by rw [List.length_map,HVL.out];omega)
     have lk:WR.cell? ⟨b3,o3+q,none⟩=some (.slice ua p.length uc):=by
      have:=hc3 q 0 [.slice ua p.length uc] _ (by rw [List.getElem?_map,hu];rfl) rfl
      simpa using this
     have HFT:Hid (((M.take (q+1)).flatMap fun p:List Int=>(mays d x (p.getLastD d.start.h)).map fun h:Nat=>p++[(h:Int)])=((M.take q).flatMap fun p:List Int=>(mays d x (p.getLastD d.start.h)).map fun h:Nat=>p++[(h:Int)])++(mays d x (p.getLastD d.start.h)).map fun h:Nat=>p++[(h:Int)]):=zjh (fun p:List Int=>(mays d x (p.getLastD d.start.h)).map fun h:Nat=>p++[(h:Int)]) hp
     have hfl:=zeN (F:=fun p:List Int=>(mays d x (p.getLastD d.start.h)).map fun h:Nat=>p++[(h:Int)]) (m:=4) (fun p=>by have:=zli d x (p.getLastD d.start.h);rw [List.length_map];omega) (M.take q)
     rw [List.length_take] at hfl
     have hlastb:0≤p.getLastD d.start.h∧p.getLastD d.start.h≤3:=by
      by_cases hk0:0<k
      ·exact hpb _ (List.mem_of_getElem? (last_at hpl hk0))
      ·have:p=[]:=List.eq_nil_of_length_eq_zero (by omega)
       subst this
       exact⟨hstb.1,by have:=hstb.2;show d.start.h≤3;omega⟩
     have HLB:=Lib.hid hlastb
     have HPL:=Lib.hid (show p.length≤5 by omega)
     have HJ:=Lib.hid hJ
     have lki:=(ni.cell (p:=⟨b3,o3+q,none⟩) hb3).trans lk
     generalize hF:((M.take q).flatMap fun p:List Int=>(mays d x (p.getLastD d.start.h)).map fun h:Nat=>p++[(h:Int)])=D at *
     by_cases hk0:0<k
     ·have hla:=last_at (z:=d.start.h) hpl hk0
      obtain⟨bu,ou,rfl,hbu,hcu⟩:=hus.get (by rw [List.length_map];omega)
      have lz:WR.cell? ⟨bu,ou+(k-1),none⟩=some (num (p.getLastD d.start.h)):=by
       have:=hcu (k-1) 0 [num (p.getLastD d.start.h)] _ (by rw [List.getElem?_map,hla];rfl) rfl
       simpa using this
      have lzi:=(ni.cell (p:=⟨bu,ou+(k-1),none⟩) hbu).trans lz
      have b0:decide ((k:Int) > 0)=true:=decide_eq_true (by omega)
      have hkl:k-1<p.length:=by omega
      have hki:((k:Int)-1)=((k-1:Nat):Int):=by omega
      generalize hlast:p.getLastD d.start.h=last at *
      clear hp hu hrow hc3 hpl hpb hJ hla hcu hstb hlastb
      gi_upto_region 12 with fail
      gi_wp2
      gi_loopw [5,8] (fun v5 a wj=>∃ (c:Nat) (us:List Value),c≤d.heats.length∧a=num c∧IRows wj WR.heap.size v5 (D++(zfW d x last c).map fun h:Nat=>p++[(h:Int)]) us∧Nx WR wj) (fun _ a _=>d.heats.length-(intOf a).toNat)
      case atStart=>exact⟨0,us,Nat.zero_le _,by simp,by simpa [zfW] using HJ.out,ni⟩
      case round =>
       obtain⟨WJ0,hren⟩:∃ z,z=wr:=⟨_,rfl⟩
       subst hren
       obtain⟨c,us',hc,rfl,hK,nj⟩:=hrel
       have hbj:=hbr.nx nj
       have c0:=hbj.at' 0 _ rfl
       have c1:=hbj.at' 1 _ rfl
       have c2:=hbj.at' 2 _ rfl
       have c3:=hbj.at' 3 _ rfl
       have c4:=hbj.at' 4 _ rfl
       have c5:=hbj.at' 5 _ rfl
       have c6:=hbj.at' 6 _ rfl
       by_cases hle:c<d.heats.length
       ·have lkj:=(nj.cell (p:=⟨b3,o3+q,none⟩) hb3).trans lk
        have husj:=hus.nx nj
        obtain⟨va5,c5',e5⟩:=zaB hK.1
        subst e5
        have hul:=hK.2.1
        rw [List.length_append,List.length_map] at hul
        have hmu:=zjq d x last c
        have hub:us'.length≤5000:=by omega
        clear hul hmu
        have k35:=zgQ d ⟨.slice ha d.heats.length hcap,.slice sa d.steps.length scap⟩ k x last c WJ0 (HD.out.nx (nr.trans nj)) HX.out (by have:=HLB.out;omega)
        have HK:=Lib.hid hK
        have HN:=Lib.hid nj
        have HU:=Lib.hid husj
        have b1:decide ((c:Int)<(d.heats.length:Int))=true:=decide_eq_true (by omega)
        clear hK nj husj
        cases hm:mayB d.heats.length x last c with
        | false =>
         rw [hm] at k35
         have HM:=Lib.hid hm
         clear hm
         gi_upto_region 15 with fail
         gi_wp2_with (first | (gi_at_call 35;refine CallsIn.mono k35 ?_;rintro e w2 ⟨rfl,n2⟩) | gi_in)
         refine⟨⟨c+1,us',by omega,by simp,?_,HN.out.trans n2⟩,by simp [intOf];omega⟩
         rw [zd0,if_neg (by rw [HM.out];simp)]
         exact HK.out.nx n2
        | true =>
         rw [hm] at k35
         have HM:=Lib.hid hm
         clear hm
         gi_upto_region 15 with fail
         gi_upto_region 16 with (first | (gi_at_call 35;refine CallsIn.mono k35 ?_;rintro e w2 ⟨rfl,n2⟩) | gi_in)
         obtain⟨WJ,hren⟩:∃ z,z=w2:=⟨_,rfl⟩
         subst hren
         have lkj:=(n2.cell (p:=⟨b3,o3+q,none⟩) (Nat.lt_of_lt_of_le hb3 HN.out.size)).trans lkj
         have HK:=Lib.hid (HK.out.nx n2)
         have HU:=Lib.hid (HU.out.nx n2)
         have HN:=Lib.hid (HN.out.trans n2)
         have hnj:=HN.out.size
         have lkj2:(WJ.alloc (.cells #[] 3)).cell? ⟨b3,o3+q,none⟩=some (.slice (some ⟨bu,ou,none⟩) p.length uc):=((zaj (Nx.refl WJ) _).cell (by exact Nat.lt_of_lt_of_le hb3 hnj)).trans lkj
         clear c0 c1 c2 c3 c4 c5 c6 k35
         gi_wp2_with (first
          | (gi_at_builtin;refine zcx T38 rfl _ _ rfl rfl WR.heap.size (.slice (some ⟨WJ.heap.size,0,none⟩) 0 0) 0 [] rfl (zgb zaT hnj) rfl _ (p.map one) rfl (HU.out.nx (zaj (Nx.refl _) _)) (zjv _) (zoY _) (by have:=HPL.out;simp;omega) (by have:=HPL.out;simp;omega) (by simp;omega) ?_;intro v9 w9 o9 g9 a9;rw [List.nil_append,List.length_map] at o9;have n9:Nx WJ w9:=Below.grown (zaj (Nx.refl _) _) g9 (by simp) (fun r e=>by cases e;exact Nat.le_refl _);have q9:∀ g,v9.ownBlock=some g→WJ.heap.size≤g:=(fun g hg=>by rcases a9 with h | h<;>(rw [h] at hg;simp [Value.ownBlock] at hg;omega));obtain⟨y9,c9,rfl⟩:=zaB o9;simp only [Go.Act.put,List.setIfInBounds_toArray,List.set_cons_succ,List.set_cons_zero])
          | (gi_at_builtin;refine zaP T38 rfl _ _ rfl rfl WR.heap.size _ p.length (p.map one) rfl (zbi o9 _) (by simp) w9.heap.size [num c] rfl zaT rfl (by simp [Value.oneCell']) (by have:=HPL.out;omega) (by have:=HPL.out;omega) (by have:=n9.size;simp;omega) ?_;intro v10 w10 o10 g10 a10;have s9:=n9.size;have n10:Nx WJ w10:=Below.grown (n9.trans (zaj (Nx.refl _) _)) g10 (by simp;omega) (fun r e=>q9 r e);have q10:∀ g,v10.ownBlock=some g→WJ.heap.size≤g:=(fun g hg=>by rcases a10 with h | h;exact q9 g (h ▸ hg);(rw [h] at hg;simp at hg;omega));obtain⟨y10,c10,rfl⟩:=zaB o10;simp only [Go.Act.put,List.setIfInBounds_toArray,List.set_cons_succ,List.set_cons_zero])
          | (gi_at_builtin;refine zaP T117 rfl _ _ rfl rfl WR.heap.size _ us'.length (us'.map fun u=>[u]) rfl (zbi (by rw [zb8];exact (HK.out.nx n10).1) _) (by simp) w10.heap.size [.slice y10 (p.length+1) c10] rfl zaT rfl (by simp [Value.oneCell']) (by omega) (by omega) (by have:=n10.size;simp;omega) ?_;intro v11 w11 o11 g11 a11;obtain⟨y11,c11,rfl⟩:=zaB o11;simp only [Go.Act.put,List.setIfInBounds_toArray,List.set_cons_succ,List.set_cons_zero]))
         have hlp:(p++[(c:Int)]).length=p.length+1:=by simp
         have hK11:=IRows.snoc (HK.out.nx n10) (l:=p++[(c:Int)]) (by rw [hlp,List.map_append,← zcj];rw [List.flatten_append] at o10;exact o10) (fun g hg e=>by have:=q10 g hg;have:=(HK.out.1.lt g e).2;omega) o11 g11 a11
         have n11:Nx WR w11:=Below.grown (HN.out.trans (n10.trans (zaj (Nx.refl _) _))) g11 (by have:=n10.size;simp;omega) (fun g hg=>(HK.out.1.lt g hg).1)
         refine⟨⟨c+1,us'++[.slice y10 (p.length+1) c10],by omega,by simp,?_,n11⟩,by simp [intOf];omega⟩
         rw [zd0,if_pos HM.out,List.map_append,← List.append_assoc]
         exact hK11
       ·obtain rfl:c=d.heats.length:=by omega
        have hdc:zfW d x last d.heats.length=mays d x last:=rfl
        rw [hdc,← HFT.out] at hK
        have hK:=Lib.hid hK
        have b1:decide (((d.heats.length:Nat):Int)<(d.heats.length:Int))=false:=decide_eq_false (by omega)
        clear c1 c2 c3 c4 c5 c6
        gi_wp2
        exact⟨⟨q+1,us',by omega,by simp,hK.out,nj⟩,by simp [intOf];omega⟩
     ·have hpn:p=[]:=List.eq_nil_of_length_eq_zero (by omega)
      have b0:decide ((k:Int) > 0)=false:=decide_eq_false (by omega)
      have hlast0:p.getLastD d.start.h=d.start.h:=by rw [hpn];rfl
      rw [hlast0] at HFT HLB
      clear hp hu hrow hc3 hpl hpb hJ hpn hlast0 hstb hlastb
      gi_upto_region 12 with fail
      gi_wp2
      gi_loopw [5,8] (fun v5 a wj=>∃ (c:Nat) (us:List Value),c≤d.heats.length∧a=num c∧IRows wj WR.heap.size v5 (D++(zfW d x d.start.h c).map fun h:Nat=>p++[(h:Int)]) us∧Nx WR wj) (fun _ a _=>d.heats.length-(intOf a).toNat)
      case atStart=>exact⟨0,us,Nat.zero_le _,by simp,by simpa [zfW] using HJ.out,ni⟩
      case round =>
       obtain⟨WJ0,hren⟩:∃ z,z=wr:=⟨_,rfl⟩
       subst hren
       obtain⟨c,us',hc,rfl,hK,nj⟩:=hrel
       have hbj:=hbr.nx nj
       have c0:=hbj.at' 0 _ rfl
       have c1:=hbj.at' 1 _ rfl
       have c2:=hbj.at' 2 _ rfl
       have c3:=hbj.at' 3 _ rfl
       have c4:=hbj.at' 4 _ rfl
       have c5:=hbj.at' 5 _ rfl
       have c6:=hbj.at' 6 _ rfl
       by_cases hle:c<d.heats.length
       ·have lkj:=(nj.cell (p:=⟨b3,o3+q,none⟩) hb3).trans lk
        have husj:=hus.nx nj
        obtain⟨va5,c5',e5⟩:=zaB hK.1
        subst e5
        have hul:=hK.2.1
        rw [List.length_append,List.length_map] at hul
        have hmu:=zjq d x d.start.h c
        have hub:us'.length≤5000:=by omega
        clear hul hmu
        have k35:=zgQ d ⟨.slice ha d.heats.length hcap,.slice sa d.steps.length scap⟩ k x d.start.h c WJ0 (HD.out.nx (nr.trans nj)) HX.out (by have:=HLB.out;omega)
        have HK:=Lib.hid hK
        have HN:=Lib.hid nj
        have HU:=Lib.hid husj
        have b1:decide ((c:Int)<(d.heats.length:Int))=true:=decide_eq_true (by omega)
        clear hK nj husj
        cases hm:mayB d.heats.length x d.start.h c with
        | false =>
         rw [hm] at k35
         have HM:=Lib.hid hm
         clear hm
         gi_upto_region 15 with fail
         gi_wp2_with (first | (gi_at_call 35;refine CallsIn.mono k35 ?_;rintro e w2 ⟨rfl,n2⟩) | gi_in)
         refine⟨⟨c+1,us',by omega,by simp,?_,HN.out.trans n2⟩,by simp [intOf];omega⟩
         rw [zd0,if_neg (by rw [HM.out];simp)]
         exact HK.out.nx n2
        | true =>
         rw [hm] at k35
         have HM:=Lib.hid hm
         clear hm
         gi_upto_region 15 with fail
         gi_upto_region 16 with (first | (gi_at_call 35;refine CallsIn.mono k35 ?_;rintro e w2 ⟨rfl,n2⟩) | gi_in)
         obtain⟨WJ,hren⟩:∃ z,z=w2:=⟨_,rfl⟩
         subst hren
         have lkj:=(n2.cell (p:=⟨b3,o3+q,none⟩) (Nat.lt_of_lt_of_le hb3 HN.out.size)).trans lkj
         have HK:=Lib.hid (HK.out.nx n2)
         have HU:=Lib.hid (HU.out.nx n2)
         have HN:=Lib.hid (HN.out.trans n2)
         have hnj:=HN.out.size
         have lkj2:(WJ.alloc (.cells #[] 3)).cell? ⟨b3,o3+q,none⟩=some (.slice ua p.length uc):=((zaj (Nx.refl WJ) _).cell (by exact Nat.lt_of_lt_of_le hb3 hnj)).trans lkj
         clear c0 c1 c2 c3 c4 c5 c6 k35
         gi_wp2_with (first
          | (gi_at_builtin;refine zcx T38 rfl _ _ rfl rfl WR.heap.size (.slice (some ⟨WJ.heap.size,0,none⟩) 0 0) 0 [] rfl (zgb zaT hnj) rfl _ (p.map one) rfl (HU.out.nx (zaj (Nx.refl _) _)) (zjv _) (zoY _) (by have:=HPL.out;simp;omega) (by have:=HPL.out;simp;omega) (by simp;omega) ?_;intro v9 w9 o9 g9 a9;rw [List.nil_append,List.length_map] at o9;have n9:Nx WJ w9:=Below.grown (zaj (Nx.refl _) _) g9 (by simp) (fun r e=>by cases e;exact Nat.le_refl _);have q9:∀ g,v9.ownBlock=some g→WJ.heap.size≤g:=(fun g hg=>by rcases a9 with h | h<;>(rw [h] at hg;simp [Value.ownBlock] at hg;omega));obtain⟨y9,c9,rfl⟩:=zaB o9;simp only [Go.Act.put,List.setIfInBounds_toArray,List.set_cons_succ,List.set_cons_zero])
          | (gi_at_builtin;refine zaP T38 rfl _ _ rfl rfl WR.heap.size _ p.length (p.map one) rfl (zbi o9 _) (by simp) w9.heap.size [num c] rfl zaT rfl (by simp [Value.oneCell']) (by have:=HPL.out;omega) (by have:=HPL.out;omega) (by have:=n9.size;simp;omega) ?_;intro v10 w10 o10 g10 a10;have s9:=n9.size;have n10:Nx WJ w10:=Below.grown (n9.trans (zaj (Nx.refl _) _)) g10 (by simp;omega) (fun r e=>q9 r e);have q10:∀ g,v10.ownBlock=some g→WJ.heap.size≤g:=(fun g hg=>by rcases a10 with h | h;exact q9 g (h ▸ hg);(rw [h] at hg;simp at hg;omega));obtain⟨y10,c10,rfl⟩:=zaB o10;simp only [Go.Act.put,List.setIfInBounds_toArray,List.set_cons_succ,List.set_cons_zero])
          | (gi_at_builtin;refine zaP T117 rfl _ _ rfl rfl WR.heap.size _ us'.length (us'.map fun u=>[u]) rfl (zbi (by rw [zb8];exact (HK.out.nx n10).1) _) (by simp) w10.heap.size [.slice y10 (p.length+1) c10] rfl zaT rfl (by simp [Value.oneCell']) (by omega) (by omega) (by have:=n10.size;simp;omega) ?_;intro v11 w11 o11 g11 a11;obtain⟨y11,c11,rfl⟩:=zaB o11;simp only [Go.Act.put,List.setIfInBounds_toArray,List.set_cons_succ,List.set_cons_zero]))
         have hlp:(p++[(c:Int)]).length=p.length+1:=by simp
         have hK11:=IRows.snoc (HK.out.nx n10) (l:=p++[(c:Int)]) (by rw [hlp,List.map_append,← zcj];rw [List.flatten_append] at o10;exact o10) (fun g hg e=>by have:=q10 g hg;have:=(HK.out.1.lt g e).2;omega) o11 g11 a11
         have n11:Nx WR w11:=Below.grown (HN.out.trans (n10.trans (zaj (Nx.refl _) _))) g11 (by have:=n10.size;simp;omega) (fun g hg=>(HK.out.1.lt g hg).1)
         refine⟨⟨c+1,us'++[.slice y10 (p.length+1) c10],by omega,by simp,?_,n11⟩,by simp [intOf];omega⟩
         rw [zd0,if_pos HM.out,List.map_append,← List.append_assoc]
         exact hK11
       ·obtain rfl:c=d.heats.length:=by omega
        have hdc:zfW d x d.start.h d.heats.length=mays d x d.start.h:=rfl
        rw [hdc,← HFT.out] at hK
        have hK:=Lib.hid hK
        have b1:decide (((d.heats.length:Nat):Int)<(d.heats.length:Int))=false:=decide_eq_false (by omega)
        clear c1 c2 c3 c4 c5 c6
        gi_wp2
        exact⟨⟨q+1,us',by omega,by simp,hK.out,nj⟩,by simp [intOf];omega⟩
    ·obtain rfl:q=M.length:=by omega
     rw [List.take_length,← hup.out] at hJ
     have hJ:=Lib.hid hJ
     gi_wp2
     exact⟨⟨k+1,us,by omega,by simp,hJ.out.base (by have:=hbr.lt;omega),nr.trans ni,hbi⟩,by simp [intOf];omega⟩
  ·obtain rfl:k=d.steps.length:=by omega
   have hI:=Lib.hid hI
   obtain⟨va,vc,rfl⟩:=zaB hI.out.1
   gi_wp2
   go_ret
   exact⟨_,rfl,nr,hI.out.sets⟩
end Go.Proofs.Ytedomogjmhommaa
namespace Go.Proofs.Ytedomogjmhommaa
open Go.RowKit
theorem zqG {t:Array Value} {W:World} {b:Nat} {x y z:Value} {fz:Nat×Nat} (hp:t[6]?=some (.pointer (some ⟨b,0,none⟩))) (h:W.heap[b]?=some (.cells #[x,y,z] 24 fz)):(results Try.f76 t).run Try.prog W=.ok (.agg #[x,y,z]) W:=by
 have h0:=zaa (i:=0) h rfl
 have h1:=zaa (i:=1) h rfl
 have h2:=zaa (i:=2) h rfl
 simp [results,Try.results76,go_sem,hp,h0,h1,h2]
theorem zm6 (d:Dry) (r:R2) (u1 u2:Value) (plan air:List Int) (w:World) (hd:DrySl w d r) (hO:d.Ok) (hP:PA d plan air) (h1:Sl w u1 1 (plan.map one)) (h2:Sl w u2 1 (air.map one)) (hl:plan.length≤1000000000) :
  CallsIn FW 0 Try.prog 76 #[d.val r,u1,u2] w fun e w'=>e=.returned (stAt d d.start plan air plan.length).val∧Nx w w':=by
 have k82:=fun (w1:World) (n:Nx w w1)=>zfA d r u1 u2 plan air w1 (hd.nx n) hO hP (h1.nx n) (h2.nx n) hl
 have hlen:=zbu d d.start plan air hP.len
 have hget:=Lib.hid (fun (k:Nat) (hk:k<plan.length)=>zkq d (s:=d.start) hP.len hk)
 have hst0:Hid (plan.length=0→stAt d d.start plan air plan.length=d.start):=fun e=>by rw [e];cases plan<;>cases air<;>rfl
 generalize hLs:zaq d d.start plan air=l at *
 obtain⟨a1,cap1,rfl⟩:=h1.cases
 obtain⟨a2,cap2,rfl⟩:=h2.cases
 obtain⟨rh,rs⟩:=r
 obtain⟨ha,hcap,hrs⟩:=hd.heats.cases
 dsimp only at hrs
 subst hrs
 obtain⟨sa,scap,hrs⟩:=hd.steps.cases
 dsimp only at hrs
 subst hrs
 rw [List.length_map,List.length_map] at *
 rw [List.length_map,List.length_map] at *
 clear hd h1 h2 hP hO
 have HL2:=Lib.hid hlen
 obtain⟨s',hs'⟩:∃ s',stAt d d.start plan air plan.length=s':=⟨_,rfl⟩
 rw [hs']
 have HE:=Lib.hid hs'
 have hll:l.length≤1000000000:=by omega
 clear hs' hlen hLs
 gi_enter Try.func76,Try.ntmps76
 gi_upto_region 1 with fail
 generalize hW:(w.alloc _).alloc _=W
 obtain⟨nW,sW,g0,g1⟩:=al2 hW
 have hbW:DBox W w.heap.size d ⟨.slice ha d.heats.length hcap,.slice sa d.steps.length scap⟩:=⟨by omega,fun i v h=>zaa g0 h⟩
 clear hW g0
 generalize hA:w.heap.size=A at *
 have c0:=hbW.at' 0 _ rfl
 have c1:=hbW.at' 1 _ rfl
 have c2:=hbW.at' 2 _ rfl
 have c3:=hbW.at' 3 _ rfl
 have c4:=hbW.at' 4 _ rfl
 have c5:=hbW.at' 5 _ rfl
 have c6:=hbW.at' 6 _ rfl
 gi_upto_region 2 with (first | (gi_at_call 82;refine CallsIn.mono (k82 _ nW) ?_;rintro e w2 ⟨v,rfl,n2,hrow⟩) | gi_in)
 have nw2:=nW.trans n2
 have hb2:=hbW.nx n2
 have g2:=(n2.block _ (by omega)).trans g1
 rw [← HL2.out] at hrow
 have HS:=Lib.hid (zlB hrow)
 obtain⟨va,vcap,rfl⟩:=zaB hrow
 clear c0 c1 c2 c3 c4 c5 c6 hrow k82
 have y0:=zaa (i:=0) g2 rfl
 have y1:=zaa (i:=1) g2 rfl
 have y2:=zaa (i:=2) g2 rfl
 have z0:=zac (i:=0) g2
 have z1:=zac (i:=1) g2
 have z2:=zac (i:=2) g2
 by_cases hz:l.length=0
 ·have HR:Hid (s'=d.start):=by show _=_;rw [← HE.out];exact hst0.out (by have:=HL2.out;omega)
  have b1:((l.length:Int) == 0)=true:=by simp [hz]
  have c3:=hb2.at' 3 _ rfl
  have c4:=hb2.at' 4 _ rfl
  have c5:=hb2.at' 5 _ rfl
  clear hz
  gi_wp2
  refine bodyPost_ret (zqG (b:=A+1) rfl (set3 (x0:=num 0) (x1:=num 0) (x2:=num 0) g2)) rfl ⟨by rw [HR.out]<;>rfl,?_⟩
  refine bset (bset (bset nw2 ?_) ?_) ?_<;>omega
 ·have b1:((l.length:Int) == 0)=false:=by simp [hz]
  obtain⟨b,off,rfl,hbl,hcl⟩:=(HS.out).get (by simp;omega)
  obtain⟨k,hk⟩:∃ k,l.length=k+1:=⟨l.length-1,by omega⟩
  have hh:l[k]?=some s':=by
   have h1:=hget.out k (by have:=HL2.out;omega)
   rw [h1,← HE.out,← HL2.out,hk]
  have e0:w2.cell? ⟨b,off+k * 3,none⟩=some (num s'.w):=Sl.at hcl (Nx.refl w2) hbl hh 0 (v:=num s'.w) rfl
  have e1:w2.cell? ⟨b,off+k * 3+1,none⟩=some (num s'.c):=Sl.at hcl (Nx.refl w2) hbl hh 1 (v:=num s'.c) rfl
  have e2:w2.cell? ⟨b,off+k * 3+2,none⟩=some (num s'.h):=Sl.at hcl (Nx.refl w2) hbl hh 2 (v:=num s'.h) rfl
  rw [hk] at b1 ⊢
  have hsub:((k+1:Nat):Int)-1=(k:Int):=by omega
  clear hcl hh hz
  gi_wp2
  refine bodyPost_ret (zqG (b:=A+1) rfl (set3 (x0:=num 0) (x1:=num 0) (x2:=num 0) g2)) rfl ⟨rfl,?_⟩
  refine bset (bset (bset nw2 ?_) ?_) ?_<;>omega
end Go.Proofs.Ytedomogjmhommaa
namespace Go.Con
open Go Go.Conc
section
variable [Lone] {P:Program} {E D:Nat→Prop}
variable {maps:Bool} {Fz Arg:Nat→Prop} {W0:World} {ρ:Rn} {own A:Nat→Prop} {fr:Frame} {cs:List Frame} {W W' : World}
end
theorem Rch.not {W:World} {n:Nat} {roots X:Nat→Prop} {b:Nat} (hn:n≤b) (hr:¬ roots b) (hx:¬ X b):¬ Rch W n roots X b:=by
 intro h
 cases h with
 | glob h=>omega
 | root h=>exact hr h
 | cell _ _ _ _ h=>exact hx h
 | entry _ _ _ _ _ h=>exact hx h
end Go.Con
namespace Go.Proofs.Ytedomogjmhommaa
open Go.RowKit Go.Con Go.Conc
noncomputable def b3:Code:=match Try.f3.body with | some c=>c | none=>.skip
end Go.Proofs.Ytedomogjmhommaa
namespace Go.Proofs.Ytedomogjmhommaa
open Go.RowKit Go.Con Go.Conc
noncomputable def b9:Code:=match Try.f9.body with | some c=>c | none=>.skip
end Go.Proofs.Ytedomogjmhommaa
