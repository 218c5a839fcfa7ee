import Derived.Test.YtedomogjmhommaaC47
import Derived.Test.YtedomogjmhommaaC49
import Derived.Test.YtedomogjmhommaaChecked
import Derived.Test.YtedomogjmhommaaRows
import Derived.ProofKit
import Derived.LaidMore
import Derived.OpenShut
import Derived.Stop.Joined
import Derived.Conc.LeavingOf
import Derived.Conc.Holds
import Derived.Carry
set_option linter.all false
set_option maxRecDepth 100000
set_option maxHeartbeats 8000000
namespace Go.Proofs.Ytedomogjmhommaa
open Go.RowKit Go.Shelf
theorem flat_one {α β:Type} (f:α→β):∀ l:List α,(l.flatMap fun a=>[f a])=l.map f
 | []=>rfl
 | a :: l=>by rw [List.flatMap_cons,flat_one f l];rfl
theorem flat_congr {α β:Type} {f g:α→List β} (h:∀ a,f a=g a) (l:List α):l.flatMap f=l.flatMap g:=by rw [show f=g from funext h]
def airsUp (d:Dry):Nat→List (List Int)
 | 0=>[[]]
 | i+1=>match d.steps[i]? with | some x=>(airsUp d i).flatMap fun p=>x.damps.map fun a=>p++[a] | none=>[]
theorem airsUp_succ {d:Dry} {i:Nat} {x:Stp} (h:d.steps[i]?=some x):airsUp d (i+1)=(airsUp d i).flatMap fun p=>x.damps.map fun a=>p++[a]:=by rw [airsUp,h]
theorem airsL_snoc (x:Stp):∀ xs:List Stp,airsL (xs++[x])=(airsL xs).flatMap fun p=>x.damps.map fun a=>p++[a]
 | []=>by
  show (x.damps.flatMap fun a=>[[a]])=(x.damps.map fun a=>[a])++[]
  rw [flat_one,List.append_nil]
 | y :: xs=>by
  show (y.damps.flatMap fun a=>(airsL (xs++[x])).map (a :: ·))=(y.damps.flatMap fun a=>(airsL xs).map (a :: ·)).flatMap _
  rw [airsL_snoc x xs,List.flatMap_assoc]
  refine flat_congr (fun a=>?_) _
  rw [List.map_flatMap,List.flatMap_map]
  refine flat_congr (fun p=>?_) _
  rw [List.map_map]
  rfl
theorem take_snoc {α:Type} {l:List α} {i:Nat} {x:α} (h:l[i]?=some x):l.take (i+1)=l.take i++[x]:=by rw [List.take_succ,h];rfl
theorem airsUp_eq (d:Dry):∀ i,i≤d.steps.length→airsUp d i=airsL (d.steps.take i)
 | 0,_=>rfl
 | i+1,hi=>by
  have hx:d.steps[i]?=some d.steps[i]:=List.getElem?_eq_getElem (by omega)
  rw [airsUp_succ hx,airsUp_eq d i (by omega),take_snoc hx,airsL_snoc]
theorem airsUp_all (d:Dry):airsUp d d.steps.length=airsL d.steps:=by rw [airsUp_eq d _ (Nat.le_refl _),List.take_length]
end Go.Proofs.Ytedomogjmhommaa
namespace Go.Proofs.Ytedomogjmhommaa
open Go.RowKit Go.Shelf
theorem T117:ElemT 117 38 (.slice none 0 0) 1 24:=.mk' Try.underlying117 (by kernel_rfl) (by kernel_rfl) (by decide)
theorem flat_ones2 (vs:List Value):(vs.map fun u=>[u]).flatten=vs:=by
 induction vs with
 | nil=>rfl
 | cons a l ih=>rw [List.map_cons,List.flatten_cons,ih];rfl
def ISets (w:World) (v:Value) (M:List (List Int)):Prop:=∃ vs:List Value,Sl w v 1 (vs.map fun u=>[u])∧vs.length=M.length∧∀ (i:Nat) (u:Value) (l:List Int),vs[i]?=some u→M[i]?=some l→Sl w u 1 (l.map one)
theorem ISets.nx {w w' : World} {v:Value} {M:List (List Int)} (h:ISets w v M) (n:Nx w w'):ISets w' v M:=by
 obtain⟨vs,h1,h2,h3⟩:=h
 exact⟨vs,h1.nx n,h2,fun i u l hu hl=>(h3 i u l hu hl).nx n⟩
def IRows (W:World) (N:Nat) (v:Value) (M:List (List Int)) (vs:List Value):Prop :=
 W.ownsRow N 38 1 v vs.length vs∧vs.length=M.length∧∀ (j:Nat) (u:Value) (l:List Int),vs[j]?=some u→M[j]?=some l→W.ownsRow N 3 1 u l.length (l.map num)∧∀ g,u.ownBlock=some g→v.ownBlock≠some g
theorem IRows.sets {W:World} {N:Nat} {v:Value} {M:List (List Int)} {vs:List Value} (h:IRows W N v M vs):ISets W v M :=
 ⟨vs,own_sl (n:=vs.length) (by simp) (by simp) (by rw [flat_ones2];exact h.1),h.2.1,fun i u l hu hl=>own_sl (n:=l.length) (ones1 l) (by simp) (by rw [ones_flat];exact (h.2.2 i u l hu hl).1)⟩
theorem IRows.nx {W W' : World} {N:Nat} {v:Value} {M:List (List Int)} {vs:List Value} (h:IRows W N v M vs) (n:Nx W W'):IRows W' N v M vs :=
 ⟨own_nx h.1 n,h.2.1,fun j u l hu hl=>⟨own_nx (h.2.2 j u l hu hl).1 n,(h.2.2 j u l hu hl).2⟩⟩
theorem IRows.nil (W:World) (N:Nat):IRows W N (.slice none 0 0) [] []:=⟨World.ownsRow_nil ..,rfl,fun j u l h=>by simp at h⟩
theorem IRows.base {W:World} {N N' : Nat} {v:Value} {M:List (List Int)} {vs:List Value} (h:IRows W N v M vs) (hN:N'≤N):IRows W N' v M vs:=by
 have key:∀ {e sz n:Nat} {u:Value} {xs:List Value},W.ownsRow N e sz u n xs→W.ownsRow N' e sz u n xs:=by
  rintro e sz n u xs ⟨h1,h2⟩
  refine⟨h1,h2.imp id ?_⟩
  rintro ⟨g,cap,cur,rfl,hb,r⟩
  exact⟨g,cap,cur,rfl,by omega,r⟩
 exact⟨key h.1,h.2.1,fun j u l hu hl=>⟨key (h.2.2 j u l hu hl).1,(h.2.2 j u l hu hl).2⟩⟩
theorem IRows.snoc {W W' : World} {N:Nat} {v v' u:Value} {M:List (List Int)} {vs:List Value} {l:List Int} {o:Obj} (h:IRows W N v M vs) (hu:W.ownsRow N 3 1 u l.length (l.map num)) (hap:∀ g,u.ownBlock=some g→v.ownBlock≠some g)
  (hown:W'.ownsRow N 38 1 v' (vs.length+1) ((vs.map fun u=>[u])++[[u]]).flatten) (hg:(W.alloc o).grownBy W' v.ownBlock) (hat:v'.ownBlock=v.ownBlock∨v'.ownBlock=some (W.alloc o).heap.size):IRows W' N v' (M++[l]) (vs++[u]):=by
 have key:∀ {n:Nat} {u:Value} {xs:List Value},W.ownsRow N 3 1 u n xs→(∀ g,u.ownBlock=some g→v.ownBlock≠some g)→W'.ownsRow N 3 1 u n xs∧∀ g,u.ownBlock=some g→v'.ownBlock≠some g:=fun ho ha=>by
  refine⟨own_keep (own_alloc ho o) fun g hg'=>hg.block g (by have:=(ho.lt g hg').2;simp;omega) (fun e=>ha g hg' e.symm),fun g hg' e=>?_⟩
  rcases hat with h1 | h1
  ·exact ha g hg' (h1 ▸ e)
  ·rw [h1] at e
   have:=(ho.lt g hg').2
   simp at e
   omega
 refine⟨by rw [List.length_append];rw [List.flatten_append,flat_ones2] at hown;exact hown,by rw [List.length_append,List.length_append,h.2.1];rfl,fun j u' l' hu' hl'=>?_⟩
 rcases Nat.lt_or_ge j vs.length with hj | hj
 ·rw [List.getElem?_append_left hj] at hu'
  rw [List.getElem?_append_left (by rw [← h.2.1];exact hj)] at hl'
  exact key (h.2.2 j u' l' hu' hl').1 (h.2.2 j u' l' hu' hl').2
 ·rw [List.getElem?_append_right hj] at hu'
  rw [List.getElem?_append_right (by rw [← h.2.1];exact hj),← h.2.1] at hl'
  have hj2:j-vs.length=0:=by
   have:=(List.getElem?_eq_some_iff.1 hu').1
   simp at this
   omega
  rw [hj2] at hu' hl'
  simp only [List.getElem?_cons_zero,Option.some.injEq] at hu' hl'
  subst hu' hl'
  exact key hu hap
theorem airs_up_len {d:Dry} (hO:d.Ok):∀ i,(airsUp d i).length≤4 ^ i∧∀ l∈airsUp d i,l.length=i
 | 0=>⟨Nat.le_refl _,fun l hl=>by rw [List.mem_singleton.1 hl];rfl⟩
 | i+1=>by
  obtain⟨h1,h2⟩:=airs_up_len hO i
  cases hx:d.steps[i]? with
  | none=>rw [airsUp,hx];exact⟨Nat.zero_le _,fun l hl=>by cases hl⟩
  | some x =>
   rw [airsUp_succ hx]
   have h4:=damps_len (hO.st x (List.mem_of_getElem? hx)).1
   refine⟨?_,fun l hl=>?_⟩
   ·have:∀ L:List (List Int),(L.flatMap fun p=>x.damps.map fun a=>p++[a]).length≤4 * L.length:=by
     intro L
     induction L with
     | nil=>simp
     | cons a L ih=>rw [List.flatMap_cons,List.length_append,List.length_map,List.length_cons];omega
    have:=this (airsUp d i)
    rw [Nat.pow_succ]
    omega
   ·obtain⟨p,hp,h⟩:=List.mem_flatMap.1 hl
    obtain⟨a,_,rfl⟩:=List.mem_map.1 h
    simp [h2 p hp]
theorem flat_lenI {F:List Int→List (List Int)} {m:Nat} (h:∀ p,(F p).length≤m):∀ L:List (List Int),(L.flatMap F).length≤m * L.length
 | []=>Nat.zero_le _
 | p :: L=>by
  have:=flat_lenI h L
  have:=h p
  rw [List.flatMap_cons,List.length_append,List.length_cons,Nat.mul_succ]
  omega
theorem flat_take {α β:Type} (f:α→List β) {L:List α} {k:Nat} {p:α} (h:L[k]?=some p):(L.take (k+1)).flatMap f=(L.take k).flatMap f++f p:=by rw [take_snoc h,List.flatMap_append];simp
theorem airs69_any (d:Dry) (r:R2) (w:World) (hd:DrySl w d r) (hO:d.Ok):CallsIn FW 0 Try.prog 69 #[d.val r] w fun e w'=>∃ v,e=.returned v∧Nx w w'∧ISets w' v (airsL d.steps):=by
 rw [← airsUp_all]
 obtain⟨rh,rs⟩:=r
 obtain⟨ha,hcap,e1⟩:=hd.heats.cases
 obtain⟨sa,scap,e2⟩:=hd.steps.cases
 dsimp only at e1 e2
 rw [List.length_map] at e1 e2
 subst e1 e2
 have hs5:=hO.s5
 have HS:=Lib.hid hd.steps
 have HO:=Lib.hid hO
 have HL:=Lib.hid (airs_up_len hO)
 clear hd hO
 gi_enter Try.func69,Try.ntmps69
 gi_upto_region 1 with fail
 generalize hW:w.alloc _=W
 obtain⟨nW,sW,g0⟩:=al1 hW
 clear hW
 have hbW:DBox W w.heap.size d ⟨.slice ha d.heats.length hcap,.slice sa d.steps.length scap⟩:=⟨by omega,fun i v h=>row_cell g0 h⟩
 have c6:=hbW.at' 6 _ rfl
 generalize hA:w.heap.size=A at *
 gi_upto_region 2 with fail
 generalize hX:W.alloc _=X
 obtain⟨nX,sX,gX⟩:=al1 hX
 clear hX
 have hbX:=hbW.nx nX
 have nwX:=nW.trans nX
 have i0:IRows X (A+1) (.slice (some ⟨A+1,0,none⟩) 1 1) (airsUp d 0) [.slice none 0 0]:=by
  rw [show W.heap.size=A+1 by omega] at gX
  refine⟨⟨rfl,.inr ⟨A+1,1,_,rfl,by omega,gX,Nat.le_refl _,by simp [maxLen],by simp,by simp⟩⟩,rfl,fun j u l hu hl=>?_⟩
  have hj:j=0:=by have:=(List.getElem?_eq_some_iff.1 hu).1;simp at this;omega
  subst hj
  cases hu
  cases hl
  exact⟨World.ownsRow_nil ..,fun g hg=>by cases hg⟩
 clear gX g0 c6
 gi_wp2
 gi_loopw [3,4] (fun v i wr=>∃ (k:Nat) (vs:List Value),k≤d.steps.length∧i=num k∧IRows wr (A+1) v (airsUp d k) vs∧Nx w wr∧DBox wr A d ⟨.slice ha d.heats.length hcap,.slice sa d.steps.length scap⟩) (fun _ i _=>d.steps.length-(intOf i).toNat)
 case atStart=>exact⟨0,_,Nat.zero_le _,rfl,i0,nwX,hbX⟩
 case round =>
  obtain⟨WR,hren⟩:∃ z,z=wr:=⟨_,rfl⟩
  subst hren
  obtain⟨k,vs,hk,rfl,hI,nr,hbr⟩:=hrel
  have c6:=hbr.at' 6 _ rfl
  by_cases hlt:k<d.steps.length
  ·have hx:d.steps[k]?=some d.steps[k]:=List.getElem?_eq_getElem hlt
   generalize d.steps[k]=x at hx
   have hst:=(HO.out.st x (List.mem_of_getElem? hx)).1
   have hup:=Lib.hid (airsUp_succ hx)
   have hd4:=damps_len hst
   obtain⟨hM1,hM2⟩:=HL.out k
   have hM3:4 ^ k≤1024:=Nat.le_trans (Nat.pow_le_pow_right (by omega) (show k≤5 by omega)) (by decide)
   have hvl:=hI.2.1
   obtain⟨va3,c3,e5⟩:=own_slice hI.1
   rw [hvl] at e5
   subst e5
   have HI:=Lib.hid hI
   have HVL:=Lib.hid hvl
   obtain⟨sb,soff,rfl,hsb,hsc⟩:=(HS.out).get (by simp;omega)
   have e0:WR.cell? ⟨sb,soff+k * 6,none⟩=some (num x.lo):=by have:=Sl.at (en:=Stp.cells) hsc nr hsb hx 0 (v:=num x.lo) rfl;simpa using this
   have e1:WR.cell? ⟨sb,soff+k * 6+1,none⟩=some (num x.hi):=Sl.at (en:=Stp.cells) hsc nr hsb hx 1 (v:=num x.hi) rfl
   have hsb2:sb<WR.heap.size:=Nat.lt_of_lt_of_le hsb nr.size
   have hsl:Sl WR (.slice va3 (airsUp d k).length c3) 1 (vs.map fun u=>[u]):=own_sl (n:=vs.length) (by simp) (by simp) (by rw [flat_ones2];exact hI.1)
   have HSL:=Lib.hid hsl
   have HX:=Lib.hid hx
   have HSC:=Lib.hid hsc
   clear hI hsl hx hsc hvl
   generalize airsUp d k=M at *
   have hdl:x.damps=dampsL x.lo (x.hi+1-x.lo).toNat:=rfl
   gi_wp2
   gi_loopw [5,6] (fun v5 i wi=>∃ (q:Nat) (us:List Value),q≤M.length∧i=num q∧IRows wi WR.heap.size v5 ((M.take q).flatMap fun p=>x.damps.map fun a=>p++[a]) us∧Nx WR wi) (fun _ i _=>M.length-(intOf i).toNat)
   case atStart=>exact⟨0,[],Nat.zero_le _,rfl,IRows.nil _ _,Nx.refl _⟩
   case round =>
    obtain⟨WI,hren⟩:∃ z,z=wr:=⟨_,rfl⟩
    subst hren
    obtain⟨q,us,hq,rfl,hJ,ni⟩:=hrel
    have hbi:=hbr.nx ni
    have i6:=hbi.at' 6 _ rfl
    by_cases hlt2:q<M.length
    ·have hp:M[q]?=some M[q]:=List.getElem?_eq_getElem hlt2
     have hpl:=hM2 _ (List.mem_of_getElem? hp)
     generalize M[q]=p at hp hpl
     have hu:vs[q]?=some (vs[q]'(by rw [HVL.out];exact hlt2)):=List.getElem?_eq_getElem _
     generalize vs[q]'(by rw [HVL.out];exact hlt2)=u at hu
     have hrow:=(HI.out.2.2 q u p hu hp).1
     obtain⟨ua,uc,rfl⟩:=own_slice hrow
     have hus:Sl WR (.slice ua p.length uc) 1 (p.map one):=own_sl (n:=p.length) (ones1 p) (by simp) (by rw [ones_flat];exact hrow)
     obtain⟨b3,o3,rfl,hb3,hc3⟩:=(HSL.out).get (by rw [List.length_map,HVL.out];omega)
     have lk:WR.cell? ⟨b3,o3+q,none⟩=some (.slice ua p.length uc):=by
      have:=hc3 q 0 [.slice ua p.length uc] _ (by rw [List.getElem?_map,hu];rfl) rfl
      simpa using this
     have HFT:Hid (((M.take (q+1)).flatMap fun p=>x.damps.map fun a=>p++[a])=((M.take q).flatMap fun p=>x.damps.map fun a=>p++[a])++x.damps.map fun a=>p++[a]):=flat_take (fun p=>x.damps.map fun a=>p++[a]) hp
     have hfl:=flat_lenI (F:=fun p=>x.damps.map fun a=>p++[a]) (m:=4) (fun p=>by rw [List.length_map];exact hd4) (M.take q)
     rw [List.length_take] at hfl
     have f0:=(ni.cell (p:=⟨sb,soff+k * 6,none⟩) hsb2).trans e0
     have HPL:=Lib.hid (show p.length≤5 by omega)
     clear hp hu hrow hc3 hpl
     generalize hF:((M.take q).flatMap fun p=>x.damps.map fun a=>p++[a])=D at *
     gi_wp2
     gi_loopw [5,7] (fun v5 a wj=>∃ (c:Nat) (us:List Value),x.lo+c≤x.hi+1∧a=num (x.lo+c)∧IRows wj WR.heap.size v5 (D++(dampsL x.lo c).map fun a=>p++[a]) us∧Nx WR wj) (fun _ a _=>(x.hi+1-intOf a).toNat)
     case atStart=>exact⟨0,us,by omega,by simp,by simpa [dampsL] using hJ,ni⟩
     case round =>
      obtain⟨WJ,hren⟩:∃ z,z=wr:=⟨_,rfl⟩
      subst hren
      obtain⟨c,us',hc,rfl,hK,nj⟩:=hrel
      have hbj:=hbr.nx nj
      have j6:=hbj.at' 6 _ rfl
      have f1:=(nj.cell (p:=⟨sb,soff+k * 6+1,none⟩) hsb2).trans e1
      by_cases hle:x.lo+c≤x.hi
      ·have lkj:=(nj.cell (p:=⟨b3,o3+q,none⟩) hb3).trans lk
       have husj:=hus.nx nj
       have hnj:=nj.size
       have lkj2:(WJ.alloc (.cells #[] 3)).cell? ⟨b3,o3+q,none⟩=some (.slice ua p.length uc):=((alloc_nx (Nx.refl WJ) _).cell (by exact Nat.lt_of_lt_of_le hb3 hnj)).trans lkj
       obtain⟨va5,c5,rfl⟩:=own_slice hK.1
       have hul:=hK.2.1
       rw [List.length_append,List.length_map,dampsL_len] at hul
       have HK:=Lib.hid hK
       have HN:=Lib.hid nj
       have HU:=Lib.hid husj
       clear hK nj husj
       gi_wp2_with (first
        | (gi_at_builtin;refine wpListIn_apps T38 rfl _ _ rfl rfl WR.heap.size (.slice (some ⟨WJ.heap.size,0,none⟩) 0 0) 0 [] rfl (own_none row_new hnj) rfl _ (p.map one) rfl (HU.out.nx (alloc_nx (Nx.refl _) _)) (ones1 _) (ones2 _) (by have:=HPL.out;simp;omega) (by have:=HPL.out;simp;omega) (by simp;omega) ?_;intro v9 w9 o9 g9 a9;rw [List.nil_append,List.length_map] at o9;have n9:Nx WJ w9:=Below.grown (alloc_nx (Nx.refl _) _) g9 (by simp) (fun r e=>by cases e;exact Nat.le_refl _);have q9:∀ g,v9.ownBlock=some g→WJ.heap.size≤g:=(fun g hg=>by rcases a9 with h | h<;>(rw [h] at hg;simp [Value.ownBlock] at hg;omega));obtain⟨y9,c9,rfl⟩:=own_slice o9;simp only [Go.Act.put,List.setIfInBounds_toArray,List.set_cons_succ,List.set_cons_zero])
        | (gi_at_builtin;refine wpListIn_more T38 rfl _ _ rfl rfl WR.heap.size _ p.length (p.map one) rfl (own_alloc o9 _) (by simp) w9.heap.size [num (x.lo+c)] rfl row_new rfl (by simp [Value.oneCell']) (by have:=HPL.out;omega) (by have:=HPL.out;omega) (by have:=n9.size;simp;omega) ?_;intro v10 w10 o10 g10 a10;have s9:=n9.size;have n10:Nx WJ w10:=Below.grown (n9.trans (alloc_nx (Nx.refl _) _)) g10 (by simp;omega) (fun r e=>q9 r e);have q10:∀ g,v10.ownBlock=some g→WJ.heap.size≤g:=(fun g hg=>by rcases a10 with h | h;exact q9 g (h ▸ hg);(rw [h] at hg;simp at hg;omega));obtain⟨y10,c10,rfl⟩:=own_slice o10;simp only [Go.Act.put,List.setIfInBounds_toArray,List.set_cons_succ,List.set_cons_zero])
        | (gi_at_builtin;refine wpListIn_more T117 rfl _ _ rfl rfl WR.heap.size _ us'.length (us'.map fun u=>[u]) rfl (own_alloc (by rw [flat_ones2];exact (HK.out.nx n10).1) _) (by simp) w10.heap.size [.slice y10 (p.length+1) c10] rfl row_new rfl (by simp [Value.oneCell']) (by omega) (by omega) (by have:=n10.size;simp;omega) ?_;intro v11 w11 o11 g11 a11;obtain⟨y11,c11,rfl⟩:=own_slice o11;simp only [Go.Act.put,List.setIfInBounds_toArray,List.set_cons_succ,List.set_cons_zero]))
       have hlp:(p++[x.lo+c]).length=p.length+1:=by simp
       have hK11:=IRows.snoc (HK.out.nx n10) (l:=p++[x.lo+(c:Int)]) (by rw [hlp,List.map_append,← ones_flat];rw [List.flatten_append] at o10;exact o10) (fun g hg e=>by have:=q10 g hg;have:=(HK.out.1.lt g e).2;omega) o11 g11 a11
       have n11:Nx WR w11:=Below.grown (HN.out.trans (n10.trans (alloc_nx (Nx.refl _) _))) g11 (by have:=n10.size;simp;omega) (fun g hg=>(HK.out.1.lt g hg).1)
       refine⟨⟨c+1,us'++[.slice y10 (p.length+1) c10],by omega,by simp;omega,?_,n11⟩,by simp [intOf];omega⟩
       rw [dampsL_succ,List.map_append,← List.append_assoc]
       exact hK11
      ·have hdc:x.damps=dampsL x.lo c:=by rw [hdl,show (x.hi+1-x.lo).toNat=c by omega]
       rw [← hdc,← HFT.out] at hK
       have hK:=Lib.hid hK
       clear hJ
       gi_wp2
       exact⟨⟨q+1,us',by omega,by simp,hK.out,nj⟩,by simp [intOf];omega⟩
    ·obtain rfl:q=M.length:=by omega
     rw [List.take_length,← hup.out] at hJ
     have hJ:=Lib.hid hJ
     gi_wp2
     exact⟨⟨k+1,us,by omega,by simp,hJ.out.base (by have:=hbr.lt;omega),nr.trans ni,hbi⟩,by simp [intOf];omega⟩
  ·obtain rfl:k=d.steps.length:=by omega
   have hI:=Lib.hid hI
   obtain⟨va,vc,rfl⟩:=own_slice hI.out.1
   gi_wp2
   go_ret
   exact⟨_,rfl,nr,hI.out.sets⟩
end Go.Proofs.Ytedomogjmhommaa
namespace Go.Proofs.Ytedomogjmhommaa
open Go.RowKit
theorem seen80_any (d:Dry) (r:R2) (u:Value) (seen:List Sn) (w:World) (hd:DrySl w d r) (hu:Sl w u 3 (seen.map Sn.cells)) (hl:seen.length≤1000000000) :
  CallsIn FW 0 Try.prog 80 #[d.val r,u] w fun e w'=>e=.returned (num (seenF d seen))∧Nx w w':=by
 obtain⟨ua,ucap,rfl⟩:=hu.cases
 have HU:=Lib.hid hu
 have hsl:=hd.sl
 obtain⟨rh,rs⟩:=r
 obtain⟨ha,hcap,hrs⟩:=hd.heats.cases
 dsimp only at hrs
 subst hrs
 obtain⟨sa,scap,hrs⟩:=hd.steps.cases
 dsimp only at hrs
 subst hrs
 rw [List.length_map,List.length_map] at *
 rw [List.length_map] at *
 clear hd hu
 obtain⟨g,hg⟩:∃ g,seenF d seen=g:=⟨_,rfl⟩
 rw [hg]
 have HG:=Lib.hid hg
 clear hg
 gi_enter Try.func80,Try.ntmps80
 gi_upto_region 1 with fail
 generalize hW:w.alloc _=W
 obtain⟨nW,hbW⟩:=DBox.of (d:=d) (r:=⟨_,_⟩) hW
 clear hW
 generalize w.heap.size=A at *
 by_cases h8:8<seen.length
 ·have HR:Hid (g=2):=by show _=_;rw [← HG.out];unfold seenF;rw [if_pos h8]
  gi_wp2
  go_ret
  exact⟨by rw [HR.out]<;>rfl,nW⟩
 have HP:Hid (g=orF ((seen.map (seenE d)).drop 0)):=by show _=_;rw [← HG.out];unfold seenF;rw [if_neg h8,List.drop_zero]
 gi_wp2
 clear h8
 gi_loopw [5] (fun i wr=>∃ k:Nat,k≤seen.length∧i=num k∧g=orF ((seen.map (seenE d)).drop k)∧Nx W wr) (fun i _=>seen.length-(intOf i).toNat)
 case atStart=>exact⟨0,Nat.zero_le _,rfl,HP.out,Nx.refl _⟩
 case round =>
  obtain⟨k,hk,rfl,hgo,nr⟩:=hrel
  have nwr:=nW.trans nr
  have hbr:=hbW.nx nr
  have c6:=hbr.at' 6 _ rfl
  by_cases hlt:k<seen.length
  ·obtain⟨b,off,rfl,hbl,hcl⟩:=(HU.out).get (by simp;omega)
   have hh:seen[k]?=some seen[k]:=List.getElem?_eq_getElem hlt
   generalize seen[k]=x at hh
   have e0:wr.cell? ⟨b,off+k * 3,none⟩=some (num x.step):=Sl.at hcl nwr hbl hh 0 (v:=num x.step) rfl
   have hgo2:=Lib.hid (hgo.trans (orF_at (x:=seenE d x) (by rw [List.getElem?_map,hh];rfl)))
   have k58:=fun (w1:World)=>in58_any x.step 0 ((d.steps.length:Int)-1) w1
   have E1:=fun (w1:World) (n1:Nx w w1)=>(show _∧_ from ⟨(Sl.at hcl n1 hbl hh 1 (v:=num x.lo) rfl:w1.cell? ⟨b,off+k * 3+1,none⟩=some (num x.lo)),(Sl.at hcl n1 hbl hh 2 (v:=num x.hi) rfl:w1.cell? ⟨b,off+k * 3+2,none⟩=some (num x.hi))⟩)
   clear hcl hh hgo
   by_cases h1:0≤x.step∧x.step≤(d.steps.length:Int)-1
   case neg =>
    have HR:Hid (g=6):=by
     have e:seenE d x=6:=by unfold seenE;rw [if_pos h1]
     show _=_;rw [hgo2.out,e];rfl
    have b2:=decide_eq_false h1
    clear h1
    gi_upto_region 6 with fail
    gi_big_quiet_th (first | (gi_at_call 58;refine CallsIn.quiet_of_same (k58 _)))
    gi_wp2
    go_ret
    exact⟨by rw [HR.out]<;>rfl,nwr.drewN _⟩
   case pos =>
    have hE:Hid (seenE d x=if insB (x.lo,x.hi) 0 5000=false then 1 else 0):=by show _=_;unfold seenE;rw [if_neg (by simpa using h1)]
    have b2:=decide_eq_true h1
    have k83:=fun (w1:World)=>ins83_any (x.lo,x.hi) 0 5000 w1
    clear h1
    gi_upto_region 6 with fail
    gi_big_quiet_th (first | (gi_at_call 58;refine CallsIn.quiet_of_same (k58 _)))
    have nq4:Nx wr (wr.drewN nq):=(Nx.refl wr).drewN nq
    generalize wr.drewN nq=w4 at nq4 ⊢
    obtain⟨e1,e2⟩:=E1 w4 (nwr.trans nq4)
    clear e0 c6
    cases hin:insB (x.lo,x.hi) 0 5000 with
    | false =>
     rw [hin] at k83
     have HR:Hid (g=1):=by show _=_;rw [hgo2.out,hE.out,hin];rfl
     gi_wp2_with (first | (gi_at_call 83;refine CallsIn.mono (by with_reducible exact k83 _) ?_;rintro e w5 ⟨rfl,n5⟩) | gi_in)
     go_ret
     exact⟨by rw [HR.out]<;>rfl,nwr.trans (nq4.trans n5)⟩
    | true =>
     rw [hin] at k83
     have HR:Hid (g=orF ((seen.map (seenE d)).drop (k+1))):=by show _=_;rw [hgo2.out,hE.out,hin];rfl
     gi_wp2_with (first | (gi_at_call 83;refine CallsIn.mono (by with_reducible exact k83 _) ?_;rintro e w5 ⟨rfl,n5⟩) | gi_in)
     exact⟨⟨k+1,hlt,by simp,HR.out,nr.trans (nq4.trans n5)⟩,by simp [intOf];omega⟩
  ·obtain rfl:k=seen.length:=by omega
   have HR:Hid (g=0):=by show _=_;rw [hgo,List.drop_eq_nil_of_le (by simp)];rfl
   clear hgo
   gi_wp2
   go_ret
   exact⟨by rw [HR.out]<;>rfl,nwr⟩
end Go.Proofs.Ytedomogjmhommaa
namespace Go.Proofs.Ytedomogjmhommaa
open Go.RowKit
theorem agrees81_any (u v:Value) (l:List St) (seen:List Sn) (w:World) (hu:Sl w u 3 (l.map St.cells)) (hv:Sl w v 3 (seen.map Sn.cells)) (hl:l.length≤1000000000) (hl2:seen.length≤1000000000) (hs:∀ x∈seen,0≤x.step∧x.step<l.length) :
  CallsIn FW 0 Try.prog 81 #[u,v] w fun e w'=>e=.returned (.bool (agreesS l seen))∧Nx w w':=by
 obtain⟨a,cap,rfl⟩:=hu.cases
 obtain⟨a2,cap2,rfl⟩:=hv.cases
 rw [List.length_map] at *
 rw [List.length_map] at *
 have HU:=Lib.hid hu
 have HV:=Lib.hid hv
 have HS:=Lib.hid hs
 clear hu hv hs
 obtain⟨g,hg⟩:∃ g,agreesS l seen=g:=⟨_,rfl⟩
 rw [hg]
 have HG:=Lib.hid hg
 clear hg
 gi_enter Try.func81,Try.ntmps81
 gi_wp2
 gi_loopw [5] (fun i wr=>∃ k:Nat,k≤seen.length∧i=num k∧(seen.take k).all (agreeE l)=true∧Nx w wr) (fun i _=>seen.length-(intOf i).toNat)
 case atStart=>exact⟨0,Nat.zero_le _,rfl,rfl,Nx.refl _⟩
 case round =>
  obtain⟨k,hk,rfl,hall,nr⟩:=hrel
  by_cases hlt:k<seen.length
  ·obtain⟨b,off,rfl,hbl,hcl⟩:=(HV.out).get (by simp;omega)
   have hh:seen[k]?=some seen[k]:=List.getElem?_eq_getElem hlt
   generalize seen[k]=x at hh
   obtain⟨q1,q2⟩:=HS.out x (List.mem_of_getElem? hh)
   obtain⟨q,hq⟩:∃ q:Nat,x.step=(q:Int):=⟨x.step.toNat,by omega⟩
   have hql:q<l.length:=by omega
   obtain⟨b',off',rfl,hbl',hcl'⟩:=(HU.out).get (by simp;omega)
   have hy:l[q]?=some l[q]:=List.getElem?_eq_getElem hql
   generalize l[q]=s at hy
   have e0:wr.cell? ⟨b,off+k * 3,none⟩=some (num q):=by rw [← hq];exact Sl.at hcl nr hbl hh 0 (v:=num x.step) rfl
   have e1:wr.cell? ⟨b,off+k * 3+1,none⟩=some (num x.lo):=Sl.at hcl nr hbl hh 1 (v:=num x.lo) rfl
   have e2:wr.cell? ⟨b,off+k * 3+2,none⟩=some (num x.hi):=Sl.at hcl nr hbl hh 2 (v:=num x.hi) rfl
   have f0:wr.cell? ⟨b',off' + q * 3,none⟩=some (num s.w):=Sl.at hcl' nr hbl' hy 0 (v:=num s.w) rfl
   have HE:Hid (agreeE l x=decide (x.lo≤s.w∧s.w≤x.hi)):=by show _=_;unfold agreeE;rw [hq,Int.toNat_natCast,hy]
   have HF:=Lib.hid (all_stop (p:=agreeE l) hh)
   have HA:=Lib.hid (all_go hh hall)
   have k58:=fun (w1:World)=>in58_any s.w x.lo x.hi w1
   clear hcl hcl' hh hy hall q1 q2 hq
   by_cases h1:x.lo≤s.w∧s.w≤x.hi
   ·have HR:=Lib.hid (HA.out (by rw [HE.out];exact decide_eq_true h1))
    have b2:=decide_eq_true h1
    clear h1
    gi_upto_region 4 with fail
    gi_big_quiet_th (first | (gi_at_call 58;refine CallsIn.quiet_of_same (k58 _)))
    gi_wp2
    exact⟨⟨k+1,hlt,by simp,HR.out,nr.drewN _⟩,by simp [intOf];omega⟩
   ·have HR:Hid (g=false):=by show _=_;rw [← HG.out];exact HF.out (by rw [HE.out];exact decide_eq_false h1)
    have b2:=decide_eq_false h1
    clear h1
    gi_upto_region 4 with fail
    gi_big_quiet_th (first | (gi_at_call 58;refine CallsIn.quiet_of_same (k58 _)))
    gi_wp2
    go_ret
    exact⟨by rw [HR.out]<;>rfl,nr.drewN _⟩
  ·obtain rfl:k=seen.length:=by omega
   have HR:Hid (g=true):=by show _=_;rw [← HG.out];rw [List.take_length] at hall;exact hall
   clear hall
   gi_wp2
   go_ret
   exact⟨by rw [HR.out]<;>rfl,nr⟩
end Go.Proofs.Ytedomogjmhommaa
namespace Go.Con
open Go Go.Conc
section
variable [Lone] {P:Program} {E D:Nat→Prop}
variable {maps:Bool} {Fz Arg:Nat→Prop} {W0:World} {ρ:Rn} {own A:Nat→Prop} {fr:Frame} {cs:List Frame} {W W' : World}
end
theorem Rch.not {W:World} {n:Nat} {roots X:Nat→Prop} {b:Nat} (hn:n≤b) (hr:¬ roots b) (hx:¬ X b):¬ Rch W n roots X b:=by
 intro h
 cases h with
 | glob h=>omega
 | root h=>exact hr h
 | cell _ _ _ _ h=>exact hx h
 | entry _ _ _ _ _ h=>exact hx h
end Go.Con
namespace Go.Proofs.Ytedomogjmhommaa
open Go.RowKit Go.Con Go.Conc
noncomputable def b3:Code:=match Try.f3.body with | some c=>c | none=>.skip
end Go.Proofs.Ytedomogjmhommaa
namespace Go.Proofs.Ytedomogjmhommaa
open Go.RowKit Go.Con Go.Conc
noncomputable def b9:Code:=match Try.f9.body with | some c=>c | none=>.skip
end Go.Proofs.Ytedomogjmhommaa
