import Derived.Test.YtedomogjmhommaaV01
set_option linter.all false
set_option maxRecDepth 100000
set_option maxHeartbeats 8000000
namespace Go.Con
open Go Go.Conc
section
variable [Lone]
variable {P:Program} {maps:Bool} {E Arg:Nat→Prop} {W0:World} {f:FuncId} {k:List Item} {cs:List Frame}
variable {Q:(Nat→Prop)→(Nat→Prop)→Goroutine→World→Prop} {pend:List Nat}
theorem edge_lt {ops:Array Oper} {n:Nat} (hn:neatOps ops n=true) {i j:Nat} (he:edgeTo ops i j=true):j<i:=by
 have hi:i<ops.size:=by
  rcases Nat.lt_or_ge i ops.size with h | h
  ·exact h
  ·unfold edgeTo at he
   rw [Array.getElem?_eq_none h] at he
   cases he
 unfold neatOps at hn
 rw [List.all_eq_true] at hn
 have h1:=hn i (List.mem_range.2 hi)
 rw [Bool.and_eq_true] at h1
 have h2:=h1.2
 have ho:ops[i]?=some ops[i]:=Array.getElem?_eq_getElem hi
 rw [ho,Option.any_some,Array.all_eq_true_iff_forall_mem] at h2
 unfold edgeTo at he
 rw [ho] at he
 simp only [Option.map_some,Option.getD_some] at he
 obtain⟨q,hq,he⟩:=Array.any_eq_true.1 he
 rw [Bool.and_eq_true,beq_iff_eq] at he
 have h3:=h2 _ (Array.getElem_mem hq)
 rw [he.1] at h3
 have h4:(ops[i]).after[q].on<i:=by simpa using h3
 omega
theorem seq_go {ops:Array Oper} {C:World→Prop} {vs:Nat→Value} {t0:Array Value} (hn:neatOps ops t0.size=true)
  (hop:∀ i,i<ops.size→∀ t W Fz φ rest,C W→t.size=t0.size→(∀ j d,edgeTo ops i j=true→dstOf ops j=some d→t[d]?=some (vs j))→(∀ d,freeOf ops d=true→t[d]?=t0[d]?) →
   (∀ W' Fz' φ',C W'→GoM P maps E Fz' Arg W0 Q φ' pend (Fr f (putD t (dstOf ops i) (vs i)) (.inRegion ops rest :: k)) cs W')→GoM P maps E Fz Arg W0 Q φ pend (Fr f t (.inRegion ops (i :: rest) :: k)) cs W)
  (hend:∀ t W Fz φ,C W→t.size=t0.size→(∀ j d,dstOf ops j=some d→t[d]?=some (vs j))→(∀ d,freeOf ops d=true→t[d]?=t0[d]?)→GoM P maps E Fz Arg W0 Q φ pend (Fr f t k) cs W) :
  ∀ (m i:Nat) (t:Array Value) (W:World) Fz φ,i+m=ops.size→t.size=t0.size→(∀ j d,j<i→dstOf ops j=some d→t[d]?=some (vs j))→(∀ d,freeOf ops d=true→t[d]?=t0[d]?)→C W →
   GoM P maps E Fz Arg W0 Q φ pend (Fr f t (.inRegion ops (List.range' i m) :: k)) cs W:=by
 intro m
 induction m with
 | zero =>
  intro i t W Fz φ hi hs hg ho hC
  exact Gm.regionEnd (hend t W Fz φ hC hs (fun j d hj=>hg j d (by have:=dstOf_lt hj;omega) hj) ho)
 | succ m ih =>
  intro i t W Fz φ hi hs hg ho hC
  obtain⟨di,hdi,hdn,_⟩:=neat_dst hn (show i<ops.size by omega)
  refine hop i (by omega) t W Fz φ _ hC hs (fun j d he hj=>hg j d (edge_lt hn he) hj) ho fun W' Fz' φ' hC'=>?_
  refine ih (i+1) _ W' Fz' φ' (by omega) ?_ ?_ ?_ hC'
  ·rw [hdi]
   simp only [putD,Array.size_setIfInBounds]
   exact hs
  ·intro j d hj hd
   rw [hdi]
   simp only [putD]
   by_cases hij:i=j
   ·subst hij
    rw [hdi] at hd
    cases hd
    exact Array.getElem?_setIfInBounds_self_of_lt (by rw [hs];exact hdn)
   ·have hne:di≠d:=fun h=>hij (neat_inj hn hdi (h ▸ hd))
    rw [Array.getElem?_setIfInBounds_ne hne]
    exact hg j d (by omega) hd
  ·intro d hd
   rw [hdi]
   simp only [putD]
   have hne:di≠d:=fun h=>freeOf_spec hd i (h ▸ hdi)
   rw [Array.getElem?_setIfInBounds_ne hne]
   exact ho d hd
theorem Gm.regionSeq {Fz:Nat→Prop} {φ:Ph} {t0:Array Value} {W:World} {id:Nat} {ops:Array Oper} (C:World→Prop) (vs:Nat→Value) (hn:neatOps ops t0.size=true) (hC:C W)
  (hop:∀ i,i<ops.size→∀ t W Fz φ rest,C W→t.size=t0.size→(∀ j d,edgeTo ops i j=true→dstOf ops j=some d→t[d]?=some (vs j))→(∀ d,freeOf ops d=true→t[d]?=t0[d]?) →
   (∀ W' Fz' φ',C W'→GoM P maps E Fz' Arg W0 Q φ' pend (Fr f (putD t (dstOf ops i) (vs i)) (.inRegion ops rest :: k)) cs W')→GoM P maps E Fz Arg W0 Q φ pend (Fr f t (.inRegion ops (i :: rest) :: k)) cs W)
  (hend:∀ t W Fz φ,C W→t.size=t0.size→(∀ j d,dstOf ops j=some d→t[d]?=some (vs j))→(∀ d,freeOf ops d=true→t[d]?=t0[d]?)→GoM P maps E Fz Arg W0 Q φ pend (Fr f t k) cs W) :
  GoM P maps E Fz Arg W0 Q φ pend (Fr f t0 (.code (.region id ops false) :: k)) cs W:=by
 refine Gm.region ?_
 rw [List.range_eq_range']
 exact seq_go hn hop hend _ _ _ _ _ _ (by omega) rfl (fun j d h _=>absurd h (Nat.not_lt_zero _)) (fun _ _=>rfl) hC
end
end Go.Con
namespace Go.Proofs.Ytedomogjmhommaa
open Go.RowKit Go.Con Go.Conc
section
variable {F:Fence} {n:Nat} {ops:Array Oper} {C:World→Prop}
end
noncomputable def b6:Code:=match Try.f6.body with | some c=>c | none=>.skip
end Go.Proofs.Ytedomogjmhommaa
namespace Go.Proofs.Ytedomogjmhommaa
open Go.RowKit Go.Shelf
def inL (l:List St) (s:St):Bool:=l.any fun t=>decide (t=s)
theorem inL_iff {l:List St} {s:St}:inL l s=true↔s∈l:=by
 unfold inL
 rw [List.any_eq_true]
 constructor
 ·rintro ⟨t,h,e⟩
  rw [← of_decide_eq_true e]
  exact h
 ·exact fun h=>⟨s,h,decide_eq_true rfl⟩
def leadsAll (d:Dry) (L:List (List St)) (i:Nat):Bool:=match d.steps[i]?,L[i]?,L[i+1]? with | some x,some l,some m=>l.all fun s=>leadsB d x s (inL m) | _,_,_=>true
def provesF (d:Dry) (L:List (List St)):Bool×Int :=
 if dryF d≠0 then (false,dryF d) else if L.length≠d.steps.length+1 then (false,2) else
 if orF ((L.flatten).map (stF d))≠0 then (false,orF ((L.flatten).map (stF d))) else
 if (List.range d.steps.length).all (leadsAll d L)=true then (inL (L.getD 0 []) d.start,0) else (false,0)
end Go.Proofs.Ytedomogjmhommaa
namespace Go.Proofs.Ytedomogjmhommaa
open Go.RowKit Go.Shelf
def airAt (d:Dry) (picks:List Int) (k:Nat):Int:=match d.steps[k]? with | some x=>x.lo+pick picks k % (x.hi-x.lo+1) | none=>0
def airP (d:Dry) (picks:List Int):List Int:=(List.range d.steps.length).map (airAt d picks)
theorem airP_len (d:Dry) (picks:List Int):(airP d picks).length=d.steps.length:=by simp [airP]
theorem airP_at {d:Dry} {picks:List Int} {k:Nat} (h:k<d.steps.length):(airP d picks)[k]?=some (airAt d picks k):=by simp [airP,h]
theorem airAt_eq {d:Dry} {picks:List Int} {k:Nat} {x:Stp} (h:d.steps[k]?=some x):airAt d picks k=x.lo+pick picks k % (x.hi-x.lo+1):=by unfold airAt;rw [h]
theorem airAt_in {d:Dry} (hO:d.Ok) {picks:List Int} {k:Nat} {x:Stp} (h:d.steps[k]?=some x):x.lo≤airAt d picks k∧airAt d picks k≤x.hi:=by
 rw [airAt_eq h]
 have h1:=(hO.st x (List.mem_of_getElem? h)).1
 have h2:=Int.emod_nonneg (pick picks k) (show x.hi-x.lo+1≠0 by omega)
 have h3:=Int.emod_lt_of_pos (pick picks k) (show 0<x.hi-x.lo+1 by omega)
 omega
theorem airP_mem {d:Dry} (hO:d.Ok) (picks:List Int):airP d picks∈airsL d.steps:=by
 refine airs_mem.2 ⟨airP_len d picks,fun i x y hx hy=>?_⟩
 have hi:=(List.getElem?_eq_some_iff.1 hx).1
 rw [airP_at hi,Option.some.injEq] at hy
 rw [← hy]
 exact damps_of (airAt_in hO hx)
end Go.Proofs.Ytedomogjmhommaa
namespace Go.Proofs.Ytedomogjmhommaa
open Go.RowKit Go.Shelf
theorem orF_zero:∀ l:List Int,(∀ x∈l,x=0)→orF l=0
 | [],_=>rfl
 | x :: l,h=>by
  have:=h x (List.mem_cons_self ..)
  subst this
  have ih:=orF_zero l fun y hy=>h y (List.mem_cons_of_mem _ hy)
  simp [orF,ih]
structure Hull (n:Nat) (G:List (List Int)) (D:List (Int×Int)):Prop where
 len:D.length=n
 lo:∀ (i:Nat) (p:Int×Int),D[i]?=some p→∃ a∈G,a[i]?=some p.1
 hi:∀ (i:Nat) (p:Int×Int),D[i]?=some p→∃ a∈G,a[i]?=some p.2
 all:∀ (i:Nat) (p:Int×Int),D[i]?=some p→∀ a∈G,∀ y,a[i]?=some y→p.1≤y∧y≤p.2
theorem Hull.one {n:Nat} {a:List Int} (h:a.length=n):Hull n [a] (a.map fun x=>(x,x)):=by
 refine⟨by simp [h],fun i p hp=>?_,fun i p hp=>?_,fun i p hp b hb y hy=>?_⟩
 ·rw [List.getElem?_map] at hp
  obtain⟨z,hz,rfl⟩:=Option.map_eq_some_iff.1 hp
  exact⟨a,List.mem_singleton.2 rfl,hz⟩
 ·rw [List.getElem?_map] at hp
  obtain⟨z,hz,rfl⟩:=Option.map_eq_some_iff.1 hp
  exact⟨a,List.mem_singleton.2 rfl,hz⟩
 ·rw [List.getElem?_map] at hp
  obtain⟨z,hz,rfl⟩:=Option.map_eq_some_iff.1 hp
  rw [List.mem_singleton.1 hb,hz,Option.some.injEq] at hy
  subst hy
  exact⟨Int.le_refl _,Int.le_refl _⟩
theorem Hull.step {n:Nat} {G:List (List Int)} {D:List (Int×Int)} (h:Hull n G D) {a:List Int} (ha:a.length=n):Hull n (G++[a]) (List.zipWith (fun p x=>(min p.1 x,max p.2 x)) D a):=by
 have hz:∀ (i:Nat) (q:Int×Int),(List.zipWith (fun (p:Int×Int) (x:Int)=>(min p.1 x,max p.2 x)) D a)[i]?=some q→∃ p x,D[i]?=some p∧a[i]?=some x∧q=(min p.1 x,max p.2 x):=by
  intro i q hq
  rw [List.getElem?_zipWith] at hq
  cases h1:D[i]? with
  | none=>rw [h1] at hq;simp at hq
  | some p =>
   cases h2:a[i]? with
   | none=>rw [h1,h2] at hq;simp at hq
   | some x=>rw [h1,h2] at hq;simp at hq;exact⟨p,x,rfl,rfl,hq.symm⟩
 refine⟨by simp [h.len,ha],fun i q hq=>?_,fun i q hq=>?_,fun i q hq b hb y hy=>?_⟩
 ·obtain⟨p,x,hp,hx,rfl⟩:=hz i q hq
  obtain⟨b,hb,e⟩:=h.lo i p hp
  by_cases hc:p.1≤x
  ·exact⟨b,List.mem_append_left _ hb,by rw [e];simp;omega⟩
  ·exact⟨a,by simp,by rw [hx];simp;omega⟩
 ·obtain⟨p,x,hp,hx,rfl⟩:=hz i q hq
  obtain⟨b,hb,e⟩:=h.hi i p hp
  by_cases hc:x≤p.2
  ·exact⟨b,List.mem_append_left _ hb,by rw [e];simp;omega⟩
  ·exact⟨a,by simp,by rw [hx];simp;omega⟩
 ·obtain⟨p,x,hp,hx,rfl⟩:=hz i q hq
  rcases List.mem_append.1 hb with hb | hb
  ·have:=h.all i p hp b hb y hy
   dsimp only
   omega
  ·rw [List.mem_singleton.1 hb,hx,Option.some.injEq] at hy
   subst hy
   dsimp only
   omega
end Go.Proofs.Ytedomogjmhommaa
namespace Go.Proofs.Ytedomogjmhommaa
open Go.RowKit Go.Shelf
theorem setAt_list {d:Dry} {n i:Nat} (h:i≤n):((List.range (n+1)).map (setAt d))[i]?=some (setAt d i):=by
 rw [List.getElem?_map,List.getElem?_range (by omega)]
 rfl
theorem safe_cases {d:Dry} (hF:dryF d=0):(chooseS d d.steps d.start<0∧safeF d=([],false,0))∨(0≤chooseS d d.steps d.start∧safeF d=((List.range (d.steps.length+1)).map (setAt d),true,0)):=by
 unfold safeF
 rw [if_neg (fun h=>h hF)]
 by_cases h:chooseS d d.steps d.start<0
 ·rw [if_pos h];exact .inl ⟨h,rfl⟩
 ·rw [if_neg h];exact .inr ⟨by omega,rfl⟩
theorem choose_start {d:Dry} (hO:d.Ok) (hF:dryF d=0) (hn:d.steps.length≠0):(chooseF d (0:Int) d.start).2.2=0∧(chooseF d (0:Int) d.start).2.1=(safeF d).2.1:=by
 unfold chooseF
 rw [if_neg (fun h=>h hF),if_neg (by omega),if_neg (fun h=>h (stF_ok.2 (stF_ok.1 hO.start))),show ((0:Int)).toNat=0 by omega,List.drop_zero]
 rcases safe_cases hF with ⟨h,e⟩ | ⟨h,e⟩
 ·rw [e,if_neg (by omega)];exact⟨rfl,rfl⟩
 ·rw [e,if_pos h];exact⟨rfl,rfl⟩
theorem true_step {d:Dry} (hO:d.Ok) (hF:dryF d=0) (h0:0≤chooseS d d.steps d.start) {i:Nat} {x:Stp} {s:St} {a:Int} (hx:d.steps[i]?=some x) (hs:s∈setAt d i) (ha:a∈x.damps) :
  ∃ k:Nat,k<d.heats.length∧chooseF d (i:Int) s=((k:Int),true,0)∧mayB d.heats.length x s.h k=true∧nextS d (heatAt d k) s k a∈setAt d (i+1)∧keepsB x (nextS d (heatAt d k) s k a)=true:=by
 have hi:=(List.getElem?_eq_some_iff.1 hx).1
 obtain⟨hok,hc⟩:=set_safe hO h0 i (by omega) s hs
 have hc':=hc
 rw [drop_cons hx] at hc
 obtain⟨k,hk,e,hg⟩:=choose_good hc
 have hgn:=good_next hg
 refine⟨k,hk,?_,hgn.1,?_,(hgn.2 a ha).1⟩
 ·unfold chooseF
  rw [if_neg (fun h=>h hF),if_neg (by omega),if_neg (fun h=>h (stF_ok.2 hok)),show ((i:Int)).toNat=i by omega,if_pos hc',drop_cons hx,e]
 ·rw [setAt_succ hx,mem_set,drop_cons hx]
  refine mem_nextL.2 ⟨s,hs,a,ha,?_⟩
  rw [e,Int.toNat_natCast]
theorem safe_proves {d:Dry} (hO:d.Ok) (hF:dryF d=0) (h0:0≤chooseS d d.steps d.start):provesF d ((List.range (d.steps.length+1)).map (setAt d))=(true,0):=by
 unfold provesF
 rw [if_neg (fun h=>h hF),if_neg (by simp)]
 have hor:orF ((((List.range (d.steps.length+1)).map (setAt d)).flatten).map (stF d))=0:=by
  apply orF_zero
  intro x hx
  obtain⟨s,hs,rfl⟩:=List.mem_map.1 hx
  obtain⟨l,hl,hs⟩:=List.mem_flatten.1 hs
  obtain⟨i,hi,rfl⟩:=List.mem_map.1 hl
  exact stF_ok.2 (set_safe hO h0 i (by have:=List.mem_range.1 hi;omega) s hs).1
 rw [if_neg (fun h=>h hor)]
 have hall:(List.range d.steps.length).all (leadsAll d ((List.range (d.steps.length+1)).map (setAt d)))=true:=by
  rw [List.all_eq_true]
  intro i hi
  have hi':=List.mem_range.1 hi
  have hx:d.steps[i]?=some d.steps[i]:=List.getElem?_eq_getElem hi'
  unfold leadsAll
  rw [hx,setAt_list (by omega),setAt_list (by omega)]
  refine List.all_eq_true.2 fun s hs=>?_
  obtain⟨hok,hc⟩:=set_safe hO h0 i (by omega) s hs
  have hc':=hc
  rw [drop_cons hx] at hc
  obtain⟨k,hk,e,hg⟩:=choose_good hc
  have hgn:=good_next hg
  unfold leadsB
  refine List.any_eq_true.2 ⟨k,List.mem_range.2 hk,?_⟩
  unfold leadS
  rw [Bool.and_eq_true]
  refine⟨hgn.1,List.all_eq_true.2 fun a ha=>?_⟩
  unfold leadOk
  rw [Bool.and_eq_true]
  refine⟨(hgn.2 a ha).1,inL_iff.2 ?_⟩
  rw [setAt_succ hx,mem_set,drop_cons hx]
  refine mem_nextL.2 ⟨s,hs,a,ha,?_⟩
  rw [e,Int.toNat_natCast]
 rw [if_pos hall]
 have h1:((List.range (d.steps.length+1)).map (setAt d)).getD 0 []=[d.start]:=by
  rw [List.getD,setAt_list (Nat.zero_le _)]
  rfl
 rw [h1]
 have h2:inL [d.start] d.start=true:=inL_iff.2 (List.mem_singleton.2 rfl)
 rw [h2]
end Go.Proofs.Ytedomogjmhommaa
