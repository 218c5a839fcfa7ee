import Derived.Test.YtedomogjmhommaaR01
set_option linter.all false
set_option maxRecDepth 100000
set_option maxHeartbeats 8000000
namespace Go.Proofs.Ytedomogjmhommaa
open Go.RowKit Go.Shelf
def easN (picks:List Int) (x:Stp) (k:Nat):Int:=x.lo+pick picks (3 * k) % (x.hi-x.lo+1)
def easAt (picks:List Int) (x:Stp) (k:Nat):Stp :=
 ⟨easN picks x k,easN picks x k+pick picks (3 * k+1) % (x.hi-easN picks x k+1),x.tended || decide (pick picks (3 * k+2) % 2=1),max 0 (x.wlo-pick picks (3 * k+2) % 50),min 5000 (x.whi+pick picks (3 * k+2) % 70),max 0 (x.col-pick picks (3 * k+2) % 20)⟩
def easS (d:Dry) (picks:List Int) (k:Nat):Stp:=match d.steps[k]? with | some x=>easAt picks x k | none=>⟨0,0,false,0,0,0⟩
def easP (d:Dry) (picks:List Int):Dry:=⟨d.heats,d.soak,d.brittle,d.start,(List.range d.steps.length).map (easS d picks)⟩
theorem easP_len (d:Dry) (picks:List Int):(easP d picks).steps.length=d.steps.length:=by simp [easP]
theorem easP_at {d:Dry} {picks:List Int} {k:Nat} {x:Stp} (h:d.steps[k]?=some x):(easP d picks).steps[k]?=some (easAt picks x k):=by
 obtain⟨h1,h2⟩:=List.getElem?_eq_some_iff.1 h
 simp [easP,h1,easS,h2]
structure EasR (n:Int) (x y:Stp):Prop where
 dm:x.lo≤y.lo∧y.hi≤x.hi
 kp:∀ s,keepsB x s=true→keepsB y s=true
 my:∀ was h,mayB n x was h=true→mayB n y was h=true
def EasL (n:Int):List Stp→List Stp→Prop
 | [],[]=>True
 | x :: xs,y :: ys=>EasR n x y∧EasL n xs ys
 | _,_=>False
theorem easL_of {n:Int}:∀ (xs ys:List Stp),ys.length=xs.length→(∀ (k:Nat) (x y:Stp),xs[k]?=some x→ys[k]?=some y→EasR n x y)→EasL n xs ys
 | [],[],_,_=>trivial
 | [],y :: ys,h,_=>by simp at h
 | x :: xs,[],h,_=>by simp at h
 | x :: xs,y :: ys,h,hk=>⟨hk 0 x y rfl rfl,easL_of xs ys (by simpa using h) fun k a b h1 h2=>hk (k+1) a b (by simpa using h1) (by simpa using h2)⟩
theorem easL_drop {n:Int}:∀ (k:Nat) (xs ys:List Stp),EasL n xs ys→EasL n (xs.drop k) (ys.drop k)
 | 0,xs,ys,h=>h
 | k+1,[],[],_=>trivial
 | k+1,[],y :: ys,h=>h.elim
 | k+1,x :: xs,[],h=>h.elim
 | k+1,x :: xs,y :: ys,h=>easL_drop k xs ys h.2
theorem easAt_ok {picks:List Int} (hx:∀ x∈picks,0≤x∧x≤65535) {x:Stp} (h:(0≤x.lo∧x.lo≤x.hi∧x.hi≤3)∧(0≤x.wlo∧x.wlo≤x.whi∧x.whi≤5000)∧(0≤x.col∧x.col≤1000)) (k:Nat) :
  (x.lo≤(easAt picks x k).lo∧(easAt picks x k).lo≤(easAt picks x k).hi∧(easAt picks x k).hi≤x.hi)∧(0≤(easAt picks x k).wlo∧(easAt picks x k).wlo≤x.wlo)∧(x.whi≤(easAt picks x k).whi∧(easAt picks x k).whi≤5000)∧(0≤(easAt picks x k).col∧(easAt picks x k).col≤x.col):=by
 have a1:=Int.emod_nonneg (pick picks (3 * k)) (show x.hi-x.lo+1≠0 by omega)
 have a2:=Int.emod_lt_of_pos (pick picks (3 * k)) (show 0<x.hi-x.lo+1 by omega)
 have e:easN picks x k=x.lo+pick picks (3 * k) % (x.hi-x.lo+1):=rfl
 have b1:=Int.emod_nonneg (pick picks (3 * k+1)) (show x.hi-easN picks x k+1≠0 by omega)
 have b2:=Int.emod_lt_of_pos (pick picks (3 * k+1)) (show 0<x.hi-easN picks x k+1 by omega)
 unfold easAt
 dsimp only
 omega
theorem easAt_rel {picks:List Int} (hx:∀ x∈picks,0≤x∧x≤65535) {n:Int} {x:Stp} (h:(0≤x.lo∧x.lo≤x.hi∧x.hi≤3)∧(0≤x.wlo∧x.wlo≤x.whi∧x.whi≤5000)∧(0≤x.col∧x.col≤1000)) (k:Nat):EasR n x (easAt picks x k):=by
 have ho:=easAt_ok hx h k
 refine⟨by omega,fun s hs=>?_,fun was hh hm=>?_⟩
 ·unfold keepsB at hs ⊢
  rw [Bool.and_eq_true,decide_eq_true_eq,decide_eq_true_eq] at hs ⊢
  omega
 ·unfold mayB at hm ⊢
  rw [Bool.and_eq_true] at hm ⊢
  refine⟨hm.1,?_⟩
  have ht:x.tended=true→(easAt picks x k).tended=true:=fun e=>by
   show (x.tended || _)=true
   rw [e];rfl
  have h2:=hm.2
  rw [Bool.or_eq_true,Bool.and_eq_true] at h2 ⊢
  exact h2.imp id fun h=>⟨ht h.1,h.2⟩
theorem easP_ok {d:Dry} (hO:d.Ok) (hF:dryF d=0) {picks:List Int} (hx:∀ x∈picks,0≤x∧x≤65535):dryF (easP d picks)=0:=by
 have hall:(easP d picks).steps.all stpOk=true:=by
  rw [List.all_eq_true]
  intro y hy
  obtain⟨k,hk,rfl⟩:=List.mem_map.1 hy
  have hk':=List.mem_range.1 hk
  have hs:d.steps[k]?=some d.steps[k]:=List.getElem?_eq_getElem hk'
  have hb:=hO.st _ (List.mem_of_getElem? hs)
  have ho:=easAt_ok hx hb k
  unfold easS
  rw [hs]
  dsimp only
  unfold stpOk
  rw [Bool.and_eq_true,Bool.and_eq_true]
  refine⟨⟨decide_eq_true ?_,decide_eq_true ?_⟩,decide_eq_true ?_⟩<;>(try dsimp only)<;>omega
 have hlen:=easP_len d picks
 unfold dryF at hF ⊢
 rw [hlen,hall]
 split at hF
 ·cases hF
 rename_i c1
 split at hF
 ·cases hF
 rename_i c2
 split at hF
 ·cases hF
 rename_i c3
 split at hF
 ·exact absurd hF (by assumption)
 rename_i c4
 split at hF
 ·cases hF
 rename_i c5
 show (if ¬ (1≤(d.heats.length:Int)∧(d.heats.length:Int)≤4) then (2:Int) else if d.heats.all heatOk=false then 1 else if ¬ ((0≤d.soak∧d.soak≤1000)∧(0≤d.brittle∧d.brittle≤5000)) then 1 else if stF d d.start≠0 then stF d d.start else if 5<d.steps.length then 2 else if true=false then 1 else 0)=0
 rw [if_neg c1,if_neg c2,if_neg c3,if_neg c4,if_neg c5,if_neg (by decide)]
theorem easP_rel {d:Dry} (hO:d.Ok) {picks:List Int} (hx:∀ x∈picks,0≤x∧x≤65535):EasL d.heats.length d.steps (easP d picks).steps:=by
 refine easL_of _ _ (easP_len d picks) fun k x y h1 h2=>?_
 rw [easP_at h1,Option.some.injEq] at h2
 rw [← h2]
 exact easAt_rel hx (hO.st x (List.mem_of_getElem? h1)) k
theorem choose_mono (d:Dry) (st:List Stp):∀ (xs ys:List Stp),EasL d.heats.length xs ys→∀ s,0≤chooseS d xs s→0≤chooseS ⟨d.heats,d.soak,d.brittle,d.start,st⟩ ys s
 | [],[],_,_,h=>h
 | [],y :: ys,h,_,_=>h.elim
 | x :: xs,[],h,_,_=>h.elim
 | x :: xs,y :: ys,h,s,hc=>by
  obtain⟨h1,h2⟩:=h
  have ih:=choose_mono d st xs ys h2
  unfold chooseS at hc ⊢
  rcases first_cases (goodS d (chooseS d xs) x s) d.heats.length with ⟨e,_⟩ | ⟨k,hk,e,hg,_⟩
  ·rw [e] at hc;omega
  ·rcases first_cases (goodS ⟨d.heats,d.soak,d.brittle,d.start,st⟩ (chooseS ⟨d.heats,d.soak,d.brittle,d.start,st⟩ ys) y s) d.heats.length with ⟨_,hn⟩ | ⟨j,_,e2,_⟩
   ·have:=hn k hk
    have hgood:goodS ⟨d.heats,d.soak,d.brittle,d.start,st⟩ (chooseS ⟨d.heats,d.soak,d.brittle,d.start,st⟩ ys) y s k=true:=by
     unfold goodS at hg ⊢
     rw [Bool.and_eq_true] at hg ⊢
     refine⟨h1.my _ _ hg.1,List.all_eq_true.2 fun a ha=>?_⟩
     have hb:=damps_mem ha
     have:=List.all_eq_true.1 hg.2 a (damps_of ⟨by have:=h1.dm;omega,by have:=h1.dm;omega⟩)
     unfold dampOk at this ⊢
     rw [Bool.and_eq_true] at this ⊢
     exact⟨h1.kp _ this.1,decide_eq_true (ih _ (of_decide_eq_true this.2))⟩
    rw [hgood] at this
    cases this
   ·show 0≤firstS _ d.heats.length
    rw [e2];omega
theorem good_mono (d:Dry) (st:List Stp):∀ (xs ys:List Stp) (l l' : List St) (was:Int) (p:List Int),EasL d.heats.length xs ys→(∀ s∈l',s∈l)→GoodP d xs l was p→GoodP ⟨d.heats,d.soak,d.brittle,d.start,st⟩ ys l' was p
 | [],[],_,_,_,_,_,_,h=>h
 | [],y :: ys,_,_,_,_,h,_,_=>h.elim
 | x :: xs,[],_,_,_,_,h,_,_=>h.elim
 | x :: xs,y :: ys,_,_,_,[],_,_,h=>h.elim
 | x :: xs,y :: ys,l,l',was,h :: t,hr,hs,hg=>by
  obtain⟨h1,h2⟩:=hr
  obtain⟨g1,g2,g3⟩:=hg
  have hsub:∀ s∈afterL ⟨d.heats,d.soak,d.brittle,d.start,st⟩ y h.toNat l',s∈afterL d x h.toNat l:=by
   intro s hm
   obtain⟨s0,hs0,h5⟩:=List.mem_flatMap.1 hm
   obtain⟨a,ha,rfl⟩:=List.mem_map.1 h5
   have hb:=damps_mem ha
   exact List.mem_flatMap.2 ⟨s0,hs s0 hs0,List.mem_map.2 ⟨a,damps_of ⟨by have:=h1.dm;omega,by have:=h1.dm;omega⟩,rfl⟩⟩
  exact⟨h1.my _ _ g1,List.all_eq_true.2 fun s hm=>h1.kp _ (List.all_eq_true.1 g2 s (hsub s hm)),good_mono d st xs ys _ _ _ t h2 hsub g3⟩
theorem spoil_none {d:Dry} (hO:d.Ok) {p:List Int} (hp:planF d p=0) (hall:∀ a∈airsL d.steps,brk d (followS d d.start p a)=-1):spoilF d p=([],0,false,0):=by
 obtain⟨a0,ha0⟩:=airs_some d.steps fun x hx=>(hO.st x hx).1.2.1
 rcases spoils_law p a0 hp ha0 with ⟨h,_⟩ | ⟨a,k,ha,hk,_,hk1,_⟩
 ·exact h
 ·rcases brk_cases d (followS d d.start p a) with ⟨_,hn⟩ | ⟨j,_,e,_⟩
  ·rw [hn k hk] at hk1;cases hk1
  ·have:=hall a ha;omega
theorem choose_zero2 {d:Dry} (hF:dryF d=0) {i:Nat} (hi:i<d.steps.length) {s:St} (hs:stF d s=0):chooseF d i s=if 0≤chooseS d (d.steps.drop i) s then (chooseS d (d.steps.drop i) s,true,0) else (0,false,0):=by
 unfold chooseF
 rw [if_neg (fun h=>h hF),if_neg (by omega),if_neg (fun h=>h hs),show ((i:Int)).toNat=i by omega]
theorem easier_law {d:Dry} (hO:d.Ok) (hF:dryF d=0) {picks:List Int} (hx:∀ x∈picks,0≤x∧x≤65535) :
  dryF (easP d picks)=0∧(safeF d).2.2=0∧(safeF (easP d picks)).2.2=0∧(blindF d).2.2=0∧((safeF d).2.1=true→(safeF (easP d picks)).2.1=true) ∧
  ((blindF d).2.1=true→spoilF (easP d picks) (blindF d).1=([],0,false,0))∧∀ (i:Nat) (s:St),i<d.steps.length→stF d s=0→(chooseF d i s).2.2=0∧(chooseF (easP d picks) i s).2.2=0∧((chooseF d i s).2.1=true→(chooseF (easP d picks) i s).2.1=true):=by
 have hF2:=easP_ok hO hF hx
 have hO2:=dryF_ok hF2
 have hr:=easP_rel hO hx
 have hz:∀ (e:Dry),dryF e=0→(safeF e).2.2=0∧((safeF e).2.1=true↔0≤chooseS e e.steps e.start):=fun e he=>by
  unfold safeF
  rw [if_neg (by simpa using he)]
  split
  ·rename_i h;exact⟨rfl,fun h=>(by cases h),fun h=>by omega⟩
  ·rename_i h;exact⟨rfl,fun _=>by omega,fun _=>rfl⟩
 have hbf:blindF d=((blindS d d.steps [d.start] d.start.h).1,(blindS d d.steps [d.start] d.start.h).2,0):=by
  unfold blindF
  rw [if_neg (by simpa using hF)]
  split
  ·rename_i e;rw [e];rfl
  ·rfl
 refine⟨hF2,(hz d hF).1,(hz _ hF2).1,by rw [hbf],fun h=>(hz _ hF2).2.2 (choose_mono d _ _ _ hr _ ((hz d hF).2.1 h)),fun h=>?_,fun i s hi hs=>?_⟩
 ·rw [hbf] at h ⊢
  have hg:=blindS_good d _ _ _ h
  have hg2:GoodP (easP d picks) (easP d picks).steps [(easP d picks).start] (easP d picks).start.h (blindS d d.steps [d.start] d.start.h).1:=good_mono d _ _ _ _ _ _ _ hr (fun s hs=>hs) hg
  have:=(good_all hO2).1 hg2
  exact spoil_none hO2 (by unfold planF;rw [if_neg (by simpa using hF2)];exact this.1) this.2
 ·have hi2:i<(easP d picks).steps.length:=by rw [easP_len];exact hi
  have hs2:stF (easP d picks) s=0:=hs
  rw [choose_zero2 hF hi hs,choose_zero2 hF2 hi2 hs2]
  have hm:=choose_mono d (easP d picks).steps _ _ (easL_drop i _ _ hr) s
  refine⟨by split<;>rfl,by split<;>rfl,fun h=>?_⟩
  split at h
  ·rename_i hc
   rw [if_pos (show 0≤chooseS (easP d picks) ((easP d picks).steps.drop i) s from hm hc)]
  ·cases h
end Go.Proofs.Ytedomogjmhommaa
namespace Go.Proofs.Ytedomogjmhommaa
open Go.RowKit Go.Shelf
theorem one85_any (x:Int×Int) (b:Int) (w:World) (hx:0≤x.1∧x.1≤x.2∧x.2≤5000) (hb:0≤b∧b≤65535):CallsIn FW 0 Try.prog 85 #[spV x,num b] w fun e w'=>e=.returned (num (x.1+b % (x.2-x.1+1)))∧Nx w w':=by
 obtain⟨lo,hi⟩:=x
 dsimp only at hx ⊢
 have hne:¬ (hi-lo+1=0):=by omega
 have hne2:(hi-lo+1=0)=False:=by simp;omega
 have he:b.tmod (hi-lo+1)=b % (hi-lo+1):=Int.tmod_eq_emod_of_nonneg hb.1
 have h2:=Int.emod_nonneg b (show hi-lo+1≠0 by omega)
 have h3:=Int.emod_lt_of_pos b (show 0<hi-lo+1 by omega)
 gi_enter Try.func85,Try.ntmps85
 gi_upto_region 1 with fail
 generalize hW:w.alloc _=W
 obtain⟨nW,sW,gW⟩:=al1 hW
 clear hW
 have c0:W.cell? ⟨w.heap.size,0,none⟩=some (num lo):=row_cell gW rfl
 have c1:W.cell? ⟨w.heap.size,1,none⟩=some (num hi):=row_cell gW rfl
 generalize w.heap.size=A at *
 gi_big_quiet_th (fail)
 gi_wp2
 go_ret
 exact⟨rfl,nW.drewN _⟩
theorem pick_bd {xs:List Int} (hx:∀ x∈xs,0≤x∧x≤65535) (k:Nat):0≤pick xs k∧pick xs k≤65535:=by
 unfold pick
 by_cases h:k<xs.length
 ·have:xs[k]?=some xs[k]:=List.getElem?_eq_getElem h
  simp only [List.getD,this,Option.getD_some]
  exact hx _ (List.getElem_mem _)
 ·simp [List.getD,List.getElem?_eq_none (Nat.le_of_not_lt h)]
theorem pick84_big (u:Value) (xs:List Int) (k:Nat) (w:World) (hu:Sl w u 1 (xs.map fun x=>[u16 x])) (hx:∀ x∈xs,0≤x∧x≤65535) (hl:xs.length≤140737488355328):CallsIn FW 0 Try.prog 84 #[u,num k] w fun e w'=>e=.returned (num (pick xs k))∧w'=w:=by
 obtain⟨a,cap,rfl⟩:=hu.cases
 rw [List.length_map] at *
 by_cases hlt:k<xs.length
 ·obtain⟨b,off,rfl,hbl,hcl⟩:=hu.get (by simp;omega)
  have hh:xs[k]?=some xs[k]:=List.getElem?_eq_getElem hlt
  have hp:pick xs k=xs[k]:=by unfold pick;simp [List.getD,hh]
  rw [hp]
  have hb:=hx xs[k] (List.getElem_mem _)
  generalize xs[k]=x at hh hb
  have e0:w.cell? ⟨b,off+k,none⟩=some (u16 x):=by
   have:=hcl k 0 [u16 x] (u16 x) (by simp [hh]) rfl
   simpa using this
  clear hcl hh hp hx hu
  gi_enter Try.func84,Try.ntmps84
  gi_wp2
  go_ret
  refine⟨?_,rfl⟩
  rfl
 ·have hp:pick xs k=0:=by unfold pick;simp [List.getD,List.getElem?_eq_none (Nat.le_of_not_lt hlt)]
  rw [hp]
  gi_enter Try.func84,Try.ntmps84
  gi_wp2
  go_ret
  exact⟨rfl,rfl⟩
end Go.Proofs.Ytedomogjmhommaa
namespace Go.Proofs.Ytedomogjmhommaa
open Go.RowKit Go.Shelf
theorem T25:ElemT 25 59 (.agg #[num 0,num 0,.bool false,num 0,num 0,num 0]) 6 48:=.mk' Try.underlying25 (by kernel_rfl) (by kernel_rfl) (by decide)
theorem res43 {t:Array Value} {W:World} {b:Nat} {rh v:Value} {x1 x2 x3 x4 x5:Int} {fz:Nat×Nat} (h4:t[4]?=some (ptr b)) (g:W.heap[b]?=some (.cells #[rh,num x1,num x2,num x3,num x4,num x5,v] 27 fz)):(results Try.f43 t).run Try.prog W=.ok (.agg #[rh,num x1,num x2,num x3,num x4,num x5,v]) W:=by
 have c0:=row_cell (i:=0) g rfl
 have c1:=row_cell (i:=1) g rfl
 have c2:=row_cell (i:=2) g rfl
 have c3:=row_cell (i:=3) g rfl
 have c4:=row_cell (i:=4) g rfl
 have c5:=row_cell (i:=5) g rfl
 have c6:=row_cell (i:=6) g rfl
 simp [results,Try.results43,go_sem,h4,c0,c1,c2,c3,c4,c5,c6]
theorem stps_row {xs:List Stp}:∀ y∈xs.map Stp.cells,y.length=6:=fun y hy=>by obtain⟨x,_,rfl⟩:=List.mem_map.1 hy;rfl
theorem set6a {w:World} {b:Nat} {e:TypeId} {fz:Nat×Nat} {x0 x1 x2 x3 x4 x5 v0 v1:Value} (h:w.heap[b]?=some (.cells #[x0,x1,x2,x3,x4,x5] e fz)):((w.setCell ⟨b,0,none⟩ v0).setCell ⟨b,1,none⟩ v1).heap[b]?=some (.cells #[v0,v1,x2,x3,x4,x5] e fz):=row_set (row_set h)
theorem set6b {w:World} {b:Nat} {e:TypeId} {fz:Nat×Nat} {x0 x1 x2 x3 x4 x5 v0 v1:Value} (h:w.heap[b]?=some (.cells #[x0,x1,x2,x3,x4,x5] e fz)):((w.setCell ⟨b,3,none⟩ v0).setCell ⟨b,4,none⟩ v1).heap[b]?=some (.cells #[x0,x1,x2,v0,v1,x5] e fz):=row_set (row_set h)
theorem set6c {w:World} {b:Nat} {e:TypeId} {fz:Nat×Nat} {x0 x1 x2 x3 x4 x5 v0 v1:Value} (h:w.heap[b]?=some (.cells #[x0,x1,x2,x3,x4,x5] e fz)):((w.setCell ⟨b,5,none⟩ v0).setCell ⟨b,2,none⟩ v1).heap[b]?=some (.cells #[x0,x1,v1,x3,x4,v0] e fz):=row_set (row_set h)
theorem setO7 {w:World} {b:Nat} {e:TypeId} {fz:Nat×Nat} {x0 x1 x2 x3 x4 x5 x6 v:Value} (h:w.heap[b]?=some (.cells #[x0,x1,x2,x3,x4,x5,x6] e fz)):(w.setCell ⟨b,6,none⟩ v).heap[b]?=some (.cells #[x0,x1,x2,x3,x4,x5,v] e fz):=row_set h
theorem span48_nx (x y:Int) (w:World):CallsIn FW 0 Try.prog 48 #[num x,num y] w fun e w'=>e=.returned (spV (x,y))∧Nx w w' :=
 CallsIn.mono (span48_any x y w) fun e w' ⟨h1,h2⟩=>⟨h1,by rw [h2];exact alloc_nx (Nx.refl w) _⟩
theorem easier43_any (d:Dry) (r:R2) (u:Value) (picks:List Int) (w:World) (hd:DrySl w d r) (hO:d.Ok) (hu:Sl w u 1 (picks.map fun x=>[u16 x])) (hx:∀ x∈picks,0≤x∧x≤65535) (hl:picks.length≤140737488355328) :
  CallsIn FW 0 Try.prog 43 #[d.val r,u] w fun e w'=>∃ v,e=.returned ((easP d picks).val ⟨r.h,v⟩)∧Nx w w'∧Sl w' v 6 ((easP d picks).steps.map Stp.cells):=by
 have k84:=fun (k:Nat) (w1:World) (n:Nx w w1)=>pick84_big u picks k w1 (hu.nx n) hx hl
 have kpb:=pick_bd hx
 have HX:=Lib.hid hx
 have hs5:=hO.s5
 obtain⟨rh,rs⟩:=r
 obtain⟨ha,hcap,hrs⟩:=hd.heats.cases
 dsimp only at hrs
 subst hrs
 obtain⟨sa,scap,hrs⟩:=hd.steps.cases
 dsimp only at hrs
 subst hrs
 rw [List.length_map,List.length_map] at *
 obtain⟨ua,ucap,rfl⟩:=hu.cases
 rw [List.length_map] at *
 have HS:=Lib.hid hd.steps
 have HO:=Lib.hid hO
 clear hd hu hx hO
 have hlen:=Lib.hid (easP_len d picks)
 gi_enter Try.func43,Try.ntmps43
 gi_upto_region 1 with fail
 generalize hU:(w.alloc _).alloc _=U
 obtain⟨nU,sU,gA,gR⟩:=al2 hU
 clear hU
 have hbU:DBox U w.heap.size d ⟨.slice ha d.heats.length hcap,.slice sa d.steps.length scap⟩:=⟨by omega,fun i v h=>row_cell gA h⟩
 generalize hA:w.heap.size=A at *
 clear gA
 have c0:=hbU.at' 0 _ rfl
 have c1:=hbU.at' 1 _ rfl
 have c2:=hbU.at' 2 _ rfl
 have c3:=hbU.at' 3 _ rfl
 have c4:=hbU.at' 4 _ rfl
 have c5:=hbU.at' 5 _ rfl
 have c6:=hbU.at' 6 _ rfl
 have y1:=(al1 (w:=U) (o1:=.cells #[.slice none 0 0,num 0,num 0,num 0,num 0,num 0,.slice none 0 0] 27 (0,0)) rfl).2.2
 have r0:=row_cell (i:=0) y1 rfl
 have zr0:=row_frozen (i:=0) y1
 have r1:=row_cell (i:=1) y1 rfl
 have zr1:=row_frozen (i:=1) y1
 have r2:=row_cell (i:=2) y1 rfl
 have zr2:=row_frozen (i:=2) y1
 have r3:=row_cell (i:=3) y1 rfl
 have zr3:=row_frozen (i:=3) y1
 have r4:=row_cell (i:=4) y1 rfl
 have zr4:=row_frozen (i:=4) y1
 have r5:=row_cell (i:=5) y1 rfl
 have zr5:=row_frozen (i:=5) y1
 have r6:=row_cell (i:=6) y1 rfl
 have zr6:=row_frozen (i:=6) y1
 gi_upto_region 3 with fail
 generalize hW:U.alloc _=W
 obtain⟨nW,sW,gO⟩:=al1 hW
 clear hW y1 c0 c1 c2 c3 c4 c5 c6
 clear r0 zr0 r1 zr1 r2 zr2 r3 zr3 r4 zr4 r5 zr5 r6 zr6
 have hbW:=hbU.nx nW
 have gRW:=(nW.block _ (by omega)).trans gR
 have nWw:=nU.trans nW
 rw [show U.heap.size=A+2 by omega] at gO
 have sW3:A+3≤W.heap.size:=by omega
 clear nU nW sU sW gR hbU
 gi_wp2
 gi_loopw [6] (fun i wr=>∃ (k:Nat) (v:Value),k≤d.steps.length∧i=num k∧wr.heap[A+2]?=some (.cells #[.slice ha d.heats.length hcap,num d.soak,num d.brittle,num d.start.w,num d.start.c,num d.start.h,v] 27 (0,0))∧wr.heap[A+1]?=some (.cells #[.slice none 0 0,num 0,num 0,num 0,num 0,num 0,.slice none 0 0] 27 (0,0))∧wr.ownsRow (A+3) 59 6 v k ((((easP d picks).steps.take k).map Stp.cells).flatten)∧Nx w wr∧DBox wr A d ⟨.slice ha d.heats.length hcap,.slice sa d.steps.length scap⟩∧A+3≤wr.heap.size) (fun i _=>d.steps.length-(intOf i).toNat)
 case atStart=>exact⟨0,_,Nat.zero_le _,rfl,gO,gRW,World.ownsRow_nil ..,nWw,hbW,sW3⟩
 case round =>
  obtain⟨k,v,hk,rfl,gO,gR,hown,nr,hbr,sr⟩:=hrel
  have c6:=hbr.at' 6 _ rfl
  by_cases hlt:k<d.steps.length
  ·obtain⟨b,off,rfl,hbl,hcl⟩:=(HS.out).get (by simp;omega)
   have hh:d.steps[k]?=some d.steps[k]:=List.getElem?_eq_getElem hlt
   have hst:=HO.out.st _ (List.mem_of_getElem? hh)
   have hea:=easP_at (picks:=picks) hh
   have htk:Hid (((easP d picks).steps.take (k+1)).map Stp.cells=((easP d picks).steps.take k).map Stp.cells++[(easAt picks d.steps[k] k).cells]):=by
    show _=_
    rw [List.take_succ,hea,List.map_append];rfl
   have hrl:Hid ((((easP d picks).steps.take k).map Stp.cells).length=k):=by
    show _=_
    rw [List.length_map,List.length_take,hlen.out];omega
   have hao:=Lib.hid (easAt_ok HX.out hst k)
   clear hea
   generalize d.steps[k]=x at hh hst htk hao
   obtain⟨lo,hi,te,wlo,whi,col⟩:=x
   have e0:wr.cell? ⟨b,off+k * 6,none⟩=some (num lo):=Sl.at hcl nr hbl hh 0 (v:=num lo) rfl
   have e1:wr.cell? ⟨b,off+k * 6+1,none⟩=some (num hi):=Sl.at hcl nr hbl hh 1 (v:=num hi) rfl
   have e2:wr.cell? ⟨b,off+k * 6+2,none⟩=some (.bool te):=Sl.at hcl nr hbl hh 2 (v:=.bool te) rfl
   have e3:wr.cell? ⟨b,off+k * 6+3,none⟩=some (num wlo):=Sl.at hcl nr hbl hh 3 (v:=num wlo) rfl
   have e4:wr.cell? ⟨b,off+k * 6+4,none⟩=some (num whi):=Sl.at hcl nr hbl hh 4 (v:=num whi) rfl
   have e5:wr.cell? ⟨b,off+k * 6+5,none⟩=some (num col):=Sl.at hcl nr hbl hh 5 (v:=num col) rfl
   clear hcl hh
   dsimp only at hst
   unfold easAt easN at htk hao
   dsimp only at htk hao
   have p0:=kpb (3 * k)
   have p1:=kpb (3 * k+1)
   have p2:=kpb (3 * k+2)
   have k840:=k84 (3 * k)
   have k841:=k84 (3 * k+1)
   have k842:=k84 (3 * k+2)
   rw [show ((3 * k:Nat):Int)=3 * (k:Int) by omega] at k840
   rw [show ((3 * k+1:Nat):Int)=3 * (k:Int)+1 by omega] at k841
   rw [show ((3 * k+2:Nat):Int)=3 * (k:Int)+2 by omega] at k842
   generalize pick picks (3 * k)=q0 at *
   generalize pick picks (3 * k+1)=q1 at *
   generalize pick picks (3 * k+2)=q2 at *
   have hn1:=Int.emod_nonneg q0 (show hi-lo+1≠0 by omega)
   have hn2:=Int.emod_lt_of_pos q0 (show 0<hi-lo+1 by omega)
   generalize hnn:lo+q0 % (hi-lo+1)=nn at htk hao
   have hb1:lo≤nn∧nn≤hi:=by omega
   have hm1:=Int.emod_nonneg q1 (show hi-nn+1≠0 by omega)
   have hm2:=Int.emod_lt_of_pos q1 (show 0<hi-nn+1 by omega)
   generalize hmm:nn+q1 % (hi-nn+1)=mm at htk hao
   have hb2:nn≤mm∧mm≤hi:=by omega
   have k850:=fun w1=>one85_any (lo,hi) q0 w1 (by dsimp only;omega) p0
   have k851:=fun w1=>one85_any (nn,hi) q1 w1 (by dsimp only;omega) p1
   dsimp only at k850 k851
   rw [hnn] at k850
   rw [hmm] at k851
   clear hnn hmm hn1 hn2 hm1 hm2
   have y1:=(al1 (w:=wr) (o1:=.cells #[num 0,num 0,.bool false,num 0,num 0,num 0] 59 (0,0)) rfl).2.2
   have r0:=row_cell (i:=0) y1 rfl
   have zr0:=row_frozen (i:=0) y1
   have r1:=row_cell (i:=1) y1 rfl
   have zr1:=row_frozen (i:=1) y1
   have r2:=row_cell (i:=2) y1 rfl
   have zr2:=row_frozen (i:=2) y1
   have r3:=row_cell (i:=3) y1 rfl
   have zr3:=row_frozen (i:=3) y1
   have r4:=row_cell (i:=4) y1 rfl
   have zr4:=row_frozen (i:=4) y1
   have r5:=row_cell (i:=5) y1 rfl
   have zr5:=row_frozen (i:=5) y1
   gi_upto_region 7 with fail
   generalize hXX:wr.alloc _=X
   obtain⟨nX,sX,gX⟩:=al1 hXX
   clear hXX y1 e0 e1 e2 e3 e4 e5
   clear r0 zr0 r1 zr1 r2 zr2 r3 zr3 r4 zr4 r5 zr5
   have nwX:=nr.trans nX
   generalize hB0:wr.heap.size=B at *
   have hBX:B<X.heap.size:=by omega
   have x0:X.cell? ⟨B,0,none⟩=some (num lo):=row_cell gX rfl
   have x1:X.cell? ⟨B,1,none⟩=some (num hi):=row_cell gX rfl
   refine wpIn_region_Zn (Nx X) 6 (by kernel_rfl) ?_
   obtain⟨Z,G,hN,hG,hG'⟩:=class_par (C:=Nx X) (x:=X) (Nx.refl _)
   have r0:=fun z=>((hG' z).cell (p:=⟨B,0,none⟩) hBX).trans x0
   have r1:=fun z=>((hG' z).cell (p:=⟨B,1,none⟩) hBX).trans x1
   change Go.wpAnyZ _ _ _ _ _ _ _ _ 8 #[false,false,false,false,false,false,false,false] _ _
   obtain⟨n1,s1⟩:Nx X X.drew∧X.drew.heap.size=X.heap.size:=⟨Nx.drew (Nx.refl X),rfl⟩
   generalize X.drew=V at n1 s1 ⊢
   refine Go.zqE 0 hG (by kernel_rfl) (fun _ _ _ h=>by cases h.1) rfl ?_;intro o ho K hK;simp at ho;subst ho;gi_big_quiet_op;go_big_quiet_on
   refine Go.zqE 1 hG (by kernel_rfl) (fun _ _ _ h=>by cases h.1) rfl ?_;intro o ho K hK;simp at ho;subst ho;gi_big_quiet_op;go_big_quiet_on
   refine Go.zqE 2 hG (by kernel_rfl) (fun _ _ _ h=>by cases h.1) rfl ?_;intro o ho K hK;simp at ho;subst ho;gi_big_quiet_op;go_big_quiet_on
   refine Go.zqE 3 hG (by kernel_rfl) (fun _ _ _ h=>by cases h.1) rfl ?_;intro o ho K hK;simp at ho;subst ho;gi_big_quiet_op;go_big_quiet_on
   refine Go.zqE 4 hG (by kernel_rfl) (fun _ _ _ h=>by cases h.1) rfl ?_;intro o ho K hK;simp at ho;subst ho;gi_big_quiet_op;go_big_quiet_on
   clear r0 r1 hG hG' hN x0 x1
   have nV:=nwX.trans n1
   refine Go.zoE 5 (by kernel_rfl) rfl ?_ ?_;rotate_left;intro o ho K hK;simp at ho;subst ho
   gi_wp2_with (first | (gi_at_call 84;refine CallsIn.mono (k840 _ nV) ?_;rintro e w5 ⟨rfl,rfl⟩) | gi_in)
   refine Go.zoE 6 (by kernel_rfl) rfl ?_ ?_;rotate_left;intro o ho K hK;simp at ho;subst ho
   gi_wp2_with (first | (gi_at_call 85;refine CallsIn.mono (k850 _) ?_;rintro e w6 ⟨rfl,n6⟩) | gi_in)
   refine Go.zoE 7 (by kernel_rfl) rfl ?_ ?_;rotate_left;intro o ho K hK;simp at ho;subst ho
   gi_wp2_with fail
   refine wpAnyZ_done (by kernel_rfl) (fun h=>absurd h (by decide)) ⟨rfl,?_⟩
   ·have hb:=But.nx (bs:=[B]) (n1.trans n6)
    have hg:=((n1.trans n6).block B hBX).trans gX
    have nc:=nwX.trans (n1.trans n6)
    have f1:=row_cell (i:=1) hg rfl
    gi_upto_region 8 with fail
    gi_upto_region 9 with (first | (gi_at_call 48;refine CallsIn.mono (span48_nx _ _ _) ?_;rintro e w7 ⟨rfl,n7⟩;replace hg:=(n7.block B (lt_row hg)).trans hg;replace hb:=hb.trans (But.nx n7);replace nc:=nc.trans n7;have f0:=row_cell (i:=0) hg rfl;have f1:=row_cell (i:=1) hg rfl;have zf0:=row_frozen (i:=0) hg;have zf1:=row_frozen (i:=1) hg) | (gi_at_call 84;refine CallsIn.mono (k841 _ nc) ?_;rintro e w8 ⟨rfl,rfl⟩) | (gi_at_call 85;refine CallsIn.mono (k851 _) ?_;rintro e w9 ⟨rfl,n9⟩;replace hg:=(n9.block B (lt_row hg)).trans hg;replace hb:=hb.trans (But.nx n9);replace nc:=nc.trans n9) | gi_in)
    have hg9:=set6a (v0:=num nn) (v1:=num mm) hg
    replace hb:=But.trans hb (But.trans (But.set (b:=B) (i:=0) (v:=num nn) (by simp)) (But.set (b:=B) (i:=1) (v:=num mm) (by simp)))
    replace nc:=Nx.set (b:=B) (i:=1) (v:=num mm) (Nx.set (b:=B) (i:=0) (v:=num nn) nc (by omega)) (by omega)
    generalize (w7.setCell ⟨B,0,none⟩ (num nn)).setCell ⟨B,1,none⟩ (num mm)=Y at hg9 hb nc ⊢
    clear hg f0 f1 zf0 zf1 n7
    have hg:=hg9
    clear hg9
    gi_upto_region 10 with (first | (gi_at_call 84;refine CallsIn.mono (k842 _ nc) ?_;rintro e w8 ⟨rfl,rfl⟩) | gi_in)
    have f3:=row_cell (i:=3) hg rfl
    have f4:=row_cell (i:=4) hg rfl
    have hq50:0≤q2 % 50∧q2 % 50≤49:=by omega
    have hq70:0≤q2 % 70∧q2 % 70≤69:=by omega
    have hq20:0≤q2 % 20∧q2 % 20≤19:=by omega
    gi_upto_region 11 with (first | (gi_at_call 48;refine CallsIn.mono (span48_nx _ _ _) ?_;rintro e w10 ⟨rfl,n10⟩;replace hg:=(n10.block B (lt_row hg)).trans hg;replace hb:=hb.trans (But.nx n10);replace nc:=nc.trans n10;have f3:=row_cell (i:=3) hg rfl;have f4:=row_cell (i:=4) hg rfl;have zf3:=row_frozen (i:=3) hg;have zf4:=row_frozen (i:=4) hg) | gi_in)
    have hg10:=set6b (v0:=num (max 0 (wlo-q2 % 50))) (v1:=num (min 5000 (whi+q2 % 70))) hg
    replace hb:=But.trans hb (But.trans (But.set (b:=B) (i:=3) (v:=num (max 0 (wlo-q2 % 50))) (by simp)) (But.set (b:=B) (i:=4) (v:=num (min 5000 (whi+q2 % 70))) (by simp)))
    replace nc:=Nx.set (b:=B) (i:=4) (v:=num (min 5000 (whi+q2 % 70))) (Nx.set (b:=B) (i:=3) (v:=num (max 0 (wlo-q2 % 50))) nc (by omega)) (by omega)
    generalize (w10.setCell ⟨B,3,none⟩ (num (max 0 (wlo-q2 % 50)))).setCell ⟨B,4,none⟩ (num (min 5000 (whi+q2 % 70)))=Y2 at hg10 hb nc ⊢
    clear hg f3 f4 zf3 zf4 n10
    have hg:=hg10
    clear hg10
    have f5:=row_cell (i:=5) hg rfl
    have f2:=row_cell (i:=2) hg rfl
    have zf5:=row_frozen (i:=5) hg
    have zf2:=row_frozen (i:=2) hg
    cases te with
    | true =>
     have htb:(true || decide (q2 % 2=1))=true:=rfl
     rw [htb] at htk
     gi_upto_region 12 with fail
     have hg12:=set6c (v0:=num (max 0 (col-q2 % 20))) (v1:=.bool true) hg
     replace hb:=But.trans hb (But.trans (But.set (b:=B) (i:=5) (v:=num (max 0 (col-q2 % 20))) (by simp)) (But.set (b:=B) (i:=2) (v:=.bool true) (by simp)))
     replace nc:=Nx.set (b:=B) (i:=2) (v:=.bool true) (Nx.set (b:=B) (i:=5) (v:=num (max 0 (col-q2 % 20))) nc (by omega)) (by omega)
     generalize (Y2.setCell ⟨B,5,none⟩ (num (max 0 (col-q2 % 20)))).setCell ⟨B,2,none⟩ (.bool true)=Y3 at hg12 hb nc ⊢
     clear hg f5 f2 zf5 zf2
     have sX3:B+1≤Y3.heap.size:=by have:=hb.size;omega
     have keep3:∀ p,p<A+3→Y3.heap[p]?=wr.heap[p]?:=fun p hp=>(hb.block p (by omega) (by simp;omega)).trans (nX.block p (by omega))
     have hrow:∀ g,v.ownBlock=some g→A+3≤g∧g<B:=fun g hg=>by have:=hown.lt g hg;omega
     have hown3:=own_keep (own_nx hown nX) (fun g hg=>hb.block g (by have:=hrow g hg;omega) (by have:=hrow g hg;simp;omega))
     have gO3:=(keep3 (A+2) (by omega)).trans gO
     have c6o:=row_cell (i:=6) gO3 rfl
     have f0:=row_cell (i:=0) hg12 rfl
     have f1:=row_cell (i:=1) hg12 rfl
     have f2:=row_cell (i:=2) hg12 rfl
     have f3:=row_cell (i:=3) hg12 rfl
     have f4:=row_cell (i:=4) hg12 rfl
     have f5:=row_cell (i:=5) hg12 rfl
     clear c6 hq50 hq70 hq20
     gi_wp2_with (first | (gi_at_builtin;refine wpListIn_more T25 rfl _ _ rfl rfl (A+3) v k (((easP d picks).steps.take k).map Stp.cells) rfl (own_alloc hown3 _) hrl.out Y3.heap.size [num nn,num mm,.bool true,num (max 0 (wlo-q2 % 50)),num (min 5000 (whi+q2 % 70)),num (max 0 (col-q2 % 20))] rfl row_new rfl (by simp [Value.oneCell']) (by omega) (by omega) (by simp;omega) ?_;intro v7 w11 o11 g11 a11;obtain⟨s7,c7,hv7⟩:=own_slice o11;subst hv7;have keep:∀ p,p<A+3→w11.heap[p]?=wr.heap[p]?:=(fun p hp=>(g11.block p (by simp;omega) (fun e=>by have:=hrow p e.symm;omega)).trans ((row_old (by omega)).trans (keep3 p hp)));have gO11:=(keep (A+2) (by omega)).trans gO;have d6:=row_cell (i:=6) gO11 rfl;have zd6:=row_frozen (i:=6) gO11) | gi_in)
     have s11:Y3.heap.size≤w11.heap.size:=by have:=g11.size;simp at this;omega
     have e1:=htk.out
     rw [← show ((easP d picks).steps.take (k+1)).map Stp.cells=_ from e1] at o11
     have o12:=own_keep (w':=w11.setCell ⟨A+2,6,none⟩ (.slice s7 (k+1) c7)) o11 (fun g hg=>set_other (by have:=(o11.lt g hg).1;omega))
     have hAk:(w11.setCell ⟨A+2,6,none⟩ (.slice s7 (k+1) c7)).heap[A]?=wr.heap[A]?:=(set_other (by omega)).trans (keep A (by omega))
     refine⟨⟨k+1,.slice s7 (k+1) c7,hlt,by simp,setO7 gO11,(set_other (by omega)).trans ((keep (A+1) (by omega)).trans gR),o12,Nx.set (Below.grown (alloc_nx nc _) g11 (alloc_nx nc _).size (fun g hg=>by have:=hrow g hg;omega)) (by omega),⟨by rw [set_size];omega,fun i y hy=>(World.cell?_of_block (a:=⟨A,i,none⟩) hAk).trans (hbr.at' i y hy)⟩,by rw [set_size];omega⟩,by simp [intOf];omega⟩
    | false =>
     have htb:(false || decide (q2 % 2=1))=decide (q2 % 2=1):=rfl
     rw [htb] at htk
     gi_upto_region 12 with fail
     have hg12:=set6c (v0:=num (max 0 (col-q2 % 20))) (v1:=.bool (decide (q2 % 2=1))) hg
     replace hb:=But.trans hb (But.trans (But.set (b:=B) (i:=5) (v:=num (max 0 (col-q2 % 20))) (by simp)) (But.set (b:=B) (i:=2) (v:=.bool (decide (q2 % 2=1))) (by simp)))
     replace nc:=Nx.set (b:=B) (i:=2) (v:=.bool (decide (q2 % 2=1))) (Nx.set (b:=B) (i:=5) (v:=num (max 0 (col-q2 % 20))) nc (by omega)) (by omega)
     generalize (Y2.setCell ⟨B,5,none⟩ (num (max 0 (col-q2 % 20)))).setCell ⟨B,2,none⟩ (.bool (decide (q2 % 2=1)))=Y3 at hg12 hb nc ⊢
     clear hg f5 f2 zf5 zf2
     have sX3:B+1≤Y3.heap.size:=by have:=hb.size;omega
     have keep3:∀ p,p<A+3→Y3.heap[p]?=wr.heap[p]?:=fun p hp=>(hb.block p (by omega) (by simp;omega)).trans (nX.block p (by omega))
     have hrow:∀ g,v.ownBlock=some g→A+3≤g∧g<B:=fun g hg=>by have:=hown.lt g hg;omega
     have hown3:=own_keep (own_nx hown nX) (fun g hg=>hb.block g (by have:=hrow g hg;omega) (by have:=hrow g hg;simp;omega))
     have gO3:=(keep3 (A+2) (by omega)).trans gO
     have c6o:=row_cell (i:=6) gO3 rfl
     have f0:=row_cell (i:=0) hg12 rfl
     have f1:=row_cell (i:=1) hg12 rfl
     have f2:=row_cell (i:=2) hg12 rfl
     have f3:=row_cell (i:=3) hg12 rfl
     have f4:=row_cell (i:=4) hg12 rfl
     have f5:=row_cell (i:=5) hg12 rfl
     clear c6 hq50 hq70 hq20
     gi_wp2_with (first | (gi_at_builtin;refine wpListIn_more T25 rfl _ _ rfl rfl (A+3) v k (((easP d picks).steps.take k).map Stp.cells) rfl (own_alloc hown3 _) hrl.out Y3.heap.size [num nn,num mm,.bool (decide (q2 % 2=1)),num (max 0 (wlo-q2 % 50)),num (min 5000 (whi+q2 % 70)),num (max 0 (col-q2 % 20))] rfl row_new rfl (by simp [Value.oneCell']) (by omega) (by omega) (by simp;omega) ?_;intro v7 w11 o11 g11 a11;obtain⟨s7,c7,hv7⟩:=own_slice o11;subst hv7;have keep:∀ p,p<A+3→w11.heap[p]?=wr.heap[p]?:=(fun p hp=>(g11.block p (by simp;omega) (fun e=>by have:=hrow p e.symm;omega)).trans ((row_old (by omega)).trans (keep3 p hp)));have gO11:=(keep (A+2) (by omega)).trans gO;have d6:=row_cell (i:=6) gO11 rfl;have zd6:=row_frozen (i:=6) gO11) | gi_in)
     have s11:Y3.heap.size≤w11.heap.size:=by have:=g11.size;simp at this;omega
     have e1:=htk.out
     rw [← show ((easP d picks).steps.take (k+1)).map Stp.cells=_ from e1] at o11
     have o12:=own_keep (w':=w11.setCell ⟨A+2,6,none⟩ (.slice s7 (k+1) c7)) o11 (fun g hg=>set_other (by have:=(o11.lt g hg).1;omega))
     have hAk:(w11.setCell ⟨A+2,6,none⟩ (.slice s7 (k+1) c7)).heap[A]?=wr.heap[A]?:=(set_other (by omega)).trans (keep A (by omega))
     refine⟨⟨k+1,.slice s7 (k+1) c7,hlt,by simp,setO7 gO11,(set_other (by omega)).trans ((keep (A+1) (by omega)).trans gR),o12,Nx.set (Below.grown (alloc_nx nc _) g11 (alloc_nx nc _).size (fun g hg=>by have:=hrow g hg;omega)) (by omega),⟨by rw [set_size];omega,fun i y hy=>(World.cell?_of_block (a:=⟨A,i,none⟩) hAk).trans (hbr.at' i y hy)⟩,by rw [set_size];omega⟩,by simp [intOf];omega⟩
   all_goals (first | exact fun _=>n1 | exact fun _=>n1.trans n6 | exact fun h=>absurd h (by decide))
  ·obtain rfl:k=d.steps.length:=by omega
   have hfull:(easP d picks).steps.take d.steps.length=(easP d picks).steps:=List.take_of_length_le (by rw [hlen.out];exact Nat.le_refl _)
   rw [hfull] at hown
   obtain⟨s9,c9,hv9⟩:=own_slice hown
   subst hv9
   have hown:=Lib.hid hown
   have c0:=row_cell (i:=0) gO rfl
   have c1:=row_cell (i:=1) gO rfl
   have c2:=row_cell (i:=2) gO rfl
   have c3:=row_cell (i:=3) gO rfl
   have c4:=row_cell (i:=4) gO rfl
   have c5:=row_cell (i:=5) gO rfl
   have c6:=row_cell (i:=6) gO rfl
   have y0:=row_cell (i:=0) gR rfl
   have zy0:=row_frozen (i:=0) gR
   have y1:=row_cell (i:=1) gR rfl
   have zy1:=row_frozen (i:=1) gR
   have y2:=row_cell (i:=2) gR rfl
   have zy2:=row_frozen (i:=2) gR
   have y3:=row_cell (i:=3) gR rfl
   have zy3:=row_frozen (i:=3) gR
   have y4:=row_cell (i:=4) gR rfl
   have zy4:=row_frozen (i:=4) gR
   have y5:=row_cell (i:=5) gR rfl
   have zy5:=row_frozen (i:=5) gR
   have y6:=row_cell (i:=6) gR rfl
   have zy6:=row_frozen (i:=6) gR
   clear c6
   have c6:=hbr.at' 6 _ rfl
   have co6:=row_cell (i:=6) gO rfl
   gi_wp2
   have gF:=row_set (i:=6) (v:=.slice s9 d.steps.length c9) (row_set (i:=5) (v:=num d.start.h) (row_set (i:=4) (v:=num d.start.c) (row_set (i:=3) (v:=num d.start.w) (row_set (i:=2) (v:=num d.brittle) (row_set (i:=1) (v:=num d.soak) (row_set (i:=0) (v:=.slice ha d.heats.length hcap) gR))))))
   refine bodyPost_ret (res43 rfl gF) rfl ⟨_,rfl,?_,?_⟩
   ·repeat (refine Nx.set ?_ (by omega))
    exact nr
   ·refine own_sl (base:=A+3) (n:=d.steps.length) stps_row (by rw [List.length_map,hlen.out]) (own_keep hown.out fun g hg=>?_)
    have hgg:=(hown.out.lt g hg).1
    rw [set_other (by omega),set_other (by omega),set_other (by omega),set_other (by omega),set_other (by omega),set_other (by omega),set_other (by omega)]
end Go.Proofs.Ytedomogjmhommaa
namespace Go.Proofs.Ytedomogjmhommaa
open Go.RowKit Go.Con Go.Conc
def out11 (d:Dry):Bool:=greatD d || decide (dryF d≠0)
structure PlA (w:World) (d:Dry) (r:R2) (p1:Nat) (vp va:Value) (plan air:List Int):Prop where
 B:DBox w p1 d r
 S:DrySl w d r
 p:Sl w vp 1 (plan.map one)
 a:Sl w va 1 (air.map one)
theorem PlA.nx {w w' : World} {d:Dry} {r:R2} {p1:Nat} {vp va:Value} {plan air:List Int} (h:PlA w d r p1 vp va plan air) (n:Nx w w'):PlA w' d r p1 vp va plan air:=⟨h.B.nx n,h.S.nx n,h.p.nx n,h.a.nx n⟩
theorem PlA.oc {w w' : World} {d:Dry} {r:R2} {p1:Nat} {vp va:Value} {plan air:List Int} (h:PlA w d r p1 vp va plan air) (o:OldC w w'):PlA w' d r p1 vp va plan air:=⟨h.B.oc o,h.S.oc o,h.p.oc o,h.a.oc o⟩
theorem OldC.set {w w' : World} (h:OldC w w') {b i:Nat} {v:Value} (hb:w.heap.size≤b):OldC w (w'.setCell ⟨b,i,none⟩ v) :=
 ⟨by rw [set_size];exact h.size,fun a ha=>by
  rw [← h.cell a ha]
  exact World.cell?_of_block (set_other (by omega))⟩
end Go.Proofs.Ytedomogjmhommaa
