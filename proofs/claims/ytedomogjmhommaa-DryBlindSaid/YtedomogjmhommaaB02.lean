import Derived.Test.YtedomogjmhommaaB01
set_option linter.all false
set_option maxRecDepth 100000
set_option maxHeartbeats 8000000
namespace Go.Proofs.Ytedomogjmhommaa
open Go.RowKit Go.Shelf
theorem lessB_irrefl:∀ a:List Int,lessB a a=false
 | []=>rfl
 | x :: xs=>by rw [lessB,if_neg (by simp)];exact lessB_irrefl xs
theorem airs_sorted:∀ xs:List Stp,(airsL xs).Pairwise fun a b=>lessB b a=false
 | []=>by simp [airsL]
 | x :: xs=>by
  unfold airsL
  rw [List.pairwise_flatMap]
  refine⟨fun a _=>?_,?_⟩
  ·rw [List.pairwise_map]
   refine (airs_sorted xs).imp fun h=>?_
   rw [lessB,if_neg (by simp)]
   exact h
  ·unfold Stp.damps dampsL
   rw [List.pairwise_map]
   refine List.pairwise_lt_range.imp fun h=>?_
   intro p hp q hq
   obtain⟨p',_,rfl⟩:=List.mem_map.1 hp
   obtain⟨q',_,rfl⟩:=List.mem_map.1 hq
   rw [lessB,if_pos (by omega)]
   exact decide_eq_false (by omega)
theorem brk_cases (d:Dry) (l:List St):(brk d l=-1∧∀ j,j<l.length→brkAt d l j=false)∨∃ k,k<l.length∧brk d l=k∧brkAt d l k=true∧∀ j,j<k→brkAt d l j=false:=first_cases _ _
theorem spoils_law {d:Dry} (plan other:List Int) (hp:planF d plan=0) (ho:other∈airsL d.steps) :
  (spoilF d plan=([],0,false,0)∧brk d (followS d d.start plan other)=-1) ∨
  ∃ (a:List Int) (k:Nat),a∈airsL d.steps∧k<(followS d d.start plan a).length∧spoilF d plan=(a,(k:Int),true,0)∧brkAt d (followS d d.start plan a) k=true∧(∀ j,j<k→brkAt d (followS d d.start plan a) j=false)∧(brk d (followS d d.start plan other)=-1∨lessB other a=false):=by
 unfold spoilF
 rw [if_neg (by rw [hp];simp)]
 cases hf:(airsL d.steps).find? (fun a=>decide (0≤brk d (followS d d.start plan a))) with
 | none =>
  refine .inl ⟨rfl,?_⟩
  have:=List.find?_eq_none.1 hf other ho
  rw [decide_eq_true_eq] at this
  rcases brk_cases d (followS d d.start plan other) with ⟨h,_⟩ | ⟨k,_,h,_⟩
  ·exact h
  ·omega
 | some a =>
  obtain⟨hb,xs,ys,e,hn⟩:=List.find?_eq_some_iff_append.1 hf
  rw [decide_eq_true_eq] at hb
  have hm:a∈airsL d.steps:=by rw [e];simp
  rcases brk_cases d (followS d d.start plan a) with ⟨h,_⟩ | ⟨k,h1,h2,h3,h4⟩
  ·omega
  ·refine .inr ⟨a,k,hm,h1,?_,h3,h4,?_⟩
   ·show (a,brk d (followS d d.start plan a),true,0)=_
    rw [h2]
   ·rw [e] at ho
    rcases List.mem_append.1 ho with h | h
    ·left
     have:=hn _ h
     simp at this
     rcases brk_cases d (followS d d.start plan other) with ⟨h,_⟩ | ⟨k,_,h,_⟩
     ·exact h
     ·omega
    ·right
     rcases List.mem_cons.1 h with rfl | h
     ·exact lessB_irrefl _
     ·have hs:=airs_sorted d.steps
      rw [e,List.pairwise_append] at hs
      exact (List.pairwise_cons.1 hs.2.1).1 _ h
end Go.Proofs.Ytedomogjmhommaa
namespace Go.Proofs.Ytedomogjmhommaa
open Go.RowKit Go.Shelf
def GoodP (d:Dry):List Stp→List St→Int→List Int→Prop
 | [],_,_,p=>p=[]
 | x :: xs,l,was,h :: t=>mayB d.heats.length x was h=true∧keepL d x h.toNat l=true∧GoodP d xs (afterL d x h.toNat l) h t
 | _ :: _,_,_,[]=>False
theorem findB_cases (p:Nat→List Int×Bool) (n:Nat):(findB p n=([],false)∧∀ j,j<n→(p j).2=false)∨∃ k,k<n∧findB p n=p k∧(p k).2=true∧∀ j,j<k→(p j).2=false:=by
 unfold findB
 cases hf:(List.range n).find? (fun h=>(p h).2) with
 | none =>
  refine .inl ⟨rfl,fun j hj=>?_⟩
  have:=List.find?_eq_none.1 hf j (List.mem_range.2 hj)
  simpa using this
 | some k =>
  have h:=List.find?_range_eq_some.1 hf
  refine .inr ⟨k,List.mem_range.1 h.2.1,rfl,h.1,fun j hj=>?_⟩
  have:=h.2.2 j hj
  simpa using this
theorem blindS_good (d:Dry):∀ (xs:List Stp) (l:List St) (was:Int),(blindS d xs l was).2=true→GoodP d xs l was (blindS d xs l was).1
 | [],_,_,_=>rfl
 | x :: xs,l,was,h=>by
  unfold blindS at h ⊢
  rcases findB_cases (firstB d (blindS d xs) x l was) d.heats.length with ⟨e,_⟩ | ⟨k,hk,e,hp,_⟩
  ·rw [e] at h;cases h
  ·rw [e] at h ⊢
   unfold firstB at h ⊢
   by_cases hc:mayB d.heats.length x was k=true∧keepL d x k l=true
   ·rw [if_pos hc] at h ⊢
    exact⟨hc.1,by rw [Int.toNat_natCast];exact hc.2,by rw [Int.toNat_natCast];exact blindS_good d xs _ _ h⟩
   ·rw [if_neg hc] at h;cases h
theorem blindS_least (d:Dry):∀ (xs:List Stp) (l:List St) (was:Int) (p:List Int),GoodP d xs l was p→(blindS d xs l was).2=true∧lessB p (blindS d xs l was).1=false
 | [],_,_,p,h=>by
  have h:p=[]:=h
  subst h
  exact⟨rfl,rfl⟩
 | x :: xs,l,was,[],h=>h.elim
 | x :: xs,l,was,h :: t,hg=>by
  obtain⟨h1,h2,h3⟩:=hg
  have hb:=mayB_bd h1
  have ih:=blindS_least d xs _ _ t h3
  have hh:((h.toNat:Nat):Int)=h:=Int.toNat_of_nonneg hb.1
  have hf:firstB d (blindS d xs) x l was h.toNat=(((h.toNat:Nat):Int) :: (blindS d xs (afterL d x h.toNat l) h).1,(blindS d xs (afterL d x h.toNat l) h).2):=by
   unfold firstB
   rw [hh,if_pos ⟨h1,h2⟩]
  unfold blindS
  rcases findB_cases (firstB d (blindS d xs) x l was) d.heats.length with ⟨e,hn⟩ | ⟨k,hk,e,hp,hn⟩
  ·have:=hn h.toNat (by omega)
   rw [hf] at this
   rw [show _=true from ih.1] at this
   cases this
  ·rw [e]
   refine⟨hp,?_⟩
   rcases Nat.lt_trichotomy k h.toNat with hlt | heq | hgt
   ·have hk1:∃ t',(firstB d (blindS d xs) x l was k).1=(k:Int) :: t':=by
     unfold firstB at hp ⊢
     by_cases hc:mayB d.heats.length x was k=true∧keepL d x k l=true
     ·rw [if_pos hc];exact⟨_,rfl⟩
     ·rw [if_neg hc] at hp;cases hp
    obtain⟨t',ht'⟩:=hk1
    rw [ht',lessB,if_pos (by omega)]
    exact decide_eq_false (by omega)
   ·subst heq
    rw [hf,hh,lessB,if_neg (by simp)]
    exact ih.2
   ·have:=hn h.toNat hgt
    rw [hf] at this
    rw [show _=true from ih.1] at this
    cases this
def winS (d:Dry):List Stp→St→List Int→List Int→Bool
 | x :: xs,s,h :: t,a :: aa=>keepsB x (nextS d (heatAt d h.toNat) s h a) && winS d xs (nextS d (heatAt d h.toNat) s h a) t aa
 | _,_,_,_=>true
theorem airs_some:∀ xs:List Stp,(∀ x∈xs,x.lo≤x.hi)→∃ a,a∈airsL xs
 | [],_=>⟨[],by simp [airsL]⟩
 | x :: xs,h=>by
  obtain⟨a,ha⟩:=airs_some xs fun y hy=>h y (List.mem_cons_of_mem _ hy)
  exact⟨x.lo :: a,List.mem_flatMap.2 ⟨x.lo,damps_of ⟨Int.le_refl _,h x (List.mem_cons_self ..)⟩,List.mem_map.2 ⟨a,ha,rfl⟩⟩⟩
theorem airs_cons {x:Stp} {xs:List Stp} {a:Int} {aa:List Int}:a :: aa∈airsL (x :: xs)↔a∈x.damps∧aa∈airsL xs:=by
 constructor
 ·intro h
  obtain⟨y,hy,h⟩:=List.mem_flatMap.1 h
  obtain⟨t,ht,e⟩:=List.mem_map.1 h
  cases e
  exact⟨hy,ht⟩
 ·rintro ⟨h1,h2⟩
  exact List.mem_flatMap.2 ⟨a,h1,List.mem_map.2 ⟨aa,h2,rfl⟩⟩
theorem good_iff (d:Dry):∀ (xs:List Stp),(∀ x∈xs,x.lo≤x.hi)→∀ (l:List St) (was:Int) (p:List Int),
  GoodP d xs l was p↔p.length=xs.length∧planGo d xs was p=0∧∀ s∈l,∀ a∈airsL xs,winS d xs s p a=true
 | [],_,l,was,p=>by
  constructor
  ·intro h
   have h:p=[]:=h
   subst h
   refine⟨rfl,rfl,fun s _ a _=>?_⟩
   unfold winS
   rfl
  ·rintro ⟨h,_⟩
   exact List.eq_nil_of_length_eq_zero h
 | x :: xs,hx,l,was,[]=>⟨fun h=>h.elim,fun h=>by have:=h.1;simp at this⟩
 | x :: xs,hx,l,was,h :: t=>by
  have ih:=good_iff d xs (fun y hy=>hx y (List.mem_cons_of_mem _ hy)) (afterL d x h.toNat l) h t
  constructor
  ·rintro ⟨h1,h2,h3⟩
   obtain⟨i1,i2,i3⟩:=ih.1 h3
   have hb:=mayB_bd h1
   have hh:((h.toNat:Nat):Int)=h:=Int.toNat_of_nonneg hb.1
   refine⟨by simp [i1],?_,fun s hs a ha=>?_⟩
   ·show (if _ then _ else _)=_
    rw [if_neg (by rw [Decidable.not_not];exact hb),if_neg (by rw [h1];decide)]
    exact i2
   ·cases a with
    | nil=>rfl
    | cons a aa =>
     obtain⟨ha1,ha2⟩:=airs_cons.1 ha
     have hm:nextS d (heatAt d h.toNat) s h a∈afterL d x h.toNat l:=List.mem_flatMap.2 ⟨s,hs,List.mem_map.2 ⟨a,ha1,by rw [hh]⟩⟩
     show (_ && _)=true
     rw [Bool.and_eq_true]
     exact⟨List.all_eq_true.1 h2 _ hm,i3 _ hm aa ha2⟩
  ·rintro ⟨h1,h2,h3⟩
   have h2' : (if ¬ (0≤h∧h≤(d.heats.length:Int)-1) then 6 else if mayB d.heats.length x was h=false then 7 else planGo d xs h t)=0:=h2
   have hb:0≤h∧h≤(d.heats.length:Int)-1:=by
    by_cases hc:0≤h∧h≤(d.heats.length:Int)-1
    ·exact hc
    ·rw [if_pos hc] at h2';cases h2'
   rw [if_neg (by rw [Decidable.not_not];exact hb)] at h2'
   have hm:mayB d.heats.length x was h=true:=by
    cases hc:mayB d.heats.length x was h with
    | true=>rfl
    | false=>rw [if_pos hc] at h2';cases h2'
   rw [if_neg (by rw [hm];decide)] at h2'
   have hh:((h.toNat:Nat):Int)=h:=Int.toNat_of_nonneg hb.1
   have hall:∀ s'∈afterL d x h.toNat l,keepsB x s'=true∧∀ aa∈airsL xs,winS d xs s' t aa=true:=by
    intro s' hs'
    obtain⟨s,hs,h5⟩:=List.mem_flatMap.1 hs'
    obtain⟨a,ha,rfl⟩:=List.mem_map.1 h5
    rw [hh]
    have key:∀ aa∈airsL xs,keepsB x (nextS d (heatAt d h.toNat) s h a)=true∧winS d xs (nextS d (heatAt d h.toNat) s h a) t aa=true:=fun aa haa=>by
     have:=h3 s hs (a :: aa) (airs_cons.2 ⟨ha,haa⟩)
     have this:(_ && _)=true:=this
     rw [Bool.and_eq_true] at this
     exact this
    obtain⟨aa,haa⟩:=airs_some xs fun y hy=>hx y (List.mem_cons_of_mem _ hy)
    exact⟨(key aa haa).1,fun aa haa=>(key aa haa).2⟩
   exact⟨hm,List.all_eq_true.2 fun s' hs'=>(hall s' hs').1,ih.2 ⟨by simpa using h1,h2',fun s' hs' aa haa=>(hall s' hs').2 aa haa⟩⟩
theorem win_iff (d:Dry):∀ (xs:List Stp) (s:St) (p a:List Int),winS d xs s p a=true↔∀ (k:Nat) (x:Stp) (t:St),xs[k]?=some x→(followS d s p a)[k]?=some t→keepsB x t=true
 | [],s,p,a=>⟨fun _ k x t h=>by simp at h,fun _=>by unfold winS;rfl⟩
 | x :: xs,s,[],a=>⟨fun _ k y t _ h=>by cases a<;>simp [followS] at h,fun _=>rfl⟩
 | x :: xs,s,h :: p,[]=>⟨fun _ k y t _ h=>by simp [followS] at h,fun _=>rfl⟩
 | x :: xs,s,h :: p,a :: aa=>by
  have ih:=win_iff d xs (nextS d (heatAt d h.toNat) s h a) p aa
  show (_ && _)=true↔_
  rw [Bool.and_eq_true,ih]
  constructor
  ·rintro ⟨h1,h2⟩ k y t hy ht
   cases k with
   | zero =>
    simp [followS] at hy ht
    rw [← hy,← ht];exact h1
   | succ k=>exact h2 k y t (by simpa using hy) (by simpa [followS] using ht)
  ·intro hk
   exact⟨hk 0 x _ rfl rfl,fun k y t hy ht=>hk (k+1) y t (by simpa using hy) (by simpa [followS] using ht)⟩
theorem brk_win {d:Dry} {p a:List Int}:brk d (followS d d.start p a)=-1↔winS d d.steps d.start p a=true:=by
 rw [win_iff]
 rcases brk_cases d (followS d d.start p a) with ⟨h,hn⟩ | ⟨k,hk,h,hb,_⟩
 ·refine⟨fun _ k x t hx ht=>?_,fun _=>h⟩
  have:=hn k (List.getElem?_eq_some_iff.1 ht).1
  unfold brkAt at this
  rw [hx,ht] at this
  simpa using this
 ·refine⟨fun e=>by omega,fun hall=>?_⟩
  unfold brkAt at hb
  split at hb
  ·rename_i x t hx ht
   rw [hall k x t hx ht] at hb
   cases hb
  ·cases hb
theorem good_all {d:Dry} (hO:d.Ok) {p:List Int}:GoodP d d.steps [d.start] d.start.h p↔plF d p=0∧∀ a∈airsL d.steps,brk d (followS d d.start p a)=-1:=by
 rw [good_iff d d.steps (fun x hx=>(hO.st x hx).1.2.1)]
 constructor
 ·rintro ⟨h1,h2,h3⟩
  refine⟨?_,fun a ha=>brk_win.2 (h3 _ (List.mem_singleton.2 rfl) a ha)⟩
  unfold plF
  rw [if_neg (by simpa using h1)]
  exact h2
 ·rintro ⟨h1,h2⟩
  unfold plF at h1
  split at h1
  ·cases h1
  ·rename_i hl
   exact⟨by simpa using hl,h1,fun s hs a ha=>by rw [List.mem_singleton.1 hs];exact brk_win.1 (h2 a ha)⟩
theorem good_safe (d:Dry):∀ (xs:List Stp) (l:List St) (was:Int) (p:List Int),GoodP d xs l was p→∀ s∈l,s.h=was→0≤chooseS d xs s
 | [],_,_,_,_,_,_,_=>Int.le_refl _
 | x :: xs,l,was,[],h,_,_,_=>h.elim
 | x :: xs,l,was,h :: t,hg,s,hs,hw=>by
  obtain⟨h1,h2,h3⟩:=hg
  have hb:=mayB_bd h1
  have hh:((h.toNat:Nat):Int)=h:=Int.toNat_of_nonneg hb.1
  unfold chooseS
  rcases first_cases (goodS d (chooseS d xs) x s) d.heats.length with ⟨_,hn⟩ | ⟨k,_,e,_⟩
  ·have:=hn h.toNat (by omega)
   have hgood:goodS d (chooseS d xs) x s h.toNat=true:=by
    unfold goodS
    rw [Bool.and_eq_true,hh,hw]
    refine⟨h1,List.all_eq_true.2 fun a ha=>?_⟩
    have hm:nextS d (heatAt d h.toNat) s (h.toNat:Nat) a∈afterL d x h.toNat l:=List.mem_flatMap.2 ⟨s,hs,List.mem_map.2 ⟨a,ha,rfl⟩⟩
    unfold dampOk
    rw [Bool.and_eq_true]
    exact⟨List.all_eq_true.1 h2 _ hm,decide_eq_true (good_safe d xs _ _ t h3 _ hm hh)⟩
   rw [hgood] at this
   cases this
  ·rw [e];omega
theorem blind_law {d:Dry} (hO:d.Ok) (hF:dryF d=0) (other:List Int) (ho:planF d other=0) :
  (blindF d).2.2=0∧(spoilF d other).2.2.2=0∧(safeF d).2.2=0 ∧
  (((blindF d).2.1=false∧(blindF d).1=[]∧(spoilF d other).2.2.1=true∧0<d.steps.length) ∨
  ((blindF d).2.1=true∧(safeF d).2.1=true∧planF d (blindF d).1=0∧(∀ a∈airsL d.steps,brk d (followS d d.start (blindF d).1 a)=-1)∧spoilF d (blindF d).1=([],0,false,0)∧((spoilF d other).2.2.1=true∨lessB other (blindF d).1=false))):=by
 have hbf:blindF d=((blindS d d.steps [d.start] d.start.h).1,(blindS d d.steps [d.start] d.start.h).2,0):=by
  unfold blindF
  rw [if_neg (by simpa using hF)]
  split
  ·rename_i e;rw [e];rfl
  ·rfl
 have hpl:∀ p,planF d p=0↔plF d p=0:=fun p=>by unfold planF;rw [if_neg (by simpa using hF)]
 have hsp:∀ p,planF d p=0→(spoilF d p).2.2.2=0∧((spoilF d p).2.2.1=true∨spoilF d p=([],0,false,0)∧∀ a∈airsL d.steps,brk d (followS d d.start p a)=-1):=fun p hp=>by
  have hex:∃ a,a∈airsL d.steps:=airs_some _ fun x hx=>(hO.st x hx).1.2.1
  obtain⟨a0,ha0⟩:=hex
  rcases spoils_law p a0 hp ha0 with ⟨h,_⟩ | ⟨a,k,_,_,h,_⟩
  ·refine⟨by rw [h],.inr ⟨h,fun a ha=>?_⟩⟩
   rcases spoils_law p a hp ha with ⟨_,h2⟩ | ⟨a,k,_,_,h2,_⟩
   ·exact h2
   ·rw [h] at h2;cases h2
  ·exact⟨by rw [h],.inl (by rw [h])⟩
 have hsf:(safeF d).2.2=0:=by
  unfold safeF
  rw [if_neg (by simpa using hF)]
  split<;>rfl
 refine⟨by rw [hbf],(hsp other ho).1,hsf,?_⟩
 cases hb:(blindS d d.steps [d.start] d.start.h).2 with
 | false =>
  have hne:0<d.steps.length:=by
   cases hs:d.steps with
   | nil=>rw [hs] at hb;cases hb
   | cons x xs=>simp
  refine .inl ⟨by rw [hbf];exact hb,?_,?_,hne⟩
  ·rw [hbf]
   cases hs:d.steps with
   | nil=>rfl
   | cons x xs =>
    rw [hs] at hb
    unfold blindS at hb ⊢
    rcases findB_cases (firstB d (blindS d xs) x [d.start] d.start.h) d.heats.length with ⟨e,_⟩ | ⟨k,_,e,hp,_⟩
    ·rw [e]
    ·rw [e,hp] at hb;cases hb
  ·rcases (hsp other ho).2 with h | ⟨_,h⟩
   ·exact h
   ·have:=(blindS_least d _ _ _ _ ((good_all hO).2 ⟨(hpl other).1 ho,h⟩)).1
    rw [hb] at this
    cases this
 | true =>
  have hg:=blindS_good d _ _ _ hb
  have hga:=(good_all hO).1 hg
  have hplan:planF d (blindF d).1=0:=by rw [hbf];exact (hpl _).2 hga.1
  refine .inr ⟨by rw [hbf];exact hb,?_,hplan,by rw [hbf];exact hga.2,?_,?_⟩
  ·have:=good_safe d _ _ _ _ hg d.start (List.mem_singleton.2 rfl) rfl
   unfold safeF
   rw [if_neg (by simpa using hF),if_neg (by omega)]
  ·rcases (hsp _ hplan).2 with h | ⟨h,_⟩
   ·exfalso
    obtain⟨a0,ha0⟩:=airs_some d.steps fun x hx=>(hO.st x hx).1.2.1
    rcases spoils_law _ a0 hplan ha0 with ⟨h2,_⟩ | ⟨a,k,ha,hk,h2,hk1,_⟩
    ·rw [h2] at h;cases h
    ·have:=hga.2 a ha
     rw [hbf] at hk1
     rcases brk_cases d (followS d d.start (blindS d d.steps [d.start] d.start.h).1 a) with ⟨_,hn⟩ | ⟨j,_,e,_⟩
     ·rw [hn k (by rw [hbf] at hk;exact hk)] at hk1;cases hk1
     ·omega
   ·exact h
  ·rcases (hsp other ho).2 with h | ⟨_,h⟩
   ·exact .inl h
   ·right
    rw [hbf]
    exact (blindS_least d _ _ _ _ ((good_all hO).2 ⟨(hpl other).1 ho,h⟩)).2
end Go.Proofs.Ytedomogjmhommaa
namespace Go.Proofs.Ytedomogjmhommaa
open Go.RowKit Go.Shelf
theorem one85_any (x:Int×Int) (b:Int) (w:World) (hx:0≤x.1∧x.1≤x.2∧x.2≤5000) (hb:0≤b∧b≤65535):CallsIn FW 0 Try.prog 85 #[spV x,num b] w fun e w'=>e=.returned (num (x.1+b % (x.2-x.1+1)))∧Nx w w':=by
 obtain⟨lo,hi⟩:=x
 dsimp only at hx ⊢
 have hne:¬ (hi-lo+1=0):=by omega
 have hne2:(hi-lo+1=0)=False:=by simp;omega
 have he:b.tmod (hi-lo+1)=b % (hi-lo+1):=Int.tmod_eq_emod_of_nonneg hb.1
 have h2:=Int.emod_nonneg b (show hi-lo+1≠0 by omega)
 have h3:=Int.emod_lt_of_pos b (show 0<hi-lo+1 by omega)
 gi_enter Try.func85,Try.ntmps85
 gi_upto_region 1 with fail
 generalize hW:w.alloc _=W
 obtain⟨nW,sW,gW⟩:=al1 hW
 clear hW
 have c0:W.cell? ⟨w.heap.size,0,none⟩=some (num lo):=row_cell gW rfl
 have c1:W.cell? ⟨w.heap.size,1,none⟩=some (num hi):=row_cell gW rfl
 generalize w.heap.size=A at *
 gi_big_quiet_th (fail)
 gi_wp2
 go_ret
 exact⟨rfl,nW.drewN _⟩
theorem pick_bd {xs:List Int} (hx:∀ x∈xs,0≤x∧x≤65535) (k:Nat):0≤pick xs k∧pick xs k≤65535:=by
 unfold pick
 by_cases h:k<xs.length
 ·have:xs[k]?=some xs[k]:=List.getElem?_eq_getElem h
  simp only [List.getD,this,Option.getD_some]
  exact hx _ (List.getElem_mem _)
 ·simp [List.getD,List.getElem?_eq_none (Nat.le_of_not_lt h)]
theorem pick84_big (u:Value) (xs:List Int) (k:Nat) (w:World) (hu:Sl w u 1 (xs.map fun x=>[u16 x])) (hx:∀ x∈xs,0≤x∧x≤65535) (hl:xs.length≤140737488355328):CallsIn FW 0 Try.prog 84 #[u,num k] w fun e w'=>e=.returned (num (pick xs k))∧w'=w:=by
 obtain⟨a,cap,rfl⟩:=hu.cases
 rw [List.length_map] at *
 by_cases hlt:k<xs.length
 ·obtain⟨b,off,rfl,hbl,hcl⟩:=hu.get (by simp;omega)
  have hh:xs[k]?=some xs[k]:=List.getElem?_eq_getElem hlt
  have hp:pick xs k=xs[k]:=by unfold pick;simp [List.getD,hh]
  rw [hp]
  have hb:=hx xs[k] (List.getElem_mem _)
  generalize xs[k]=x at hh hb
  have e0:w.cell? ⟨b,off+k,none⟩=some (u16 x):=by
   have:=hcl k 0 [u16 x] (u16 x) (by simp [hh]) rfl
   simpa using this
  clear hcl hh hp hx hu
  gi_enter Try.func84,Try.ntmps84
  gi_wp2
  go_ret
  refine⟨?_,rfl⟩
  rfl
 ·have hp:pick xs k=0:=by unfold pick;simp [List.getD,List.getElem?_eq_none (Nat.le_of_not_lt hlt)]
  rw [hp]
  gi_enter Try.func84,Try.ntmps84
  gi_wp2
  go_ret
  exact⟨rfl,rfl⟩
theorem ones_row {xs:List Int}:∀ y∈xs.map one,y.length=1:=ones1 xs
theorem air41_any (d:Dry) (r:R2) (u:Value) (picks:List Int) (w:World) (hd:DrySl w d r) (hO:d.Ok) (hu:Sl w u 1 (picks.map fun x=>[u16 x])) (hx:∀ x∈picks,0≤x∧x≤65535) (hl:picks.length≤140737488355328) :
  CallsIn FW 0 Try.prog 41 #[d.val r,u] w fun e w'=>∃ v,e=.returned v∧Nx w w'∧Sl w' v 1 ((airP d picks).map one):=by
 have k84:=fun (k:Nat) (w1:World) (n:Nx w w1)=>pick84_big u picks k w1 (hu.nx n) hx hl
 have kpb:=pick_bd hx
 have hs5:=hO.s5
 obtain⟨rh,rs⟩:=r
 obtain⟨ha,hcap,hrs⟩:=hd.heats.cases
 dsimp only at hrs
 subst hrs
 obtain⟨sa,scap,hrs⟩:=hd.steps.cases
 dsimp only at hrs
 subst hrs
 rw [List.length_map,List.length_map] at *
 obtain⟨ua,ucap,rfl⟩:=hu.cases
 rw [List.length_map] at *
 have HS:=Lib.hid hd.steps
 have HO:=Lib.hid hO
 clear hd hu hx hO
 have hlen:=Lib.hid (airP_len d picks)
 gi_enter Try.func41,Try.ntmps41
 gi_upto_region 1 with fail
 generalize hU:w.alloc _=U
 obtain⟨nU,hbU⟩:=DBox.of (d:=d) (r:=⟨_,_⟩) hU
 clear hU
 have hAU:w.heap.size+1≤U.heap.size:=by have:=hbU.lt;omega
 generalize hA:w.heap.size=A at *
 gi_wp2
 gi_loopw [5,6] (fun v i wr=>∃ k:Nat,k≤d.steps.length∧i=num k∧wr.ownsRow (A+1) 3 1 v k (((airP d picks).take k).map one).flatten∧Nx w wr∧A+1≤wr.heap.size∧DBox wr A d ⟨_,_⟩) (fun _ i _=>d.steps.length-(intOf i).toNat)
 case atStart=>exact⟨0,Nat.zero_le _,rfl,World.ownsRow_nil ..,nU,hAU,hbU⟩
 case round =>
  obtain⟨k,hk,rfl,hown,nr,hAl,hbr⟩:=hrel
  have c6:=hbr.at' 6 _ rfl
  by_cases hlt:k<d.steps.length
  ·obtain⟨b,off,rfl,hbl,hcl⟩:=(HS.out).get (by simp;omega)
   have hh:d.steps[k]?=some d.steps[k]:=List.getElem?_eq_getElem hlt
   have hst:=(HO.out.st _ (List.mem_of_getElem? hh)).1
   have htk:Hid (((airP d picks).take (k+1)).map one=((airP d picks).take k).map one++[one (d.steps[k].lo+pick picks k % (d.steps[k].hi-d.steps[k].lo+1))]):=by
    show _=_
    rw [List.take_succ,airP_at hlt,airAt_eq hh,List.map_append];rfl
   have hrl:Hid ((((airP d picks).take k).map one).length=k):=by
    show _=_
    rw [List.length_map,List.length_take,hlen.out];omega
   generalize d.steps[k]=x at hh hst htk
   have e0:wr.cell? ⟨b,off+k * 6,none⟩=some (num x.lo):=Sl.at hcl nr hbl hh 0 (v:=num x.lo) rfl
   have e1:wr.cell? ⟨b,off+k * 6+1,none⟩=some (num x.hi):=Sl.at hcl nr hbl hh 1 (v:=num x.hi) rfl
   have hbw:b<wr.heap.size:=Nat.lt_of_lt_of_le hbl nr.size
   have hbA:A<wr.heap.size:=by omega
   have kp:=kpb k
   have k84:=k84 k
   generalize pick picks k=p at kp k84 htk
   have k85:=fun w1=>one85_any (x.lo,x.hi) p w1 (by dsimp only;omega) kp
   dsimp only at k85
   clear hcl hh
   gi_upto_region 5 with fail
   refine wpIn_region_Zn (Nx wr) 12 (by kernel_rfl) ?_
   obtain⟨Z,G,hN,hG,hG'⟩:=class_par (C:=Nx wr) (x:=wr) (Nx.refl _)
   have r6:=fun z=>((hG' z).cell (p:=⟨A,6,none⟩) hbA).trans c6
   have r0:=fun z=>((hG' z).cell (p:=⟨b,off+k * 6,none⟩) hbw).trans e0
   have r1:=fun z=>((hG' z).cell (p:=⟨b,off+k * 6+1,none⟩) hbw).trans e1
   change Go.wpAnyZ _ _ _ _ _ _ _ _ 14 #[false,false,false,false,false,false,false,false,false,false,false,false,false,false] _ _
   obtain⟨n1,s1⟩:Nx wr wr.drew∧wr.drew.heap.size=wr.heap.size:=⟨Nx.drew (Nx.refl wr),rfl⟩
   generalize wr.drew=V at n1 s1 ⊢
   refine Go.zqE 0 hG (by kernel_rfl) (fun _ _ _ h=>by cases h.1) rfl ?_;intro o ho K hK;simp at ho;subst ho;gi_big_quiet_op;go_big_quiet_on
   refine Go.zqE 1 hG (by kernel_rfl) (fun _ _ _ h=>by cases h.1) rfl ?_;intro o ho K hK;simp at ho;subst ho;gi_big_quiet_op;go_big_quiet_on
   refine Go.zqE 2 hG (by kernel_rfl) (fun _ _ _ h=>by cases h.1) rfl ?_;intro o ho K hK;simp at ho;subst ho;gi_big_quiet_op;go_big_quiet_on
   refine Go.zqE 3 hG (by kernel_rfl) (fun _ _ _ h=>by cases h.1) rfl ?_;intro o ho K hK;simp at ho;subst ho;gi_big_quiet_op;go_big_quiet_on
   refine Go.zqE 4 hG (by kernel_rfl) (fun _ _ _ h=>by cases h.1) rfl ?_;intro o ho K hK;simp at ho;subst ho;gi_big_quiet_op;go_big_quiet_on
   refine Go.zqE 5 hG (by kernel_rfl) (fun _ _ _ h=>by cases h.1) rfl ?_;intro o ho K hK;simp at ho;subst ho;gi_big_quiet_op;go_big_quiet_on
   refine Go.zqE 6 hG (by kernel_rfl) (fun _ _ _ h=>by cases h.1) rfl ?_;intro o ho K hK;simp at ho;subst ho;gi_big_quiet_op;go_big_quiet_on
   refine Go.zqE 7 hG (by kernel_rfl) (fun _ _ _ h=>by cases h.1) rfl ?_;intro o ho K hK;simp at ho;subst ho;gi_big_quiet_op;go_big_quiet_on
   refine Go.zqE 8 hG (by kernel_rfl) (fun _ _ _ h=>by cases h.1) rfl ?_;intro o ho K hK;simp at ho;subst ho;gi_big_quiet_op;go_big_quiet_on
   have nV:=nr.trans n1
   clear r6 r0 r1 hG hG' hN c6 e0 e1
   refine Go.zoE 9 (by kernel_rfl) rfl ?_ ?_;rotate_left;intro o ho K hK;simp at ho;subst ho
   gi_wp2_with (first | (gi_at_call 84;refine CallsIn.mono (k84 V nV) ?_;rintro e w5 ⟨rfl,rfl⟩) | gi_in)
   refine Go.zoE 10 (by kernel_rfl) rfl ?_ ?_;rotate_left;intro o ho K hK;simp at ho;subst ho
   gi_wp2_with (first | (gi_at_call 85;refine CallsIn.mono (k85 _) ?_;rintro e w6 ⟨rfl,n6⟩) | gi_in)
   refine Go.zoE 11 (by kernel_rfl) rfl ?_ ?_;rotate_left;intro o ho K hK;simp at ho;subst ho
   gi_wp2_with fail
   generalize hY:w6.alloc _=Y
   obtain⟨nY,sY,gY⟩:=al1 hY
   clear hY
   refine Go.zoE 12 (by kernel_rfl) rfl ?_ ?_;rotate_left;intro o ho K hK;simp at ho;subst ho
   have nWY:=n1.trans (n6.trans nY)
   have hown2:Y.ownsRow (A+1) 3 1 u5 (((airP d picks).take k).map one).length (((airP d picks).take k).map one).flatten:=by rw [hrl.out];exact own_nx hown nWY
   have hsz:A+1≤Y.heap.size:=by have:=nWY.size;omega
   obtain⟨v7,w7,q7,o7,g7,a7⟩:=run_more2 T38 (A+1) Y _ _ hown2 w6.heap.size (one (x.lo+p % (x.hi-x.lo+1))) rfl gY (by simp [Value.oneCell']) (by rw [hrl.out];omega) (by rw [hrl.out];omega) hsz
   refine wpIn_of_value rfl rfl (app_run _ rfl rfl q7) (hK _ _ ?_)
   simp only [Go.Act.put,List.setIfInBounds_toArray,List.set_cons_succ,List.set_cons_zero]
   refine Go.zoE 13 (by kernel_rfl) rfl ?_ ?_;rotate_left;intro o ho K hK;simp at ho;subst ho
   gi_wp2_with fail
   refine wpAnyZ_done (by kernel_rfl) (fun h=>absurd h (by decide)) ⟨rfl,?_⟩
   ·have hrow:∀ g,u5.ownBlock=some g→A+1≤g:=fun g hg=>(hown.lt g hg).1
    have n7:Nx w w7:=Below.grown (nr.trans nWY) g7 (nr.trans nWY).size (fun g hg=>by have:=hrow g hg;omega)
    have b7:w7.heap[A]?=wr.heap[A]?:=(g7.block A (by omega) (fun e=>by have:=hrow A e.symm;omega)).trans (nWY.block A hbA)
    have s7:A+1≤w7.heap.size:=by have:=g7.size;omega
    have hb7:DBox w7 A d ⟨_,_⟩:=⟨by omega,fun i v hv=>(World.cell?_of_block (a:=⟨A,i,none⟩) b7).trans (hbr.at' i v hv)⟩
    rw [← htk.out] at o7
    have o8:w7.ownsRow (A+1) 3 1 v7 (k+1) (((airP d picks).take (k+1)).map one).flatten:=by
     have:(((airP d picks).take (k+1)).map one).length=k+1:=by rw [htk.out,List.length_append,hrl.out];rfl
     rw [this] at o7
     exact o7
    gi_wp2
    exact⟨⟨k+1,hlt,by simp,o8,n7,s7,hb7⟩,by simp [intOf];omega⟩
   all_goals (first | exact fun _=>n1 | exact fun _=>n1.trans n6 | exact fun _=>n1.trans (n6.trans nY) | exact fun h=>absurd h (by decide))
  ·obtain rfl:k=d.steps.length:=by omega
   have hfull:(airP d picks).take d.steps.length=airP d picks:=List.take_of_length_le (by rw [hlen.out];exact Nat.le_refl _)
   rw [hfull] at hown
   have hown:=Lib.hid hown
   gi_wp2
   go_ret
   exact⟨_,rfl,nr,own_sl ones_row (by rw [List.length_map,hlen.out]) hown.out⟩
theorem plan38_any (d:Dry) (r:R2) (u:Value) (picks:List Int) (w:World) (hd:DrySl w d r) (hO:d.Ok) (hu:Sl w u 1 (picks.map fun x=>[u16 x])) (hx:∀ x∈picks,0≤x∧x≤65535) (hl:picks.length≤140737488355328) :
  CallsIn FW 0 Try.prog 38 #[d.val r,u] w fun e w'=>∃ v,e=.returned v∧Nx w w'∧Sl w' v 1 ((planP d picks).map one):=by
 have k35:=fun (k:Nat) (x:Stp) (hx:d.steps[k]?=some x) (was heat:Int) (hw : -1000000000≤was∧was≤1000000000) (w1:World) (n:Nx w w1)=>may35_any d r k x was heat w1 (hd.nx n) hx hw
 have k84:=fun (k:Nat) (w1:World) (n:Nx w w1)=>pick84_big u picks k w1 (hu.nx n) hx hl
 have kpb:=pick_bd hx
 have hs5:=hO.s5
 obtain⟨rh,rs⟩:=r
 obtain⟨ha,hcap,hrs⟩:=hd.heats.cases
 dsimp only at hrs
 subst hrs
 obtain⟨sa,scap,hrs⟩:=hd.steps.cases
 dsimp only at hrs
 subst hrs
 rw [List.length_map,List.length_map] at *
 obtain⟨ua,ucap,rfl⟩:=hu.cases
 rw [List.length_map] at *
 have HS:=Lib.hid hd.steps
 have HO:=Lib.hid hO
 have hh4:=hO.h4
 clear hd hu hx hO
 have hlen:=Lib.hid (planP_len d picks)
 gi_enter Try.func38,Try.ntmps38
 gi_upto_region 1 with fail
 generalize hU:w.alloc _=U
 obtain⟨nU,hbU⟩:=DBox.of (d:=d) (r:=⟨_,_⟩) hU
 clear hU
 have hAU:w.heap.size+1≤U.heap.size:=by have:=hbU.lt;omega
 generalize hA:w.heap.size=A at *
 have b5:=hbU.at' 5 _ rfl
 gi_wp2
 clear b5
 gi_loopw [5,6,7] (fun v h i wr=>∃ k:Nat,k≤d.steps.length∧i=num k∧h=num (heatP d picks k)∧wr.ownsRow (A+1) 3 1 v k (((planP d picks).take k).map one).flatten∧Nx w wr∧A+1≤wr.heap.size∧DBox wr A d ⟨_,_⟩) (fun _ _ i _=>d.steps.length-(intOf i).toNat)
 case atStart=>exact⟨0,Nat.zero_le _,rfl,rfl,World.ownsRow_nil ..,nU,hAU,hbU⟩
 case round =>
  obtain⟨k,hk,rfl,rfl,hown,nr,hAl,hbr⟩:=hrel
  have c6:=hbr.at' 6 _ rfl
  have hbd:=heatP_bd HO.out picks k
  by_cases hlt:k<d.steps.length
  ·have hh:d.steps[k]?=some d.steps[k]:=List.getElem?_eq_getElem hlt
   have htk:Hid (((planP d picks).take (k+1)).map one=((planP d picks).take k).map one++[one (heatP d picks (k+1))]):=by
    show _=_
    rw [List.take_succ,planP_at hlt,List.map_append];rfl
   have hrl:Hid ((((planP d picks).take k).map one).length=k):=by
    show _=_
    rw [List.length_map,List.length_take,hlen.out];omega
   have hbd2:=heatP_bd HO.out picks (k+1)
   have hsu:heatP d picks (k+1)=stepP d.heats.length picks d.steps[k] k (heatP d picks k):=heatP_succ hh
   unfold stepP at hsu
   have kp:=kpb (10+k)
   have k84:=k84 (10+k)
   rw [show ((10+k:Nat):Int)=10+(k:Int) by omega] at k84
   have hq:(pick picks (10+k)).tmod 3=pick picks (10+k) % 3:=Int.tmod_eq_emod_of_nonneg kp.1
   have hq1:0≤pick picks (10+k) % 3∧pick picks (10+k) % 3≤2:=by omega
   have k35:=k35 k _ hh (heatP d picks k) (heatP d picks k+pick picks (10+k) % 3-1) (by omega)
   clear hq
   generalize pick picks (10+k)=p at *
   generalize heatP d picks k=h at *
   have HSU:=Lib.hid hsu
   clear hsu
   generalize hgen:heatP d picks (k+1)=h' at *
   obtain⟨b,hb⟩:∃ b,mayB d.heats.length d.steps[k] h (h+p % 3-1)=b:=⟨_,rfl⟩
   have HSU2:Hid (h'=if b=true then h+p % 3-1 else h):=by show _=_;rw [HSU.out,hb]
   simp only [hb] at k35
   clear hb HSU hh
   have kb:=fun (w1:World) (n:Nx wr w1)=>hbr.nx n
   have c0:=hbr.at' 0 _ rfl
   have c1:=hbr.at' 1 _ rfl
   have c2:=hbr.at' 2 _ rfl
   have c3:=hbr.at' 3 _ rfl
   have c4:=hbr.at' 4 _ rfl
   have c5:=hbr.at' 5 _ rfl
   have hbA:A<wr.heap.size:=by omega
   cases b with
   | true =>
    have hv:h'=h+p % 3-1:=by rw [HSU2.out];rfl
    rw [hv] at htk hbd2
    gi_upto_region 9 with (first | (gi_at_call 84;refine CallsIn.mono (k84 wr nr) ?_;rintro e w5 ⟨rfl,rfl⟩) | (gi_at_call 35;refine CallsIn.mono (k35 _ nr) ?_;rintro e w6 ⟨rfl,n6⟩) | gi_in)
    have nW6:=nr.trans n6
    gi_wp2_with (first | (gi_at_builtin;refine wpListIn_more T38 rfl _ _ rfl rfl (A+1) _ k (((planP d picks).take k).map one) rfl (own_alloc (own_nx hown n6) _) hrl.out w6.heap.size (one _) rfl row_new rfl (by simp [Value.oneCell']) (by omega) (by omega) (by have:=n6.size;simp;omega) ?_;intro v7 w7 o7 g7 a7) | gi_in)
    have nWY:=n6.trans (alloc_nx (Nx.refl w6) (.cells #[num (h+p % 3-1)] 3 (0,0)))
    have hrow:∀ g,u5.ownBlock=some g→A+1≤g:=fun g hg=>(hown.lt g hg).1
    have n7:Nx w w7:=Below.grown (nr.trans nWY) g7 (nr.trans nWY).size (fun g hg=>by have:=hrow g hg;omega)
    have b7:w7.heap[A]?=_:=(g7.block A (show A<(w6.alloc (.cells #[num (h+p % 3-1)] 3 (0,0))).heap.size from by have:=nWY.size;omega) (fun e=>by have:=hrow A e.symm;omega)).trans (nWY.block A hbA)
    have s7:A+1≤w7.heap.size:=by have gs:(w6.alloc (.cells #[num (h+p % 3-1)] 3 (0,0))).heap.size≤w7.heap.size:=g7.size;have:=nWY.size;omega
    have hb7:DBox w7 A d ⟨_,_⟩:=⟨by omega,fun i v hv=>(World.cell?_of_block (a:=⟨A,i,none⟩) b7).trans (hbr.at' i v hv)⟩
    rw [← htk.out] at o7
    exact⟨⟨k+1,hlt,by simp,by rw [hgen,hv],o7,n7,s7,hb7⟩,by simp [intOf];omega⟩
   | false =>
    have hv:h'=h:=by rw [HSU2.out];rfl
    rw [hv] at htk hbd2
    gi_upto_region 9 with (first | (gi_at_call 84;refine CallsIn.mono (k84 wr nr) ?_;rintro e w5 ⟨rfl,rfl⟩) | (gi_at_call 35;refine CallsIn.mono (k35 _ nr) ?_;rintro e w6 ⟨rfl,n6⟩) | gi_in)
    have nW6:=nr.trans n6
    gi_wp2_with (first | (gi_at_builtin;refine wpListIn_more T38 rfl _ _ rfl rfl (A+1) _ k (((planP d picks).take k).map one) rfl (own_alloc (own_nx hown n6) _) hrl.out w6.heap.size (one _) rfl row_new rfl (by simp [Value.oneCell']) (by omega) (by omega) (by have:=n6.size;simp;omega) ?_;intro v7 w7 o7 g7 a7) | gi_in)
    have nWY:=n6.trans (alloc_nx (Nx.refl w6) (.cells #[num (h)] 3 (0,0)))
    have hrow:∀ g,u5.ownBlock=some g→A+1≤g:=fun g hg=>(hown.lt g hg).1
    have n7:Nx w w7:=Below.grown (nr.trans nWY) g7 (nr.trans nWY).size (fun g hg=>by have:=hrow g hg;omega)
    have b7:w7.heap[A]?=_:=(g7.block A (show A<(w6.alloc (.cells #[num (h)] 3 (0,0))).heap.size from by have:=nWY.size;omega) (fun e=>by have:=hrow A e.symm;omega)).trans (nWY.block A hbA)
    have s7:A+1≤w7.heap.size:=by have gs:(w6.alloc (.cells #[num (h)] 3 (0,0))).heap.size≤w7.heap.size:=g7.size;have:=nWY.size;omega
    have hb7:DBox w7 A d ⟨_,_⟩:=⟨by omega,fun i v hv=>(World.cell?_of_block (a:=⟨A,i,none⟩) b7).trans (hbr.at' i v hv)⟩
    rw [← htk.out] at o7
    exact⟨⟨k+1,hlt,by simp,by rw [hgen,hv],o7,n7,s7,hb7⟩,by simp [intOf];omega⟩
  ·obtain rfl:k=d.steps.length:=by omega
   have hfull:(planP d picks).take d.steps.length=planP d picks:=List.take_of_length_le (by rw [hlen.out];exact Nat.le_refl _)
   rw [hfull] at hown
   have hown:=Lib.hid hown
   gi_wp2
   go_ret
   exact⟨_,rfl,nr,own_sl ones_row (by rw [List.length_map,hlen.out]) hown.out⟩
end Go.Proofs.Ytedomogjmhommaa
namespace Go.Proofs.Ytedomogjmhommaa
open Go.RowKit Go.Con Go.Conc
def out11 (d:Dry):Bool:=greatD d || decide (dryF d≠0)
structure PlA (w:World) (d:Dry) (r:R2) (p1:Nat) (vp va:Value) (plan air:List Int):Prop where
 B:DBox w p1 d r
 S:DrySl w d r
 p:Sl w vp 1 (plan.map one)
 a:Sl w va 1 (air.map one)
theorem PlA.nx {w w' : World} {d:Dry} {r:R2} {p1:Nat} {vp va:Value} {plan air:List Int} (h:PlA w d r p1 vp va plan air) (n:Nx w w'):PlA w' d r p1 vp va plan air:=⟨h.B.nx n,h.S.nx n,h.p.nx n,h.a.nx n⟩
theorem PlA.oc {w w' : World} {d:Dry} {r:R2} {p1:Nat} {vp va:Value} {plan air:List Int} (h:PlA w d r p1 vp va plan air) (o:OldC w w'):PlA w' d r p1 vp va plan air:=⟨h.B.oc o,h.S.oc o,h.p.oc o,h.a.oc o⟩
theorem OldC.set {w w' : World} (h:OldC w w') {b i:Nat} {v:Value} (hb:w.heap.size≤b):OldC w (w'.setCell ⟨b,i,none⟩ v) :=
 ⟨by rw [set_size];exact h.size,fun a ha=>by
  rw [← h.cell a ha]
  exact World.cell?_of_block (set_other (by omega))⟩
end Go.Proofs.Ytedomogjmhommaa
