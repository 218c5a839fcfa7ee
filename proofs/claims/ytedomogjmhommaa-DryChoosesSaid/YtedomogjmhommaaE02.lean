import Derived.Test.YtedomogjmhommaaE01
set_option linter.all false
set_option maxRecDepth 100000
set_option maxHeartbeats 8000000
namespace Go.Proofs.Ytedomogjmhommaa
open Go.RowKit
theorem place_le (xs:List St) (s:St):placeS xs s≤xs.length:=by
 unfold placeS
 exact (List.takeWhile_prefix _).length_le
theorem place_before:∀ (xs:List St) (s:St) (j:Nat) (x:St),j<placeS xs s→xs[j]?=some x→beforeS x s=true
 | [],s,j,x,_,h=>by simp at h
 | y :: xs,s,j,x,hj,h=>by
  unfold placeS at hj
  rw [List.takeWhile_cons] at hj
  split at hj
  ·rename_i hy
   cases j with
   | zero=>simp at h;subst h;exact hy
   | succ j=>exact place_before xs s j x (by unfold placeS;simpa using hj) (by simpa using h)
  ·simp at hj
theorem place_stop:∀ (xs:List St) (s:St) (x:St),xs[placeS xs s]?=some x→beforeS x s=false
 | [],s,x,h=>by simp at h
 | y :: xs,s,x,h=>by
  by_cases hy:beforeS y s=true
  ·have e:placeS (y :: xs) s=placeS xs s+1:=by simp [placeS,List.takeWhile_cons,hy]
   rw [e] at h
   exact place_stop xs s x (by simpa using h)
  ·have e:placeS (y :: xs) s=0:=by simp [placeS,List.takeWhile_cons,hy]
   rw [e] at h
   simp at h
   subst h
   simpa using hy
theorem rows1 (l:List St):∀ y∈l.map St.cells,∀ x∈y,x.oneCell'=true:=by simp [Value.oneCell']
theorem ap_first {t e:TypeId} {z:Value} {sz by_:Nat} (T:ElemT t e z sz by_) {V U:World} {g0:Nat} (hg:U.heap[g0]?=some (.cells #[] e (0,0))) (hb:V.heap.size≤g0) (nU:Nx V U) {u:Value} {rows:List (List Value)} (hu:Sl V u sz rows) (hr:∀ y∈rows,y.length=sz) (h1:∀ y∈rows,∀ x∈y,x.oneCell'=true)
  (hl:rows.length * by_≤140737488355328) (hm:rows.length≤281474976710656) :
  ∃ v' U',(Builtin.append_ #[t,t] t #[.slice (some ⟨g0,0,none⟩) 0 0,u]).run Try.prog U=.ok v' U'∧U'.ownsRow V.heap.size e sz v' rows.length rows.flatten∧Nx V U'∧∀ b,b<U.heap.size→b≠g0→U'.heap[b]?=U.heap[b]?:=by
 obtain⟨v',U',r1,r2,r3,_⟩:=run_apps T V.heap.size U _ [] (own_none hg hb) u rows hr h1 (hu.nx nU) (by simpa using hl) (by simpa using hm) nU.size
 exact⟨v',U',r1,r2,Below.grown nU r3 nU.size (fun g e=>by cases e;exact hb),fun b hbl hne=>r3.block b hbl (fun e=>hne (by cases e;rfl))⟩
theorem ap_second {t e:TypeId} {z:Value} {sz by_:Nat} (T:ElemT t e z sz by_) {V U:World} {v:Value} {rows:List (List Value)} (hown:U.ownsRow V.heap.size e sz v rows.length rows.flatten) {g:Nat} {x:List Value} (hg:U.heap[g]?=some (.cells x.toArray e (0,0))) (hx:x.length=sz) (h1:∀ y∈x,y.oneCell'=true) (nU:Nx V U)
  (hl:(rows.length+1) * by_≤140737488355328) (hm:rows.length≤281474976710656) :
  ∃ v' U',(Builtin.append_ #[t,t] t #[v,.slice (some ⟨g,0,none⟩) 1 1]).run Try.prog U=.ok v' U'∧U'.ownsRow V.heap.size e sz v' (rows++[x]).length (rows++[x]).flatten∧Nx V U':=by
 obtain⟨v',U',r1,r2,r3,_⟩:=run_more2 T V.heap.size U v rows hown g x hx hg h1 hl hm nU.size
 exact⟨v',U',r1,r2,Below.grown nU r3 nU.size (fun g e=>(hown.lt g e).1)⟩
theorem yC_sliceH {F:Fence} {n:Nat} {ops:Array Oper} {C:World→Prop} {t e:TypeId} {z:Value} {sz by_:Nat} (T:ElemT t e z sz by_) {dst:Option Nat} {ty:TypeId} {pos:String} {af:Array Edge} {a:Act} {i j:Nat} {v:Value} {k base:Nat} {rows:List (List Value)} (hr:∀ y∈rows,y.length=sz) (hk:k≤rows.length)
  (hC:∀ x,C x→x.ownsRow base e sz v rows.length rows.flatten) (h1:a.eval (.tmp i)=v) (h2:a.eval (.tmp j)=num k):YieldsC F n Try.prog ops C ⟨dst,.slice t (.tmp i) none (some (.tmp j)) none,ty,pos,af,none⟩ (headV k v) a :=
 yCP rfl (fun _=>rfl) fun x hx=>by
  have:=(run_sliceH T base x v rows hr (hC x hx) k hk).1
  simp [execOp,h1,h2,this,Result.andThen]
theorem with64_any (u:Value) (xs:List St) (s:St) (base:Nat) (w:World) (hu:w.ownsRow base 24 3 u xs.length (xs.map St.cells).flatten) (hb:base≤w.heap.size) (hl:xs.length≤1000000000) (hxI:∀ x∈xs,StI x) (hsI:StI s) :
  CallsIn FW 0 Try.prog 64 #[u,s.val] w fun e w'=>∃ v,e=.returned v∧Nx w w'∧w'.ownsRow base 24 3 v (withS xs s).length ((withS xs s).map St.cells).flatten:=by
 have k96:=fun (x:St) (w1:World)=>before96_any x s w1
 have hS:=own_sl (rows:=xs.map St.cells) (n:=xs.length) (by simp) (by simp) hu
 obtain⟨a,cap,rfl⟩:=hS.cases
 rw [List.length_map] at *
 have HU:=Lib.hid hS
 have HO:=Lib.hid hu
 clear hS hu
 have hKl:=place_le xs s
 have HB:=Lib.hid (place_before xs s)
 have HT:=Lib.hid (place_stop xs s)
 have HW:=Lib.hid (with_place s xs)
 generalize placeS xs s=K at *
 generalize withS xs s=g at *
 gi_enter Try.func64,Try.ntmps64
 gi_upto_region 1 with fail
 generalize hW:w.alloc _=W
 obtain⟨nW,sW,gX⟩:=al1 hW
 clear hW
 generalize hA:w.heap.size=A at *
 gi_wp2
 gi_loopw [5] (fun i wr=>∃ k:Nat,k≤K∧i=num k∧Nx W wr) (fun i _=>K-(intOf i).toNat)
 case atStart=>exact⟨0,Nat.zero_le _,rfl,Nx.refl _⟩
 case round =>
  obtain⟨k,hk,rfl,nr⟩:=hrel
  have nwr:=nW.trans nr
  have gr:=(nr.block A (by omega)).trans gX
  have s0:wr.cell? ⟨A,0,none⟩=some (num s.w):=row_cell gr rfl
  have s1:wr.cell? ⟨A,1,none⟩=some (num s.c):=row_cell gr rfl
  have s2:wr.cell? ⟨A,2,none⟩=some (num s.h):=row_cell gr rfl
  refine (Nat.lt_or_ge k xs.length).elim ?brA ?brB
  case' brA =>
   intro hlt
   obtain⟨b,off,rfl,hbl,hcl⟩:=(HU.out).get (by simp;omega)
   have hh:xs[k]?=some xs[k]:=List.getElem?_eq_getElem hlt
   generalize xs[k]=x at hh
   have e0:wr.cell? ⟨b,off+k * 3,none⟩=some (num x.w):=Sl.at hcl nwr hbl hh 0 (v:=num x.w) rfl
   have e1:wr.cell? ⟨b,off+k * 3+1,none⟩=some (num x.c):=Sl.at hcl nwr hbl hh 1 (v:=num x.c) rfl
   have e2:wr.cell? ⟨b,off+k * 3+2,none⟩=some (num x.h):=Sl.at hcl nwr hbl hh 2 (v:=num x.h) rfl
   have HX:=Lib.hid hh
   have k96:=k96 x
   clear hcl hh
   by_cases hkK:k<K
   case pos =>
    rw [HB.out k x hkK HX.out] at k96
    gi_upto_region 2 with fail
    refine wpIn_region_tail 10 rfl (by kernel_rfl) (by kernel_rfl) ?_
    simp only [List.take_succ_cons,List.take_zero,List.drop_succ_cons,List.drop_zero]
    repeat (gi_big_quiet_step (fail))
    refine wpQuietIn_nil ?_
    rintro w' ⟨nq,rfl⟩
    have nq4:Nx wr (wr.drewN nq):=(Nx.refl wr).drewN nq
    generalize wr.drewN nq=w4 at nq4 ⊢
    clear e0 e1 e2 s0 s1 s2
    gi_wp2_with (first | (gi_at_call 96;refine CallsIn.mono (k96 _) ?_;rintro e w5 ⟨rfl,n5⟩) | gi_in)
    exact⟨⟨k+1,hkK,by simp,nr.trans (nq4.trans n5)⟩,by simp [intOf];omega⟩
   case' neg =>
    obtain rfl:k=K:=by omega
    rw [HT.out x HX.out] at k96
    gi_upto_region 2 with fail
    refine wpIn_region_tail 10 rfl (by kernel_rfl) (by kernel_rfl) ?_
    simp only [List.take_succ_cons,List.take_zero,List.drop_succ_cons,List.drop_zero]
    repeat (gi_big_quiet_step (fail))
    refine wpQuietIn_nil ?_
    rintro w' ⟨nq,rfl⟩
    have nq4:Nx wr (wr.drewN nq):=(Nx.refl wr).drewN nq
    generalize wr.drewN nq=w4 at nq4 ⊢
    have hlw:=hbl
    gi_upto_region 4 with (first | (gi_at_call 96;refine CallsIn.mono (k96 _) ?_;rintro e w5 ⟨rfl,n5⟩) | gi_in)
    have n6:=nq4.trans n5
    have n7:=nwr.trans n6
    have nW7:=nr.trans n6
    replace gr:=(n6.block A (by have:=nr.size;omega)).trans gr
    have hbw:b<wr.heap.size:=Nat.lt_of_lt_of_le hbl nwr.size
    replace e0:=(n6.cell (p:=⟨b,off+k * 3,none⟩) hbw).trans e0
    replace e1:=(n6.cell (p:=⟨b,off+k * 3+1,none⟩) hbw).trans e1
    replace e2:=(n6.cell (p:=⟨b,off+k * 3+2,none⟩) hbw).trans e2
    clear s0 s1 s2
    have s0:w5.cell? ⟨A,0,none⟩=some (num s.w):=row_cell gr rfl
    have s1:w5.cell? ⟨A,1,none⟩=some (num s.c):=row_cell gr rfl
    have s2:w5.cell? ⟨A,2,none⟩=some (num s.h):=row_cell gr rfl
    clear nq4 n5 n6 nr nwr
    have hg24:=g24
    have hq:=fun (W1:World)=>eq24 (hxI x (List.mem_of_getElem? HX.out)) hsI W1
    by_cases hxs:x=s
    case pos =>
     rw [decide_eq_true hxs] at hq
     have HR:Hid (g=xs):=by show _=_;rw [HW.out,if_pos (by rw [HX.out,hxs])]
     clear hxs
     gi_big_quiet_th (fail)
     gi_wp2
     go_ret
     refine⟨_,rfl,n7.drewN _,?_⟩
     rw [HR.out]
     exact own_nx HO.out (n7.drewN _)
    case' neg =>
     rw [decide_eq_false hxs] at hq
     have HR:Hid (g=xs.take k++[s]++xs.drop k):=by show _=_;rw [HW.out,if_neg (by rw [HX.out];exact fun e=>hxs (Option.some.inj e))]
     clear hxs
     gi_big_quiet_th (fail)
     gi_upto_region 6 with fail
     have n8:=n7.drewN nq
     have nW8:=nW7.drewN nq
     generalize w5.drewN nq=w6 at n8 nW8 ⊢
     clear e0 e1 e2 s0 s1 s2 hq
     have hkl:k≤xs.length:=Nat.le_of_lt hlt
     clear hlt
  case' brB =>
   intro hlt
   obtain rfl:k=K:=by omega
   have hkl:k≤xs.length:=hKl
   have hke:=Lib.hid (show k=xs.length by omega)
   have hnlt:¬ k<xs.length:=by omega
   gi_upto_region 2 with fail
   refine wpIn_region_tail 10 rfl (by kernel_rfl) (by kernel_rfl) ?_
   simp only [List.take_succ_cons,List.take_zero,List.drop_succ_cons,List.drop_zero]
   repeat (gi_big_quiet_step (fail))
   refine wpQuietIn_nil ?_
   rintro w' ⟨nq,rfl⟩
   have n7:=nwr.drewN nq
   have nW7:=nr.drewN nq
   generalize wr.drewN nq=w5 at n7 nW7 ⊢
   clear s0 s1 s2
   gi_upto_region 4 with fail
   have HR:Hid (g=xs.take k++[s]++xs.drop k):=by show _=_;rw [HW.out,if_neg (by rw [List.getElem?_eq_none (by omega)];exact fun e=>by cases e)]
   gi_big_quiet_th (fail)
   gi_upto_region 6 with fail
   have n8:=n7.drewN nq
   have nW8:=nW7.drewN nq
   generalize w5.drewN nq=w6 at n8 nW8 ⊢
   clear hlt hke hnlt
  all_goals
   try clear nr nwr
   clear HB HT HW k96 n7 nW7
   have hown8:=own_len (m:=(xs.map St.cells).length) (own_nx HO.out n8) (by simp)
   have gr8:=(nW8.block A (by omega)).trans gX
   have hA8:A<w6.heap.size:=lt_row gr8
   refine wpIn_region_Zn (Nx w6) 8 (by kernel_rfl) ?_
   obtain⟨Z,G,hN,hG,hG'⟩:=class_par (C:=Nx w6) (x:=w6) (Nx.refl _)
   have t0:=fun z=>((hG' z).cell (p:=⟨A,0,none⟩) hA8).trans (row_cell (i:=0) (v:=num s.w) gr8 rfl)
   have t1:=fun z=>((hG' z).cell (p:=⟨A,1,none⟩) hA8).trans (row_cell (i:=1) (v:=num s.c) gr8 rfl)
   have t2:=fun z=>((hG' z).cell (p:=⟨A,2,none⟩) hA8).trans (row_cell (i:=2) (v:=num s.h) gr8 rfl)
   change Go.wpAnyZ _ _ _ _ _ _ _ _ 9 #[false,false,false,false,false,false,false,false,false] _ _
   obtain⟨n1,s1⟩:Nx w6 w6.drew∧w6.drew.heap.size=w6.heap.size:=⟨Nx.drew (Nx.refl w6),rfl⟩
   generalize w6.drew=V at n1 s1 ⊢
   refine Go.zqE 1 hG (by kernel_rfl) (fun _ _ _ h=>by cases h.1) rfl ?_;intro o ho K hK;simp at ho;subst ho;gi_big_quiet_op;go_big_quiet_on
   refine Go.zqE 2 hG (by kernel_rfl) (fun _ _ _ h=>by cases h.1) rfl ?_;intro o ho K hK;simp at ho;subst ho;gi_big_quiet_op;go_big_quiet_on
   refine Go.ztE 3 (by kernel_rfl) (fun _ _ _ h=>by cases h.1) ?_;intro o ho;simp at ho;subst ho;refine⟨_,(yC_sliceH T69 (rows:=xs.map St.cells) (k:=k) (base:=base) (by simp) (by simpa using hkl) (fun x hx=>own_nx hown8 hx) rfl rfl),?_⟩;simp only [Go.Act.put,List.setIfInBounds_toArray,List.set_cons_succ,List.set_cons_zero]
   refine Go.zqE 5 hG (by kernel_rfl) (fun _ _ _ h=>by cases h.1) rfl ?_;intro o ho K hK;simp at ho;subst ho;gi_big_quiet_op;go_big_quiet_on
   have hSh:=(run_sliceH T69 base V _ (xs.map St.cells) (by simp) (own_nx hown8 n1) k (by simpa using hkl)).2
   clear t0 t1 t2 hG hG' hN s1
   generalize headV k _=vh at hSh ⊢
   have hls:(xs.map St.cells).take k=(xs.take k).map St.cells:=by rw [List.map_take]
   rw [hls] at hSh
   have hlt' : ((xs.take k).map St.cells).length≤1000000000:=by simp;omega
   generalize hrs:(xs.take k).map St.cells=rows at hSh hlt'
   have hr3:∀ y∈rows,y.length=3:=by rw [← hrs];exact rows3 _
   have hr1:∀ y∈rows,∀ x∈y,x.oneCell'=true:=by rw [← hrs];exact rows1 _
   have HRS:=Lib.hid hrs
   clear hrs hls
   refine Go.zwE 0 6 (by kernel_rfl) rfl rfl ?_ ?_ ?_;rotate_left;(all_goals (try (intro o ho K hK;simp at ho;subst ho)))
   case' refine_2 =>
    gi_wp2_with fail
    generalize hUn:V.alloc _=U
    obtain⟨nU,sU,gU⟩:=al1 hUn
    replace sU:=Lib.hid sU
    clear hUn
    refine Go.zwE 4 6 (by kernel_rfl) rfl rfl ?_ ?_ ?_;rotate_left;(all_goals (try (intro o ho K hK;simp at ho;subst ho)))
    case' refine_2 =>
     obtain⟨v1,U1,r1,o1,m1,b1⟩:=ap_first T69 gU (Nat.le_refl _) nU hSh hr3 hr1 (by omega) (by omega)
     refine wpIn_of_value rfl rfl (app_run _ rfl rfl r1) (hK _ _ ?_)
     simp only [Act.put,List.setIfInBounds_toArray,List.set_cons_succ,List.set_cons_zero]
     refine Go.zoE 6 (by kernel_rfl) rfl ?_ ?_;rotate_left;intro o ho K hK;simp at ho;subst ho
     gi_wp2_with fail
     generalize hYn:U1.alloc _=Y
     obtain⟨nY,sY,gY⟩:=al1 hYn
     replace sY:=Lib.hid sY
     clear hYn
     replace o1:=own_nx o1 nY
     refine Go.zoE 7 (by kernel_rfl) rfl ?_ ?_;rotate_left;intro o ho K hK;simp at ho;subst ho
     obtain⟨v2,U2,r2,o2,m2⟩:=ap_second T69 o1 (x:=s.cells) gY rfl (by simp [Value.oneCell']) (m1.trans nY) (by omega) (by omega)
     refine wpIn_of_value rfl rfl (app_run _ rfl rfl r2) (hK _ _ ?_)
     simp only [Act.put,List.setIfInBounds_toArray,List.set_cons_succ,List.set_cons_zero]
     refine Go.zoE 8 (by kernel_rfl) rfl ?_ ?_;rotate_left;intro o ho K hK;simp at ho;subst ho
     gi_wp2_with fail
     refine wpAnyZ_done (by kernel_rfl) (fun h=>absurd h (by decide)) ⟨rfl,?_⟩
    case' refine_3 =>
     gi_wp2_with fail
     generalize hYn:U.alloc _=Y
     obtain⟨nY,sY,gY⟩:=al1 hYn
     replace sY:=Lib.hid sY
     clear hYn
     replace gU:=(nY.block _ (lt_row gU)).trans gU
     refine Go.zoE 4 (by kernel_rfl) rfl ?_ ?_;rotate_left;intro o ho K hK;simp at ho;subst ho
     obtain⟨v1,U1,r1,o1,m1,b1⟩:=ap_first T69 gU (Nat.le_refl _) (nU.trans nY) hSh hr3 hr1 (by omega) (by omega)
     refine wpIn_of_value rfl rfl (app_run _ rfl rfl r1) (hK _ _ ?_)
     simp only [Act.put,List.setIfInBounds_toArray,List.set_cons_succ,List.set_cons_zero]
     replace gY:=(b1 _ (lt_row gY) (by have:=sU.out;have:=sY.out;omega)).trans gY
     refine Go.zoE 7 (by kernel_rfl) rfl ?_ ?_;rotate_left;intro o ho K hK;simp at ho;subst ho
     obtain⟨v2,U2,r2,o2,m2⟩:=ap_second T69 o1 (x:=s.cells) gY rfl (by simp [Value.oneCell']) m1 (by omega) (by omega)
     refine wpIn_of_value rfl rfl (app_run _ rfl rfl r2) (hK _ _ ?_)
     simp only [Act.put,List.setIfInBounds_toArray,List.set_cons_succ,List.set_cons_zero]
     refine Go.zoE 8 (by kernel_rfl) rfl ?_ ?_;rotate_left;intro o ho K hK;simp at ho;subst ho
     gi_wp2_with fail
     refine wpAnyZ_done (by kernel_rfl) (fun h=>absurd h (by decide)) ⟨rfl,?_⟩
   case' refine_3 =>
    gi_wp2_with fail
    generalize hYn:V.alloc _=Y
    obtain⟨nY,sY,gY⟩:=al1 hYn
    replace sY:=Lib.hid sY
    clear hYn
    refine Go.zoE 0 (by kernel_rfl) rfl ?_ ?_;rotate_left;intro o ho K hK;simp at ho;subst ho
    gi_wp2_with fail
    generalize hUn:Y.alloc _=U
    obtain⟨nU,sU,gU⟩:=al1 hUn
    replace sU:=Lib.hid sU
    clear hUn
    replace gY:=(nU.block _ (lt_row gY)).trans gY
    refine Go.zoE 4 (by kernel_rfl) rfl ?_ ?_;rotate_left;intro o ho K hK;simp at ho;subst ho
    obtain⟨v1,U1,r1,o1,m1,b1⟩:=ap_first T69 gU (by have:=sU.out;have:=sY.out;omega) (nY.trans nU) hSh hr3 hr1 (by omega) (by omega)
    refine wpIn_of_value rfl rfl (app_run _ rfl rfl r1) (hK _ _ ?_)
    simp only [Act.put,List.setIfInBounds_toArray,List.set_cons_succ,List.set_cons_zero]
    replace gY:=(b1 _ (lt_row gY) (by have:=sU.out;have:=sY.out;omega)).trans gY
    refine Go.zoE 7 (by kernel_rfl) rfl ?_ ?_;rotate_left;intro o ho K hK;simp at ho;subst ho
    obtain⟨v2,U2,r2,o2,m2⟩:=ap_second T69 o1 (x:=s.cells) gY rfl (by simp [Value.oneCell']) m1 (by omega) (by omega)
    refine wpIn_of_value rfl rfl (app_run _ rfl rfl r2) (hK _ _ ?_)
    simp only [Act.put,List.setIfInBounds_toArray,List.set_cons_succ,List.set_cons_zero]
    refine Go.zoE 8 (by kernel_rfl) rfl ?_ ?_;rotate_left;intro o ho K hK;simp at ho;subst ho
    gi_wp2_with fail
    refine wpAnyZ_done (by kernel_rfl) (fun h=>absurd h (by decide)) ⟨rfl,?_⟩
   all_goals (first | exact fun _=>n1 | exact fun _=>n1.trans (by assumption) | exact fun _=>n1.trans (Nx.trans (by assumption) (by assumption)) | skip)
   all_goals
    have nZ:=n1.trans m2
    have hg:Hid (g.map St.cells=(rows++[s.cells])++(xs.map St.cells).drop k):=by
     show _=_
     rw [HR.out,List.map_append,List.map_append,List.map_take,← HRS.out,List.map_take,List.map_drop]
     rfl
    have hgl:Hid (g.length=((rows++[s.cells])++(xs.map St.cells).drop k).length):=by show _=_;rw [← hg.out,List.length_map]
    have hd:Hid ((rows++[s.cells]).length+((xs.map St.cells).drop k).length≤3000000000):=by show _≤_;rw [List.length_append];simp;omega
    have hownZ:=own_nx hown8 nZ
    have hVb:Hid (base≤V.heap.size):=by show _≤_;have:=n8.size;have:=n1.size;omega
    clear r1 r2 o1 b1 hSh gU gX gr8 hr1 hr3 hlt'
    clear gY
    try clear gr
    generalize hrows:rows++[s.cells]=rw2 at *
    have h23:Hid (∀ y∈(xs.map St.cells).drop k,y.length=3):=fun y hy=>rows3 xs y (List.mem_of_mem_drop hy)
    have h21:Hid (∀ y∈(xs.map St.cells).drop k,∀ x∈y,x.oneCell'=true):=fun y hy=>rows1 xs y (List.mem_of_mem_drop hy)
    gi_wp2_with (first | (refine wpListIn_sliceL T69 rfl _ _ rfl base _ _ k (xs.map St.cells) rfl rfl (rows3 _) hownZ rfl (by simpa using hkl) ?_;intro hSl;generalize tailV 3 k _=vt at hSl ⊢;simp only [Act.put,List.setIfInBounds_toArray,List.set_cons_succ,List.set_cons_zero]) | (gi_at_builtin;refine wpListIn_apps T69 rfl _ _ rfl rfl V.heap.size _ _ rw2 rfl o2 rfl _ _ rfl hSl h23.out h21.out (by have:=hd.out;omega) (by have:=hd.out;omega) (by have:=m2.size;omega) ?_;intro v3 w9 o9 g9 a9;simp only [Act.put,List.setIfInBounds_toArray,List.set_cons_succ,List.set_cons_zero]) | gi_in)
    go_ret
    refine⟨_,rfl,n8.trans (n1.trans (Below.grown m2 g9 m2.size (fun g hg=>(o2.lt g hg).1))),?_⟩
    rw [hgl.out,hg.out]
    exact own_base o9 hVb.out
end Go.Proofs.Ytedomogjmhommaa
