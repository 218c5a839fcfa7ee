import Derived.Test.YtedomogjmhommaaD02
set_option linter.all false
set_option maxRecDepth 100000
set_option maxHeartbeats 8000000
namespace Go.Proofs.Ytedomogjmhommaa
open Go.RowKit Go.Shelf
theorem orF_all:∀ {l:List Int},orF l=0→∀ y∈l,y=0
 | [],_,y,hy=>by cases hy
 | a :: l,h,y,hy=>by
  by_cases ha:a=0
  ·subst ha
   have h' : orF l=0:=by simpa [orF] using h
   rcases List.mem_cons.1 hy with rfl | hy
   ·rfl
   ·exact orF_all h' y hy
  ·simp [orF,ha] at h
theorem seen_steps {d:Dry} {seen:List Sn} (h:seenF d seen=0):∀ x∈seen,0≤x.step∧x.step<d.steps.length:=by
 unfold seenF at h
 split at h
 ·cases h
 ·intro x hx
  have:=orF_all h _ (List.mem_map.2 ⟨x,hx,rfl⟩)
  unfold seenE at this
  split at this
  ·cases this
  ·rename_i h1
   rw [Decidable.not_not] at h1
   omega
theorem spans_zero:∀ k:Nat,((List.replicate k ((0:Int),(0:Int))).map spc).flatten=List.replicate (2 * k) (num 0)
 | 0=>rfl
 | k+1=>by
  rw [List.replicate_succ,List.map_cons,List.flatten_cons,spans_zero k,show 2 * (k+1)=2 * k+1+1 by omega,List.replicate_succ,List.replicate_succ]
  rfl
theorem made_spans (k:Nat):madeCells (Value.agg #[num 0,num 0]).cells (k * 2)=(((List.replicate k ((0:Int),(0:Int))).map spc).flatten).toArray:=by
 rw [spans_zero]
 apply Array.ext'
 simp only [madeCells,Value.cells]
 apply List.ext_getElem
 ·simp [Nat.mul_comm]
 ·intro i h1 h2
  rcases Nat.mod_two_eq_zero_or_one i with h | h<;>simp [h]
theorem make50 (n:Nat) (hn:n≤1000) (V:World):(Instr.makeSlice 50 (num n) (num n)).run Try.prog V=.ok (.slice (some ⟨V.heap.size,0,none⟩) n n) (V.alloc (.cells (((List.replicate n ((0:Int),(0:Int))).map spc).flatten).toArray 45)):=by
 obtain⟨i,hi,hz,hs,hby⟩:=T50.info
 have:=run_makeSlice (P:=Try.prog) (w:=V) 50 45 i (.agg #[num 0,num 0]) T50.und hi hz .i64 .i64 n n (by omega) (Int.le_refl _) (by rw [hs];simp;omega) (by rw [hby];omega) (by omega)
 rw [Int.toNat_natCast,hs] at this
 rw [← made_spans]
 exact this
def rowD (st:Option (List (Int×Int))) (n:Nat):List (Int×Int):=st.getD (List.replicate n (0,0))
theorem cut_row {α:Type} {T O:List α} {t:Nat} {p:α} (hp:O[t]?=some p):T.take t++O.drop t=T.take t++p :: O.drop (t+1):=by rw [drop_cons hp]
theorem cut_next {α:Type} {T O:List α} {t:Nat} {q:α} (hq:T[t]?=some q):T.take t++q :: O.drop (t+1)=T.take (t+1)++O.drop (t+1):=by rw [take_snoc hq,List.append_assoc];rfl
theorem damps31_any (d:Dry) (r:R2) (u u2:Value) (plan:List Int) (seen:List Sn) (w:World) (hd:DrySl w d r) (hu:Sl w u 1 (plan.map one)) (hl:plan.length≤1000000000) (hu2:Sl w u2 3 (seen.map Sn.cells)) (hl2:seen.length≤1000000000) :
  CallsIn FW 0 Try.prog 31 #[d.val r,u,u2] w fun e w'=>∃ v,e=.returned (.tuple #[v,num (dampsF d plan seen).2])∧Nx w w'∧Sl w' v 2 ((dampsF d plan seen).1.map spc):=by
 have k39:=fun (w1:World) (n:Nx w w1)=>plan39_any d r u plan w1 (hd.nx n) (hu.nx n) hl
 have k80:=fun (w1:World) (n:Nx w w1)=>seen80_any d r u2 seen w1 (hd.nx n) (hu2.nx n) hl2
 have k69:=fun (hO:d.Ok) (w1:World) (n:Nx w w1)=>airs69_any d r w1 (hd.nx n) hO
 have k82:=fun (hO:d.Ok) (hP:∀ a∈airsL d.steps,PA d plan a) (a:List Int) (ha:a∈airsL d.steps) (v:Value) (w1:World) (n:Nx w w1) (hv:Sl w1 v 1 (a.map one))=>follow82_any d r u v plan a w1 (hd.nx n) hO (hP a ha) (hu.nx n) hv hl
 have k81:=fun (L:List St) (hL:L.length≤1000000000) (hs:∀ x∈seen,0≤x.step∧x.step<L.length) (v:Value) (w1:World) (n:Nx w w1) (hv:Sl w1 v 3 (L.map St.cells))=>agrees81_any v u2 L seen w1 hv (hu2.nx n) hL hl2 hs
 have HSL:=Lib.hid hd.sl
 obtain⟨rh,rs⟩:=r
 obtain⟨ha,hcap,e1⟩:=hd.heats.cases
 obtain⟨sa,scap,e2⟩:=hd.steps.cases
 dsimp only at e1 e2
 rw [List.length_map] at e1 e2
 subst e1 e2
 obtain⟨ua,ucap,rfl⟩:=hu.cases
 obtain⟨va,vcap,rfl⟩:=hu2.cases
 rw [List.length_map] at *
 rw [List.length_map] at *
 obtain⟨pl,hpe⟩:∃ n,plan.length=n:=⟨_,rfl⟩
 obtain⟨sl,hse⟩:∃ n,seen.length=n:=⟨_,rfl⟩
 have HPE:=Lib.hid hpe
 have HPL:=Lib.hid (show plan.length≤1000000000 from hl)
 rw [hpe] at k39 k82
 rw [hse] at k80 k81
 rw [hpe,hse]
 clear hd hu hu2 hpe hse hl hl2
 obtain⟨g,hg⟩:∃ g,dampsF d plan seen=g:=⟨_,rfl⟩
 rw [hg]
 have HG:=Lib.hid hg
 clear hg
 have hmk:=make50 d.steps.length
 gi_enter Try.func31,Try.ntmps31
 gi_upto_region 1 with fail
 generalize hW:w.alloc _=W
 obtain⟨nW,sW,g0⟩:=al1 hW
 clear hW
 have hbW:DBox W w.heap.size d ⟨.slice ha d.heats.length hcap,.slice sa d.steps.length scap⟩:=⟨by omega,fun i v h=>row_cell g0 h⟩
 generalize hA:w.heap.size=A at *
 have c0:=hbW.at' 0 _ rfl
 have c1:=hbW.at' 1 _ rfl
 have c2:=hbW.at' 2 _ rfl
 have c3:=hbW.at' 3 _ rfl
 have c4:=hbW.at' 4 _ rfl
 have c5:=hbW.at' 5 _ rfl
 have c6:=hbW.at' 6 _ rfl
 by_cases hp:planF d plan=0
 case neg =>
  have HR:Hid (g=([],planF d plan)):=by show _=_;rw [← HG.out];unfold dampsF;rw [if_pos hp]
  have b1:(planF d plan != 0)=true:=by simpa using hp
  generalize planF d plan=f at *
  clear hp k80 k69 k82 k81 hmk
  gi_wp2_with (first | (gi_at_call 39;refine CallsIn.mono (k39 _ nW) ?_;rintro e w2 ⟨rfl,n2⟩) | gi_in)
  refine bodyPost_ret (v:=.tuple #[.slice none 0 0,num f]) (by simp [results,Try.results31,go_sem]) rfl ⟨.slice none 0 0,by rw [HR.out]<;>rfl,nW.trans n2,?_⟩
  rw [HR.out]
  exact⟨0,.inl ⟨rfl,rfl⟩⟩
 case pos =>
 obtain⟨hO,hpl,hpb⟩:=planF_ok hp
 have HG2:Hid (g=if seenF d seen≠0 then ([],seenF d seen) else dampsGo (dampsS d plan seen (airsL d.steps))):=by show _=_;rw [← HG.out];unfold dampsF;rw [if_neg (fun h=>h hp)]
 have k69:=k69 hO
 have k82:=k82 hO (fun a ha=>airs_pa hO hpl hpb ha)
 rw [hp] at k39
 have hcnt:=airs_count hO
 have hne:=airs_ne hO
 have hs5:=hO.s5
 have hmk:=hmk (by omega)
 have HFL:Hid (∀ a∈airsL d.steps,(followS d d.start plan a).length=d.steps.length∧a.length=d.steps.length):=fun a ha=>⟨(followS_len d d.start plan a (airs_pa hO hpl hpb ha).len).trans hpl,(airs_mem.1 ha).1⟩
 have HNP:Hid (pl=d.steps.length):=HPE.out.symm.trans hpl
 clear hp hpb hpl hO HG
 gi_upto_region 4 with (first | (gi_at_call 39;refine CallsIn.mono (k39 _ nW) ?_;rintro e w2 ⟨rfl,n2⟩) | gi_in)
 have hb2:=hbW.nx n2
 have nw2:=nW.trans n2
 clear c0 c1 c2 c3 c4 c5 c6 g0
 have c0:=hb2.at' 0 _ rfl
 have c1:=hb2.at' 1 _ rfl
 have c2:=hb2.at' 2 _ rfl
 have c3:=hb2.at' 3 _ rfl
 have c4:=hb2.at' 4 _ rfl
 have c5:=hb2.at' 5 _ rfl
 have c6:=hb2.at' 6 _ rfl
 by_cases hq:seenF d seen=0
 case neg =>
  have HR:Hid (g=([],seenF d seen)):=by show _=_;rw [HG2.out,if_pos hq]
  have b1:(seenF d seen != 0)=true:=by simpa using hq
  generalize seenF d seen=f at *
  clear hq k69 k82 k81 hmk
  gi_wp2_with (first | (gi_at_call 80;refine CallsIn.mono (k80 _ nw2) ?_;rintro e w3 ⟨rfl,n3⟩) | gi_in)
  refine bodyPost_ret (v:=.tuple #[.slice none 0 0,num f]) (by simp [results,Try.results31,go_sem]) rfl ⟨.slice none 0 0,by rw [HR.out]<;>rfl,nw2.trans n3,?_⟩
  rw [HR.out]
  exact⟨0,.inl ⟨rfl,rfl⟩⟩
 case pos =>
 have HR:Hid (g=dampsGo (dampsS d plan seen (airsL d.steps))):=by show _=_;rw [HG2.out,if_neg (fun h=>h hq)]
 have HSS:=Lib.hid (seen_steps hq)
 rw [hq] at k80
 clear hq HG2
 gi_upto_region 7 with (first | (gi_at_call 80;refine CallsIn.mono (k80 _ nw2) ?_;rintro e w2' ⟨rfl,n2'⟩) | gi_in)
 have hb2:=hb2.nx n2'
 have nw2:=nw2.trans n2'
 clear c0 c1 c2 c3 c4 c5 c6
 have c0:=hb2.at' 0 _ rfl
 have c1:=hb2.at' 1 _ rfl
 have c2:=hb2.at' 2 _ rfl
 have c3:=hb2.at' 3 _ rfl
 have c4:=hb2.at' 4 _ rfl
 have c5:=hb2.at' 5 _ rfl
 have c6:=hb2.at' 6 _ rfl
 gi_upto_region 8 with (first | (gi_at_call 69;refine CallsIn.mono (k69 _ nw2) ?_;rintro e w3 ⟨vM,rfl,n3,hM⟩) | gi_in)
 have hb3:=hb2.nx n3
 have nw3:=nw2.trans n3
 obtain⟨mb,mo,mc,vs,rfl,hmb,hrd⟩:=hM.read hne
 have HRD:=Lib.hid hrd
 have c6':=hb3.at' 6 _ rfl
 clear c0 c1 c2 c3 c4 c5 c6 hM hrd k39 k69 k80
 generalize hMM:airsL d.steps=M at *
 gi_upto_region 9 with fail
 generalize hX:w3.alloc _=X
 obtain⟨nX,sX,gX⟩:=al1 hX
 clear hX hmk
 generalize hB3:w3.heap.size=B3 at *
 have hAB:A<B3:=by rw [← hB3];exact hb3.lt
 generalize hn:d.steps.length=n at *
 have hown0:X.ownsRow B3 45 2 (.slice (some ⟨B3,0,none⟩) n n) n ((rowD none n).map spc).flatten:=by
  refine⟨by rw [spc_len];simp [rowD];omega,.inr ⟨B3,n,_,rfl,Nat.le_refl _,gX,Nat.le_refl _,by simp [maxLen];omega,by simp,?_⟩⟩
  rw [List.take_of_length_le (by simp)]
  simp [rowD]
 gi_wp2
 gi_loopw [12,13] (fun f i wr=>∃ k:Nat,k≤M.length∧i=num k∧f=.bool (dampsS d plan seen (M.take k)).isSome∧Nx w3 wr∧wr.ownsRow B3 45 2 (.slice (some ⟨B3,0,none⟩) n n) n ((rowD (dampsS d plan seen (M.take k)) n).map spc).flatten∧∀ D,dampsS d plan seen (M.take k)=some D→D.length=n) (fun _ i _=>M.length-(intOf i).toNat)
 case atStart=>exact⟨0,Nat.zero_le _,rfl,rfl,nX,hown0,fun D h=>by cases h⟩
 case round =>
  obtain⟨WR,hren⟩:∃ z,z=wr:=⟨_,rfl⟩
  subst hren
  obtain⟨k,hk,rfl,rfl,nr,hown,hDl⟩:=hrel
  have hbr:=hb3.nx nr
  have hBl:=hbr.lt
  have c0:=hbr.at' 0 _ rfl
  have c1:=hbr.at' 1 _ rfl
  have c2:=hbr.at' 2 _ rfl
  have c3:=hbr.at' 3 _ rfl
  have c4:=hbr.at' 4 _ rfl
  have c5:=hbr.at' 5 _ rfl
  have c6:=hbr.at' 6 _ rfl
  by_cases hlt:k<M.length
  ·have hp:M[k]?=some M[k]:=List.getElem?_eq_getElem hlt
   generalize M[k]=a at hp
   obtain⟨aa,ac,ca,hsa⟩:=HRD.out k a hp
   obtain⟨hfl,hal⟩:=HFL.out a (List.mem_of_getElem? hp)
   have k82:=fun (w1:World) (n' : Nx w3 w1)=>k82 a (List.mem_of_getElem? hp) _ w1 (nw3.trans n') (hsa.nx n')
   have k81:=k81 (followS d d.start plan a) (by omega) (fun x hx=>by rw [hfl];exact HSS.out x hx)
   have HSN:=Lib.hid (dampsS_snoc d plan seen (M.take k) a)
   rw [← take_snoc hp] at HSN
   have ca':=(nr.cell (p:=⟨mb,mo+k,none⟩) (by rw [hB3];exact hmb)).trans ca
   have hmbr:mb<WR.heap.size:=by have:=nr.size;omega
   rw [hal] at ca' k82
   have HAL:=Lib.hid hal
   have HCA:=Lib.hid (hal ▸ ca)
   have HSA:=Lib.hid hsa
   have HDL:=Lib.hid hDl
   have HFLL:=Lib.hid hfl
   generalize hst:dampsS d plan seen (M.take k)=st at *
   obtain⟨fb,hfb⟩:∃ b,st.isSome=b:=⟨_,rfl⟩
   rw [hfb]
   have HFB:=Lib.hid hfb
   clear hfb
   have hownH:=Lib.hid hown
   clear hp hsa hal ca hDl hfl hown
   gi_upto_region 13 with fail
   refine wpIn_region_Zn (Nx WR) 8 (by kernel_rfl) ?_
   obtain⟨Z,G,hN,hG,hG'⟩:=class_par (C:=Nx WR) (x:=WR) (Nx.refl _)
   have r0:=fun z=>((hG' z).cell (p:=⟨A,0,none⟩) hBl).trans c0
   have r1:=fun z=>((hG' z).cell (p:=⟨A,1,none⟩) hBl).trans c1
   have r2:=fun z=>((hG' z).cell (p:=⟨A,2,none⟩) hBl).trans c2
   have r3:=fun z=>((hG' z).cell (p:=⟨A,3,none⟩) hBl).trans c3
   have r4:=fun z=>((hG' z).cell (p:=⟨A,4,none⟩) hBl).trans c4
   have r5:=fun z=>((hG' z).cell (p:=⟨A,5,none⟩) hBl).trans c5
   have r6:=fun z=>((hG' z).cell (p:=⟨A,6,none⟩) hBl).trans c6
   have t0:=fun z=>((hG' z).cell (p:=⟨mb,mo+k,none⟩) hmbr).trans ca'
   change Go.wpAnyZ _ _ _ _ _ _ _ _ 10 #[false,false,false,false,false,false,false,false,false,false] _ _
   obtain⟨n1,s1⟩:Nx WR WR.drew∧WR.drew.heap.size=WR.heap.size:=⟨Nx.drew (Nx.refl WR),rfl⟩
   generalize WR.drew=V at n1 s1 ⊢
   refine Go.zqE 0 hG (by kernel_rfl) (fun _ _ _ h=>by cases h.1) rfl ?_;intro o ho K hK;simp at ho;subst ho;gi_big_quiet_op;go_big_quiet_on
   refine Go.zqE 1 hG (by kernel_rfl) (fun _ _ _ h=>by cases h.1) rfl ?_;intro o ho K hK;simp at ho;subst ho;gi_big_quiet_op;go_big_quiet_on
   refine Go.zqE 2 hG (by kernel_rfl) (fun _ _ _ h=>by cases h.1) rfl ?_;intro o ho K hK;simp at ho;subst ho;gi_big_quiet_op;go_big_quiet_on
   refine Go.zqE 3 hG (by kernel_rfl) (fun _ _ _ h=>by cases h.1) rfl ?_;intro o ho K hK;simp at ho;subst ho;gi_big_quiet_op;go_big_quiet_on
   refine Go.zqE 4 hG (by kernel_rfl) (fun _ _ _ h=>by cases h.1) rfl ?_;intro o ho K hK;simp at ho;subst ho;gi_big_quiet_op;go_big_quiet_on
   refine Go.zqE 5 hG (by kernel_rfl) (fun _ _ _ h=>by cases h.1) rfl ?_;intro o ho K hK;simp at ho;subst ho;gi_big_quiet_op;go_big_quiet_on
   refine Go.zqE 7 hG (by kernel_rfl) (fun _ _ _ h=>by cases h.1) rfl ?_;intro o ho K hK;simp at ho;subst ho;gi_big_quiet_op;go_big_quiet_on
   clear r0 r1 r2 r3 r4 r5 r6 t0 hG hG' hN c0 c1 c2 c3 c4 c5 c6
   refine Go.zoE 6 (by kernel_rfl) rfl ?_ ?_;rotate_left;intro o ho K hK;simp at ho;subst ho
   gi_wp2_with (first | (gi_at_call 82;refine CallsIn.mono (k82 _ (nr.trans n1)) ?_;rintro e w5 ⟨vL,rfl,n5,hvl⟩) | gi_in)
   have n15:=n1.trans n5
   have hsv:Sl w5 vL 3 ((followS d d.start plan a).map St.cells):=own_sl (n:=pl) (fun y hy=>by obtain⟨s,_,rfl⟩:=List.mem_map.1 hy;rfl) (by rw [List.length_map,HFLL.out,HNP.out]) hvl
   obtain⟨la,lcap,e7⟩:=hsv.cases
   rw [List.length_map,HFLL.out] at e7
   rw [e7] at hsv
   subst e7
   have k81:=k81 _ w5 (nw3.trans (nr.trans n15)) hsv
   refine Go.zoE 8 (by kernel_rfl) rfl ?_ ?_;rotate_left;intro o ho K hK;simp at ho;subst ho
   gi_wp2_with (first | (gi_at_call 81;refine CallsIn.mono k81 ?_;rintro e w6 ⟨rfl,n6⟩) | gi_in)
   have n16:=n15.trans n6
   cases hag:agreesS (followS d d.start plan a) seen with
   | false =>
    refine Go.zoE 9 (by kernel_rfl) rfl ?_ ?_;rotate_left;intro o ho K hK;simp at ho;subst ho
    gi_wp2_with fail
    refine wpAnyZ_done (by kernel_rfl) (fun h=>absurd h (by decide)) ⟨rfl,?_⟩
    ·have HS1:Hid (dampsS d plan seen (M.take (k+1))=st):=by show _=_;rw [HSN.out,if_neg (by rw [hag];simp)]
     have HO6:=Lib.hid (own_nx hownH.out n16)
     clear hag
     gi_wp2
     refine⟨⟨k+1,hlt,by simp,by rw [HS1.out,HFB.out],nr.trans n16,?_,?_⟩,by simp [intOf];omega⟩
     ·rw [HS1.out];exact HO6.out
     ·rw [HS1.out];exact HDL.out
    all_goals (intro _;first | exact n1 | exact n15 | exact n16 | contradiction)
   | true =>
    refine Go.zoE 9 (by kernel_rfl) rfl ?_ ?_;rotate_left;intro o ho K hK;simp at ho;subst ho
    gi_wp2_with fail
    refine wpAnyZ_done (by kernel_rfl) (fun h=>absurd h (by decide)) ⟨rfl,?_⟩
    ·have HS1:Hid (dampsS d plan seen (M.take (k+1))=some (tgtD st a)):=by show _=_;rw [HSN.out,if_pos hag];exact stepD_some st a
     have HTL:=Lib.hid (tgt_len (n:=n) HAL.out HDL.out)
     have HO6:=own_nx hownH.out n16
     have n36:=nr.trans n16
     clear hag
     obtain⟨W6,hren⟩:∃ z,z=w6:=⟨_,rfl⟩
     subst hren
     gi_wp2
     gi_loopw [14] (fun i wj=>∃ t:Nat,t≤n∧i=num t∧Nx w3 wj∧wj.ownsRow B3 45 2 (.slice (some ⟨B3,0,none⟩) n n) n (((tgtD st a).take t++(rowD st n).drop t).map spc).flatten) (fun i _=>n-(intOf i).toNat)
     case atStart=>exact⟨0,Nat.zero_le _,rfl,n36,HO6⟩
     case round =>
      obtain⟨WJ,hren⟩:∃ z,z=wr:=⟨_,rfl⟩
      subst hren
      obtain⟨t,ht,rfl,nX,hown⟩:=hrel
      by_cases hlt2:t<n
      ·have hx:a[t]?=some (a[t]'(by rw [HAL.out];exact hlt2)):=List.getElem?_eq_getElem _
       generalize a[t]'(by rw [HAL.out];exact hlt2)=x at hx
       obtain⟨ab,ao,rfl,hab,hac⟩:=(HSA.out).get (by rw [List.length_map,HAL.out];omega)
       have ax:w3.cell? ⟨ab,ao+t,none⟩=some (num x):=by
        have:=hac t 0 [num x] (num x) (by rw [List.getElem?_map,hx];rfl) rfl
        simpa using this
       have caW:=(nX.cell (p:=⟨mb,mo+k,none⟩) (by rw [hB3];exact hmb)).trans ((by have:=HCA.out;exact this):w3.cell? ⟨mb,mo+k,none⟩=_)
       have axW:=(nX.cell (p:=⟨ab,ao+t,none⟩) hab).trans ax
       have hl1:((tgtD st a).take t).length=t:=by rw [List.length_take,HTL.out];omega
       have hHX:=Lib.hid hx
       clear hx hac ax
       cases st with
       | none =>
        obtain rfl:fb=false:=HFB.out.symm
        have hO:(rowD none n)[t]?=some (0,0):=by simp [rowD,hlt2]
        rw [cut_row hO] at hown
        have hT:=tgt_none hHX.out
        have HNX:=Lib.hid (cut_next (O:=rowD none n) hT)
        have hcs:=own_cell2 hown
        rw [hl1] at hcs
        obtain⟨a0,a1,za0,za1⟩:=hcs
        have hown':=own_set2 (q:=(x,x)) hown
        rw [hl1] at hown'
        gi_upto_region 20 with fail
        have nX:=Nx.set (i:=t * 2+1) (v:=num x) (Nx.set (i:=t * 2) (v:=num x) nX (show w3.heap.size≤B3 by omega)) (show w3.heap.size≤B3 by omega)
        have hownX:=Lib.hid hown'
        generalize (WJ.setCell ⟨B3,t * 2,none⟩ (num x)).setCell ⟨B3,t * 2+1,none⟩ (num x)=WX at nX hownX ⊢
        clear a0 a1 za0 za1 caW axW
        have hm1:Hid ((if x<x then x else x)=x):=(show _=_ by split<;>rfl)
        have hm2:Hid ((if x<x then x else x)=x):=(show _=_ by split<;>rfl)
        have hcs:=own_cell2 hownX.out
        rw [hl1] at hcs
        obtain⟨a0,a1,za0,za1⟩:=hcs
        have hbX:B3<WX.heap.size:=by obtain⟨o,ho,_⟩:=cells_of_cell a0;exact lt_row ho
        gi_upto_region 20 with fail
        refine wpIn_region_Zn (Nx WX) 18 (by kernel_rfl) ?_
        obtain⟨Z,G,hN,hG,hG'⟩:=class_par (C:=Nx WX) (x:=WX) (Nx.refl _)
        have r0:=fun z=>((hG' z).cell (p:=⟨B3,t * 2,none⟩) hbX).trans a0
        have r1:=fun z=>((hG' z).cell (p:=⟨B3,t * 2+1,none⟩) hbX).trans a1
        change Go.wpAnyZ _ _ _ _ _ _ _ _ 19 #[false,false,false,false,false,false,false,false,false,false,false,false,false,false,false,false,false,false,false] _ _
        obtain⟨n1,s1⟩:Nx WX WX.drew∧WX.drew.heap.size=WX.heap.size:=⟨Nx.drew (Nx.refl WX),rfl⟩
        have HOW:=Lib.hid (own_nx hownX.out n1)
        generalize WX.drew=V at n1 s1 HOW ⊢
        refine Go.zqE 0 hG (by kernel_rfl) (fun _ _ _ h=>by cases h.1) rfl ?_;intro o ho K hK;simp at ho;subst ho;gi_big_quiet_op;go_big_quiet_on
        refine Go.zqE 1 hG (by kernel_rfl) (fun _ _ _ h=>by cases h.1) rfl ?_;intro o ho K hK;simp at ho;subst ho;gi_big_quiet_op;go_big_quiet_on
        refine Go.zqE 2 hG (by kernel_rfl) (fun _ _ _ h=>by cases h.1) rfl ?_;intro o ho K hK;simp at ho;subst ho;gi_big_quiet_op;go_big_quiet_on
        refine Go.zqE 3 hG (by kernel_rfl) (fun _ _ _ h=>by cases h.1) rfl ?_;intro o ho K hK;simp at ho;subst ho;gi_big_quiet_op;go_big_quiet_on
        refine Go.zqE 4 hG (by kernel_rfl) (fun _ _ _ h=>by cases h.1) rfl ?_;intro o ho K hK;simp at ho;subst ho;gi_big_quiet_op;go_big_quiet_on
        refine Go.zqE 5 hG (by kernel_rfl) (fun _ _ _ h=>by cases h.1) rfl ?_;intro o ho K hK;simp at ho;subst ho;gi_big_quiet_op;go_big_quiet_on
        refine Go.zqE 6 hG (by kernel_rfl) (fun _ _ _ h=>by cases h.1) rfl ?_;intro o ho K hK;simp at ho;subst ho;gi_big_quiet_op;go_big_quiet_on
        refine Go.zqE 7 hG (by kernel_rfl) (fun _ _ _ h=>by cases h.1) rfl ?_;intro o ho K hK;simp at ho;subst ho;gi_big_quiet_op;go_big_quiet_on
        refine Go.ztE 8 (by kernel_rfl) (fun _ _ _ h=>by cases h.1) ?_;intro o ho;simp at ho;subst ho;refine⟨_,yC_min rfl rfl hm1.out,?_⟩;simp only [Go.Act.put,List.setIfInBounds_toArray,List.set_cons_succ,List.set_cons_zero]
        refine Go.zqE 9 hG (by kernel_rfl) (fun _ _ _ h=>by cases h.1) rfl ?_;intro o ho K hK;simp at ho;subst ho;gi_big_quiet_op;go_big_quiet_on
        refine Go.zqE 10 hG (by kernel_rfl) (fun _ _ _ h=>by cases h.1) rfl ?_;intro o ho K hK;simp at ho;subst ho;gi_big_quiet_op;go_big_quiet_on
        refine Go.zqE 11 hG (by kernel_rfl) (fun _ _ _ h=>by cases h.1) rfl ?_;intro o ho K hK;simp at ho;subst ho;gi_big_quiet_op;go_big_quiet_on
        refine Go.zqE 12 hG (by kernel_rfl) (fun _ _ _ h=>by cases h.1) rfl ?_;intro o ho K hK;simp at ho;subst ho;gi_big_quiet_op;go_big_quiet_on
        refine Go.zqE 13 hG (by kernel_rfl) (fun _ _ _ h=>by cases h.1) rfl ?_;intro o ho K hK;simp at ho;subst ho;gi_big_quiet_op;go_big_quiet_on
        refine Go.zqE 14 hG (by kernel_rfl) (fun _ _ _ h=>by cases h.1) rfl ?_;intro o ho K hK;simp at ho;subst ho;gi_big_quiet_op;go_big_quiet_on
        refine Go.ztE 15 (by kernel_rfl) (fun _ _ _ h=>by cases h.1) ?_;intro o ho;simp at ho;subst ho;refine⟨_,yC_max rfl rfl hm2.out,?_⟩;simp only [Go.Act.put,List.setIfInBounds_toArray,List.set_cons_succ,List.set_cons_zero]
        refine Go.zqE 16 hG (by kernel_rfl) (fun _ _ _ h=>by cases h.1) rfl ?_;intro o ho K hK;simp at ho;subst ho;gi_big_quiet_op;go_big_quiet_on
        refine Go.zqE 17 hG (by kernel_rfl) (fun _ _ _ h=>by cases h.1) rfl ?_;intro o ho K hK;simp at ho;subst ho;gi_big_quiet_op;go_big_quiet_on
        clear r0 r1 hG hG' hN a0 a1 za0 za1
        have hcs:=own_cell2 HOW.out
        rw [hl1] at hcs
        obtain⟨a0,a1,za0,za1⟩:=hcs
        have hownZ:=own_set2 (q:=(x,x)) HOW.out
        rw [hl1] at hownZ
        refine Go.zoE 18 (by kernel_rfl) rfl ?_ ?_;rotate_left;intro o ho K hK;simp at ho;subst ho
        gi_wp2_with fail
        refine wpAnyZ_done (by kernel_rfl) (fun h=>absurd h (by decide)) ⟨rfl,?_⟩
        ·have nZ:Nx w3 ((V.setCell ⟨B3,t * 2,none⟩ (num x)).setCell ⟨B3,t * 2+1,none⟩ (num x)):=Nx.set (Nx.set (nX.trans n1) (by omega)) (by omega)
         have HZ:=Lib.hid hownZ
         generalize (V.setCell ⟨B3,t * 2,none⟩ (num x)).setCell ⟨B3,t * 2+1,none⟩ (num x)=W20 at nZ HZ ⊢
         clear a0 a1 za0 za1
         gi_wp2
         refine⟨⟨t+1,by omega,by simp,nZ,?_⟩,by simp [intOf];omega⟩
         rw [← HNX.out]
         exact HZ.out
        all_goals (intro _;first | exact n1 | contradiction)
       | some D =>
        obtain rfl:fb=true:=HFB.out.symm
        have hp:D[t]?=some (D[t]'(by rw [HDL.out D rfl];exact hlt2)):=List.getElem?_eq_getElem _
        generalize D[t]'(by rw [HDL.out D rfl];exact hlt2)=p at hp
        have hO:(rowD (some D) n)[t]?=some p:=hp
        rw [cut_row hO] at hown
        have hT:=tgt_some hHX.out hp
        obtain⟨z1,hz1⟩:∃ z,(if x<p.1 then x else p.1)=z:=⟨_,rfl⟩
        obtain⟨z2,hz2⟩:∃ z,(if p.2<x then x else p.2)=z:=⟨_,rfl⟩
        rw [hz1,hz2] at hT
        have HNX:=Lib.hid (cut_next (O:=rowD (some D) n) hT)
        have hm1:=Lib.hid hz1
        have hm2:=Lib.hid hz2
        have hownX:=Lib.hid hown
        clear hz1 hz2 hT hO hp hown
        gi_upto_region 20 with fail
        clear caW axW
        have hcs:=own_cell2 hownX.out
        rw [hl1] at hcs
        obtain⟨a0,a1,za0,za1⟩:=hcs
        have hbX:B3<WJ.heap.size:=by obtain⟨o,ho,_⟩:=cells_of_cell a0;exact lt_row ho
        gi_upto_region 20 with fail
        refine wpIn_region_Zn (Nx WJ) 18 (by kernel_rfl) ?_
        obtain⟨Z,G,hN,hG,hG'⟩:=class_par (C:=Nx WJ) (x:=WJ) (Nx.refl _)
        have r0:=fun z=>((hG' z).cell (p:=⟨B3,t * 2,none⟩) hbX).trans a0
        have r1:=fun z=>((hG' z).cell (p:=⟨B3,t * 2+1,none⟩) hbX).trans a1
        change Go.wpAnyZ _ _ _ _ _ _ _ _ 19 #[false,false,false,false,false,false,false,false,false,false,false,false,false,false,false,false,false,false,false] _ _
        obtain⟨n1,s1⟩:Nx WJ WJ.drew∧WJ.drew.heap.size=WJ.heap.size:=⟨Nx.drew (Nx.refl WJ),rfl⟩
        have HOW:=Lib.hid (own_nx hownX.out n1)
        generalize WJ.drew=V at n1 s1 HOW ⊢
        refine Go.zqE 0 hG (by kernel_rfl) (fun _ _ _ h=>by cases h.1) rfl ?_;intro o ho K hK;simp at ho;subst ho;gi_big_quiet_op;go_big_quiet_on
        refine Go.zqE 1 hG (by kernel_rfl) (fun _ _ _ h=>by cases h.1) rfl ?_;intro o ho K hK;simp at ho;subst ho;gi_big_quiet_op;go_big_quiet_on
        refine Go.zqE 2 hG (by kernel_rfl) (fun _ _ _ h=>by cases h.1) rfl ?_;intro o ho K hK;simp at ho;subst ho;gi_big_quiet_op;go_big_quiet_on
        refine Go.zqE 3 hG (by kernel_rfl) (fun _ _ _ h=>by cases h.1) rfl ?_;intro o ho K hK;simp at ho;subst ho;gi_big_quiet_op;go_big_quiet_on
        refine Go.zqE 4 hG (by kernel_rfl) (fun _ _ _ h=>by cases h.1) rfl ?_;intro o ho K hK;simp at ho;subst ho;gi_big_quiet_op;go_big_quiet_on
        refine Go.zqE 5 hG (by kernel_rfl) (fun _ _ _ h=>by cases h.1) rfl ?_;intro o ho K hK;simp at ho;subst ho;gi_big_quiet_op;go_big_quiet_on
        refine Go.zqE 6 hG (by kernel_rfl) (fun _ _ _ h=>by cases h.1) rfl ?_;intro o ho K hK;simp at ho;subst ho;gi_big_quiet_op;go_big_quiet_on
        refine Go.zqE 7 hG (by kernel_rfl) (fun _ _ _ h=>by cases h.1) rfl ?_;intro o ho K hK;simp at ho;subst ho;gi_big_quiet_op;go_big_quiet_on
        refine Go.ztE 8 (by kernel_rfl) (fun _ _ _ h=>by cases h.1) ?_;intro o ho;simp at ho;subst ho;refine⟨_,yC_min rfl rfl hm1.out,?_⟩;simp only [Go.Act.put,List.setIfInBounds_toArray,List.set_cons_succ,List.set_cons_zero]
        refine Go.zqE 9 hG (by kernel_rfl) (fun _ _ _ h=>by cases h.1) rfl ?_;intro o ho K hK;simp at ho;subst ho;gi_big_quiet_op;go_big_quiet_on
        refine Go.zqE 10 hG (by kernel_rfl) (fun _ _ _ h=>by cases h.1) rfl ?_;intro o ho K hK;simp at ho;subst ho;gi_big_quiet_op;go_big_quiet_on
        refine Go.zqE 11 hG (by kernel_rfl) (fun _ _ _ h=>by cases h.1) rfl ?_;intro o ho K hK;simp at ho;subst ho;gi_big_quiet_op;go_big_quiet_on
        refine Go.zqE 12 hG (by kernel_rfl) (fun _ _ _ h=>by cases h.1) rfl ?_;intro o ho K hK;simp at ho;subst ho;gi_big_quiet_op;go_big_quiet_on
        refine Go.zqE 13 hG (by kernel_rfl) (fun _ _ _ h=>by cases h.1) rfl ?_;intro o ho K hK;simp at ho;subst ho;gi_big_quiet_op;go_big_quiet_on
        refine Go.zqE 14 hG (by kernel_rfl) (fun _ _ _ h=>by cases h.1) rfl ?_;intro o ho K hK;simp at ho;subst ho;gi_big_quiet_op;go_big_quiet_on
        refine Go.ztE 15 (by kernel_rfl) (fun _ _ _ h=>by cases h.1) ?_;intro o ho;simp at ho;subst ho;refine⟨_,yC_max rfl rfl hm2.out,?_⟩;simp only [Go.Act.put,List.setIfInBounds_toArray,List.set_cons_succ,List.set_cons_zero]
        refine Go.zqE 16 hG (by kernel_rfl) (fun _ _ _ h=>by cases h.1) rfl ?_;intro o ho K hK;simp at ho;subst ho;gi_big_quiet_op;go_big_quiet_on
        refine Go.zqE 17 hG (by kernel_rfl) (fun _ _ _ h=>by cases h.1) rfl ?_;intro o ho K hK;simp at ho;subst ho;gi_big_quiet_op;go_big_quiet_on
        clear r0 r1 hG hG' hN a0 a1 za0 za1
        have hcs:=own_cell2 HOW.out
        rw [hl1] at hcs
        obtain⟨a0,a1,za0,za1⟩:=hcs
        have hownZ:=own_set2 (q:=(z1,z2)) HOW.out
        rw [hl1] at hownZ
        refine Go.zoE 18 (by kernel_rfl) rfl ?_ ?_;rotate_left;intro o ho K hK;simp at ho;subst ho
        gi_wp2_with fail
        refine wpAnyZ_done (by kernel_rfl) (fun h=>absurd h (by decide)) ⟨rfl,?_⟩
        ·have nZ:Nx w3 ((V.setCell ⟨B3,t * 2,none⟩ (num z1)).setCell ⟨B3,t * 2+1,none⟩ (num z2)):=Nx.set (Nx.set (nX.trans n1) (by omega)) (by omega)
         have HZ:=Lib.hid hownZ
         generalize (V.setCell ⟨B3,t * 2,none⟩ (num z1)).setCell ⟨B3,t * 2+1,none⟩ (num z2)=W20 at nZ HZ ⊢
         clear a0 a1 za0 za1
         gi_wp2
         refine⟨⟨t+1,by omega,by simp,nZ,?_⟩,by simp [intOf];omega⟩
         rw [← HNX.out]
         exact HZ.out
        all_goals (intro _;first | exact n1 | contradiction)
      ·obtain rfl:t=n:=by omega
       have hfin:(tgtD st a).take t++(rowD st t).drop t=tgtD st a:=by
        rw [List.take_of_length_le (by rw [HTL.out];exact Nat.le_refl _),List.drop_eq_nil_of_le,List.append_nil]
        cases st with
        | none=>simp [rowD]
        | some D=>exact Nat.le_of_eq (HDL.out D rfl)
       rw [hfin] at hown
       have HO7:=Lib.hid hown
       clear hown hfin
       gi_wp2
       refine⟨⟨k+1,hlt,by simp,by rw [HS1.out];rfl,nX,?_,?_⟩,by simp [intOf];omega⟩
       ·rw [HS1.out];exact HO7.out
       ·rw [HS1.out];intro D h;cases h;exact HTL.out
    all_goals (intro _;first | exact n1 | exact n15 | exact n16 | contradiction)
   all_goals (intro _;first | exact n1 | exact n15)
  ·obtain rfl:k=M.length:=by omega
   rw [List.take_length] at *
   have HRR:Hid (g=dampsGo (dampsS d plan seen M)):=HR
   generalize dampsS d plan seen M=st at *
   have HOW:=Lib.hid hown
   clear c0 c1 c2 c3 c4 c5 c6 hown
   cases st with
   | none =>
    gi_wp2
    refine bodyPost_ret (v:=.tuple #[.slice none 0 0,num 9]) (by simp [results,Try.results31,go_sem]) rfl ⟨.slice none 0 0,by rw [HRR.out]<;>rfl,nw3.trans nr,?_⟩
    rw [HRR.out]
    exact⟨0,.inl ⟨rfl,rfl⟩⟩
   | some D =>
    have HDD:=Lib.hid (hDl D rfl)
    gi_wp2
    refine bodyPost_ret (v:=.tuple #[.slice (some ⟨B3,0,none⟩) n n,num 0]) (by simp [results,Try.results31,go_sem]) rfl ⟨.slice (some ⟨B3,0,none⟩) n n,by rw [HRR.out]<;>rfl,nw3.trans nr,?_⟩
    rw [HRR.out]
    exact own_sl (n:=n) (fun y hy=>by obtain⟨s,_,rfl⟩:=List.mem_map.1 hy;rfl) (by rw [List.length_map];exact HDD.out) HOW.out
end Go.Proofs.Ytedomogjmhommaa
