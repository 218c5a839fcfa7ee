import Derived.Test.YtedomogjmhommaaV02
set_option linter.all false
set_option maxRecDepth 100000
set_option maxHeartbeats 8000000
namespace Go.Proofs.Ytedomogjmhommaa
open Go.RowKit Go.Shelf
theorem T138:ElemT 138 104 (.map none) 1 8:=.mk' Try.underlying138 (by kernel_rfl) (by kernel_rfl) (by decide)
theorem made_maps (k:Nat):madeCells (Value.map none).cells k=(List.replicate k (Value.map none)).toArray:=by
 apply Array.ext'
 simp only [madeCells,Value.cells]
 apply List.ext_getElem
 ·simp
 ·intro i h1 h2
  simp [Nat.mod_one]
theorem make138 (n:Nat) (hn:n≤1000) (V:World):(Instr.makeSlice 138 (num n) (num n)).run Try.prog V=.ok (.slice (some ⟨V.heap.size,0,none⟩) n n) (V.alloc (.cells (List.replicate n (Value.map none)).toArray 104)):=by
 obtain⟨i,hi,hz,hs,hby⟩:=T138.info
 have:=run_makeSlice (P:=Try.prog) (w:=V) 138 104 i (.map none) T138.und hi hz .i64 .i64 n n (by omega) (Int.le_refl _) (by rw [hs];simp;omega) (by rw [hby];omega) (by omega)
 rw [Int.toNat_natCast,hs,Nat.mul_one,made_maps] at this
 exact this
theorem row_more {bs:List Nat} {m k:Nat} (hb:bs.length=k) (hk:k<m) (x:Nat):((bs.map fun b=>Value.map (some b))++List.replicate (m-k) (Value.map none)).toArray.setIfInBounds k (.map (some x))=(((bs++[x]).map fun b=>Value.map (some b))++List.replicate (m-(k+1)) (Value.map none)).toArray:=by
 rw [List.setIfInBounds_toArray]
 congr 1
 rw [List.set_append_right _ _ (by simp [hb]),List.length_map,hb,Nat.sub_self,show m-k=(m-(k+1))+1 by omega,List.replicate_succ,List.set_cons_zero,List.map_append,List.append_assoc]
 rfl
theorem row_at {bs:List Nat} {m k:Nat} (hb:bs.length=k) (hk:k<m):((bs.map fun b=>Value.map (some b))++List.replicate (m-k) (Value.map none)).toArray[k]?=some (Value.map none):=by
 rw [List.getElem?_toArray,List.getElem?_append_right (by simp [hb]),List.length_map,hb,Nat.sub_self,show m-k=(m-(k+1))+1 by omega,List.replicate_succ]
 rfl
theorem row_got {bs:List Nat} {m k b:Nat} (hb:bs[k]?=some b):((bs.map fun b=>Value.map (some b))++List.replicate m (Value.map none)).toArray[k]?=some (Value.map (some b)):=by
 have:=(List.getElem?_eq_some_iff.1 hb).1
 rw [List.getElem?_toArray,List.getElem?_append_left (by simpa using this),List.getElem?_map,hb]
 rfl
theorem orF_skip:∀ (xs ys:List Int),(∀ x∈xs,x=0)→orF (xs++ys)=orF ys
 | [],ys,_=>rfl
 | x :: xs,ys,h=>by
  have hx:=h x (List.mem_cons_self ..)
  subst hx
  have ih:=orF_skip xs ys fun y hy=>h y (List.mem_cons_of_mem _ hy)
  simpa [orF] using ih
theorem orF_first {d:Dry} {L:List (List St)} {k q:Nat} {l:List St} {s:St} (hl:L[k]?=some l) (hs:l[q]?=some s) (h1:∀ (j:Nat) (l' : List St) (t:St),j<k→L[j]?=some l'→t∈l'→stF d t=0) (h2:∀ t∈l.take q,stF d t=0) (hne:stF d s≠0):orF ((L.flatten).map (stF d))=stF d s:=by
 have hk:=(List.getElem?_eq_some_iff.1 hl)
 have hq:=(List.getElem?_eq_some_iff.1 hs)
 obtain⟨hk1,hk2⟩:=hk
 obtain⟨hq1,hq2⟩:=hq
 have e1:L=L.take k++l :: L.drop (k+1):=by
  conv=>lhs;rw [← List.take_append_drop k L,List.drop_eq_getElem_cons hk1,hk2]
 have e2:l=l.take q++s :: l.drop (q+1):=by
  conv=>lhs;rw [← List.take_append_drop q l,List.drop_eq_getElem_cons hq1,hq2]
 have e3:L.flatten.map (stF d)=((L.take k).flatten.map (stF d)++(l.take q).map (stF d))++stF d s :: ((l.drop (q+1)).map (stF d)++(L.drop (k+1)).flatten.map (stF d)):=by
  conv=>lhs;rw [e1]
  rw [List.flatten_append,List.flatten_cons,List.map_append,List.map_append]
  conv=>lhs;rw [show l.map (stF d)=(l.take q++s :: l.drop (q+1)).map (stF d) by rw [← e2]]
  simp
 rw [e3,orF_skip]
 ·simp [orF,hne]
 ·intro x hx
  rcases List.mem_append.1 hx with hx | hx
  ·obtain⟨t,ht,rfl⟩:=List.mem_map.1 hx
   obtain⟨l',hl',ht'⟩:=List.mem_flatten.1 ht
   obtain⟨j,hj⟩:=List.mem_iff_getElem?.1 hl'
   have hjk:j<k:=by have:=(List.getElem?_eq_some_iff.1 hj).1;rw [List.length_take] at this;omega
   rw [List.getElem?_take_of_lt hjk] at hj
   exact h1 j l' t hjk hj ht'
  ·obtain⟨t,ht,rfl⟩:=List.mem_map.1 hx
   exact h2 t ht
theorem proves50_any (d:Dry) (r:R2) (u:Value) (L:List (List St)) (w:World) (hd:DrySl w d r) (hS:SetsSl w u L) (hl:L.length≤140737488355328) (hl2:∀ l∈L,l.length≤4000) :
  CallsIn FW 0 Try.prog 50 #[d.val r,u] w fun e w'=>e=.returned (.tuple #[.bool (provesF d L).1,num (provesF d L).2])∧Nx w w':=by
 have k54b:=fun (h:dryF d≠0) (w1:World) (n:Nx w w1)=>open_bad d r w1 (hd.nx n) h
 have k54:=fun (h:dryF d=0) (w1:World) (n:Nx w w1)=>open_ok d r w1 (hd.nx n) h
 have k56:=fun (s:St) (w1:World) (n:Nx w w1)=>state_any d r s w1 (hd.nx n)
 obtain⟨rh,rs⟩:=r
 obtain⟨ha,hcap,hrs⟩:=hd.heats.cases
 dsimp only at hrs
 subst hrs
 obtain⟨sa,scap,hrs⟩:=hd.steps.cases
 dsimp only at hrs
 subst hrs
 rw [List.length_map,List.length_map] at *
 have hsl:=hd.sl
 obtain⟨vs,hv1,hv2,hv3⟩:=hS
 obtain⟨ua,ucap,rfl⟩:=hv1.cases
 rw [List.length_map] at *
 generalize hvl:vs.length=m at *
 subst hv2
 have HV:=Lib.hid hv1
 have HV2:=Lib.hid hvl
 have HV3:=Lib.hid hv3
 have HL2:=Lib.hid hl2
 clear hd hv1 hvl hv3 hl2
 obtain⟨g,hg⟩:∃ g,provesF d L=g:=⟨_,rfl⟩
 rw [hg]
 have HG:=Lib.hid hg
 clear hg
 gi_enter Try.func50,Try.ntmps50
 gi_upto_region 1 with fail
 generalize hU:w.alloc _=U
 obtain⟨nU,hbU⟩:=DBox.of (d:=d) (r:=⟨_,_⟩) hU
 have sU:U.heap.size=w.heap.size+1:=by rw [← hU];simp
 clear hU
 generalize hA:w.heap.size=A at *
 have c0:=hbU.at' 0 _ rfl
 have c1:=hbU.at' 1 _ rfl
 have c2:=hbU.at' 2 _ rfl
 have c3:=hbU.at' 3 _ rfl
 have c4:=hbU.at' 4 _ rfl
 have c5:=hbU.at' 5 _ rfl
 have c6:=hbU.at' 6 _ rfl
 by_cases q0:dryF d=0
 case neg =>
  have HR:Hid (g=(false,dryF d)):=by show _=_;rw [← HG.out];unfold provesF;rw [if_pos q0]
  have b1:(dryF d != 0)=true:=by simpa using q0
  have b2:(dryF d == 0)=false:=beq_false_of_ne q0
  have k54b:=k54b q0
  clear k54
  generalize dryF d=f at *
  gi_wp2_with (first | (gi_at_call 54;refine CallsIn.mono (k54b _ nU) ?_;rintro e w2 ⟨rfl,n2⟩) | gi_in)
  go_ret2
  exact⟨by rw [HR.out]<;>rfl,nU.trans n2⟩
 case pos =>
 have k54:=k54 q0
 clear k54b
 have Q0:=Lib.hid q0
 clear q0
 by_cases q1:L.length=d.steps.length+1
 case neg =>
  have HR:Hid (g=(false,2)):=by show _=_;rw [← HG.out];unfold provesF;rw [if_neg (by rw [Q0.out];simp),if_pos q1]
  have b1:((L.length:Int) != (d.steps.length:Int)+1)=true:=by simp;omega
  have b2:((L.length:Int) == (d.steps.length:Int)+1)=false:=beq_false_of_ne (by omega)
  clear q1
  gi_upto_region 4 with (first | (gi_at_call 54;refine CallsIn.mono (k54 _ nU) ?_;rintro e w2 ⟨B,rfl,n2,hst⟩) | gi_in)
  have c6:=(Kc.nx n2).cell c6
  clear c0 c1 c2 c3 c4 c5
  gi_wp2
  go_ret2
  exact⟨by rw [HR.out]<;>rfl,nU.trans n2⟩
 case pos =>
 have b1:((L.length:Int) != (d.steps.length:Int)+1)=false:=by rw [q1];simp
 have hO:=Lib.hid (dryF_ok Q0.out)
 have hm6:L.length≤6:=by have:=hO.out.s5;omega
 have HG2:Hid (g=if orF ((L.flatten).map (stF d))≠0 then (false,orF ((L.flatten).map (stF d))) else if (List.range d.steps.length).all (leadsAll d L)=true then (inL (L.getD 0 []) d.start,0) else (false,0)):=by
  show _=_;rw [← HG.out];unfold provesF;rw [if_neg (by rw [Q0.out];simp),if_neg (by rw [Decidable.not_not];exact q1)]
 have Q1:=Lib.hid q1
 clear q1
 gi_upto_region 6 with (first | (gi_at_call 54;refine CallsIn.mono (k54 _ nU) ?_;rintro e w2 ⟨B,rfl,n2,hst⟩;replace c6:=(Kc.nx n2).cell c6) | gi_in)
 have nW1:=nU.trans n2
 have hmk:=make138 L.length (by omega)
 have hmm:=@run_makeMap Try.prog
 clear c0 c1 c2 c3 c4 c5 c6 k54 HG
 have hb2:=hbU.nx n2
 have sA:A<w2.heap.size:=hb2.lt
 clear hbU n2 nU sU U
 gi_upto_region 7 with fail
 generalize hWn:w2.alloc _=W
 obtain⟨nW,sW,gG⟩:=al1 hWn
 clear hWn hmk
 generalize hGq:w2.heap.size=G at *
 gi_wp2
 gi_loopw [38] (fun i wr=>∃ (k:Nat) (bs:List Nat),k≤L.length∧i=num k∧bs.length=k∧Nx w2 wr∧wr.heap[G]?=some (.cells ((bs.map fun b=>Value.map (some b))++List.replicate (L.length-k) (Value.map none)).toArray 104 (0,0))∧(∀ (j b:Nat) (l:List St),bs[j]?=some b→L[j]?=some l→G<b∧∃ n,n≤4000∧SetM wr b n (fun t=>inL l t=true))∧∀ (j:Nat) (l:List St) (s:St),j<k→L[j]?=some l→s∈l→stF d s=0) (fun i _=>L.length-(intOf i).toNat)
 case atStart=>exact⟨0,[],Nat.zero_le _,rfl,rfl,nW,by simpa using gG,fun j b l h=>by simp at h,fun j l s h=>absurd h (Nat.not_lt_zero _)⟩
 case round =>
  obtain⟨k,bs,hk,rfl,hbl,nr,gR,hsets,hok⟩:=hrel
  by_cases hlt:k<L.length
  ·have hkv:k<vs.length:=by have:=HV2.out;omega
   have hvk:vs[k]?=some vs[k]:=List.getElem?_eq_getElem hkv
   have hLk:L[k]?=some L[k]:=List.getElem?_eq_getElem hlt
   have hsk:=HV3.out k _ _ hvk hLk
   have hl400:=HL2.out _ (List.mem_of_getElem? hLk)
   obtain⟨b,off,rfl,hbb,hcl⟩:=(HV.out).get (by rw [List.length_map];omega)
   generalize vs[k]=uk at hvk hsk
   generalize hlk:L[k]=l at hLk hsk hl400
   have nwr:=nW1.trans nr
   have e0:wr.cell? ⟨b,off+k,none⟩=some uk:=by
    have:=(nwr.cell (p:=⟨b,off+k * 1+0,none⟩) hbb).trans (hcl k 0 [uk] uk (by simp [hvk]) rfl)
    simpa using this
   obtain⟨la,lcap,rfl⟩:=hsk.cases
   rw [List.length_map] at *
   have HSK:=Lib.hid hsk
   clear hcl hvk hsk
   gi_upto_region 10 with fail
   clear e0
   have hHS:=Lib.hid hsets
   have hHO:=Lib.hid hok
   clear hsets hok
   have sG:G<wr.heap.size:=(Array.getElem?_eq_some_iff.1 gR).1
   have gR1:(wr.alloc (.map #[] 0)).heap[G]?=_:=((alloc_nx (Nx.refl wr) (.map #[] 0)).block G sG).trans gR
   have cR:=row_cell (i:=k) (v:=.map none) gR1 (row_at hbl hlt)
   have zR:=row_frozen (i:=k) gR1
   have gM0:(wr.alloc (.map #[] 0)).heap[wr.heap.size]?=some (.map #[] 0):=(al1 rfl).2.2
   gi_upto_region 11 with fail
   have gRS:=row_set (i:=k) (v:=.map (some wr.heap.size)) gR
   rw [row_more hbl hlt] at gRS
   have nS:=alloc_nx (Nx.refl (wr.setCell ⟨G,k,none⟩ (.map (some wr.heap.size)))) (.map #[] 0)
   have gRY:((wr.setCell ⟨G,k,none⟩ (.map (some wr.heap.size))).alloc (.map #[] 0)).heap[G]?=_:=(nS.block G (by rw [set_size];exact sG)).trans gRS
   have gMY:((wr.setCell ⟨G,k,none⟩ (.map (some wr.heap.size))).alloc (.map #[] 0)).heap[wr.heap.size]?=some (.map #[] 0):=by
    have:=(al1 (w:=wr.setCell ⟨G,k,none⟩ (.map (some wr.heap.size))) (o1:=.map #[] 0) rfl).2.2
    rw [set_size] at this
    exact this
   have nY:Nx w2 ((wr.setCell ⟨G,k,none⟩ (.map (some wr.heap.size))).alloc (.map #[] 0)):=alloc_nx (Nx.set nr (by omega)) _
   have old:∀ p,p<wr.heap.size→p≠G→((wr.setCell ⟨G,k,none⟩ (.map (some wr.heap.size))).alloc (.map #[] 0)).heap[p]?=wr.heap[p]?:=fun p hp hne=>(nS.block p (by rw [set_size];exact hp)).trans (set_other hne)
   have hsY:∀ (j b:Nat) (l:List St),bs[j]?=some b→L[j]?=some l→(G<b∧b<wr.heap.size)∧∃ n,n≤4000∧SetM ((wr.setCell ⟨G,k,none⟩ (.map (some wr.heap.size))).alloc (.map #[] 0)) b n (fun t=>inL l t=true):=fun j b l h1 h2=>by
    obtain⟨h3,n,h4,h5⟩:=hHS.out j b l h1 h2
    exact⟨⟨h3,h5.lt⟩,n,h4,h5.blk (old b h5.lt (by omega))⟩
   generalize hBk:wr.heap.size=Bk at *
   generalize (wr.setCell ⟨G,k,none⟩ (.map (some Bk))).alloc (.map #[] 0)=Y at gRY gMY nY hsY ⊢
   have hM0:SetM Y Bk 0 (fun t=>inL (l.take 0) t=true):=(setM_new gMY).congr fun t=>by simp [inL]
   have HSY:=Lib.hid hsY
   clear cR zR gM0 gR1 old gMY hsY gR hHS nS gRS
   gi_wp2
   gi_loopw [49] (fun i wi=>∃ (q n:Nat),q≤l.length∧i=num q∧Nx w2 wi∧wi.heap[G]?=some (.cells (((bs++[Bk]).map fun b=>Value.map (some b))++List.replicate (L.length-(k+1)) (Value.map none)).toArray 104 (0,0))∧n≤q∧SetM wi Bk n (fun t=>inL (l.take q) t=true)∧(∀ (j b:Nat) (l:List St),bs[j]?=some b→L[j]?=some l→(G<b∧b<Bk)∧∃ n,n≤4000∧SetM wi b n (fun t=>inL l t=true))∧∀ s∈l.take q,stF d s=0) (fun i _=>l.length-(intOf i).toNat)
   case atStart=>exact⟨0,0,Nat.zero_le _,rfl,nY,gRY,Nat.le_refl _,hM0,HSY.out,fun s h=>by simp at h⟩
   case round =>
    obtain⟨q,n,hq,rfl,ni,gi,hn,hMi,hsi,hoi⟩:=hrel
    by_cases hlq:q<l.length
    ·obtain⟨b3,off3,rfl,hb3,hc3⟩:=(HSK.out).get (by rw [List.length_map];omega)
     have hsq:l[q]?=some l[q]:=List.getElem?_eq_getElem hlq
     have htk:l.take (q+1)=l.take q++[l[q]]:=by rw [List.take_succ,hsq];rfl
     generalize l[q]=s at hsq htk
     have nwi:=nW1.trans ni
     have e0:wr.cell? ⟨b3,off3+q * 3,none⟩=some (num s.w):=Sl.at hc3 nwi hb3 hsq 0 (v:=num s.w) rfl
     have e1:wr.cell? ⟨b3,off3+q * 3+1,none⟩=some (num s.c):=Sl.at hc3 nwi hb3 hsq 1 (v:=num s.c) rfl
     have e2:wr.cell? ⟨b3,off3+q * 3+2,none⟩=some (num s.h):=Sl.at hc3 nwi hb3 hsq 2 (v:=num s.h) rfl
     have y1:=(al1 (w:=wr) (o1:=.cells #[num 0,num 0,num 0] 24 (0,0)) rfl).2.2
     have r0:=row_cell (i:=0) y1 rfl
     have r1:=row_cell (i:=1) y1 rfl
     have r2:=row_cell (i:=2) y1 rfl
     have zr0:=row_frozen (i:=0) y1
     have zr1:=row_frozen (i:=1) y1
     have zr2:=row_frozen (i:=2) y1
     have HTK:=Lib.hid htk
     clear htk hc3
     gi_upto_region 14 with fail
     generalize hVn:wr.alloc _=V
     obtain⟨nV,sV,gV⟩:=al1 hVn
     clear hVn y1 r0 r1 r2 zr0 zr1 zr2 e0 e1 e2
     generalize hXb:wr.heap.size=Xb at *
     have t0:V.cell? ⟨Xb,0,none⟩=some (num s.w):=row_cell gV rfl
     have t1:V.cell? ⟨Xb,1,none⟩=some (num s.c):=row_cell gV rfl
     have t2:V.cell? ⟨Xb,2,none⟩=some (num s.h):=row_cell gV rfl
     have hbV:=hb2.nx (ni.trans nV)
     have c0:=hbV.at' 0 _ rfl
     have c1:=hbV.at' 1 _ rfl
     have c2:=hbV.at' 2 _ rfl
     have c3:=hbV.at' 3 _ rfl
     have c4:=hbV.at' 4 _ rfl
     have c5:=hbV.at' 5 _ rfl
     have c6:=hbV.at' 6 _ rfl
     have k56:=k56 s
     have hoF:=fun hne=>orF_first hLk hsq hHO.out hoi hne
     by_cases q2:stF d s=0
     case neg =>
      have HR:Hid (g=(false,stF d s)):=by
       show _=_
       rw [HG2.out,hoF q2,if_pos q2]
      have b2:(stF d s != 0)=true:=by simpa using q2
      clear hoF
      generalize stF d s=f at *
      clear hsi hoi
      gi_wp2_with (first | (gi_at_call 56;refine CallsIn.mono (k56 _ (nwi.trans nV)) ?_;rintro e w4 ⟨rfl,n4⟩) | gi_in)
      go_ret2
      exact⟨by rw [HR.out]<;>rfl,(nwi.trans nV).trans n4⟩
     case pos =>
     rw [q2] at k56
     have hsI:StI s:=(stF_ok.1 q2).i hO.out.h4.2
     have HOI:=Lib.hid hoi
     have HSI:=Lib.hid hsi
     have Q2:=Lib.hid q2
     clear hoF q2 hoi hsi
     gi_upto_region 17 with (first | (gi_at_call 56;refine CallsIn.mono (k56 _ (nwi.trans nV)) ?_;rintro e w4 ⟨rfl,n4⟩) | gi_in)
     have n34:=nV.trans n4
     have sI:G<wr.heap.size:=(Array.getElem?_eq_some_iff.1 gi).1
     have g4:=(n34.block G sI).trans gi
     have hM4:=hMi.blk (n34.block Bk hMi.lt)
     have t0:=(Kc.nx n4).cell t0
     have t1:=(Kc.nx n4).cell t1
     have t2:=(Kc.nx n4).cell t2
     have cG:=row_cell (i:=k) g4 (row_got (by rw [List.getElem?_append_right (by omega),hbl,Nat.sub_self];rfl))
     have lG:G<w4.heap.size:=(Array.getElem?_eq_some_iff.1 g4).1
     have lX:Xb<w4.heap.size:=by have:=n4.size;omega
     have lM:=hM4.lt
     clear c0 c1 c2 c3 c4 c5 c6 k56 hbV gV
     refine wpIn_region_Zn (Nx w4) 5 (by kernel_rfl) ?_
     obtain⟨Z,GG,hN,hG,hG'⟩:=class_par (C:=Nx w4) (x:=w4) (Nx.refl _)
     have r0:=fun z=>((hG' z).cell (p:=⟨G,k,none⟩) lG).trans cG
     have r1:=fun z=>((hG' z).cell (p:=⟨Xb,0,none⟩) lX).trans t0
     have r2:=fun z=>((hG' z).cell (p:=⟨Xb,1,none⟩) lX).trans t1
     have r3:=fun z=>((hG' z).cell (p:=⟨Xb,2,none⟩) lX).trans t2
     change Go.wpAnyZ _ _ _ _ _ _ _ _ 6 #[false,false,false,false,false,false] _ _
     obtain⟨n1,s1⟩:Nx w4 w4.drew∧w4.drew.heap.size=w4.heap.size:=⟨Nx.drew (Nx.refl w4),rfl⟩
     generalize w4.drew=V5 at n1 s1 ⊢
     refine Go.zqE 0 hG (by kernel_rfl) (fun _ _ _ h=>by cases h.1) rfl ?_;intro o ho K hK;simp at ho;subst ho;gi_big_quiet_op;go_big_quiet_on
     refine Go.zqE 1 hG (by kernel_rfl) (fun _ _ _ h=>by cases h.1) rfl ?_;intro o ho K hK;simp at ho;subst ho;gi_big_quiet_op;go_big_quiet_on
     refine Go.zqE 2 hG (by kernel_rfl) (fun _ _ _ h=>by cases h.1) rfl ?_;intro o ho K hK;simp at ho;subst ho;gi_big_quiet_op;go_big_quiet_on
     refine Go.zqE 3 hG (by kernel_rfl) (fun _ _ _ h=>by cases h.1) rfl ?_;intro o ho K hK;simp at ho;subst ho;gi_big_quiet_op;go_big_quiet_on
     refine Go.zqE 4 hG (by kernel_rfl) (fun _ _ _ h=>by cases h.1) rfl ?_;intro o ho K hK;simp at ho;subst ho;gi_big_quiet_op;go_big_quiet_on
     clear r0 r1 r2 r3 hG hG' hN cG t0 t1 t2
     refine Go.zoE 5 (by kernel_rfl) rfl ?_ ?_;rotate_left;intro o ho K hK;simp at ho;subst ho
     have n15:=n34.trans n1
     have hM5:=hMi.blk (n15.block Bk hMi.lt)
     refine wpIn_putS (.inl rfl) _ _ _ 104 rfl Try.underlying104 Bk n _ s rfl rfl rfl hsI hM5 (by unfold maxLen;omega) ?_
     intro w9 hS9 g9
     refine hK _ _ ?_
     simp only [Go.Act.put,List.setIfInBounds_toArray,List.set_cons_succ,List.set_cons_zero]
     refine wpAnyZ_done (by kernel_rfl) (fun h=>absurd h (by decide)) ⟨rfl,?_⟩
     ·have sB:G<Bk:=by omega
      have n9:Nx w2 w9:=Below.grown (ni.trans n15) g9 (ni.trans n15).size (fun g e=>by cases e;omega)
      have hg9:=(g9.block G (by omega) (fun e=>by cases e;omega)).trans ((n15.block G sI).trans gi)
      have hS10:SetM w9 Bk (n+1) (fun t=>inL (l.take (q+1)) t=true):=hS9.congr fun t=>by
       rw [HTK.out,inL_iff,inL_iff,List.mem_append,List.mem_singleton]
      have hs10:∀ (j b:Nat) (l:List St),bs[j]?=some b→L[j]?=some l→(G<b∧b<Bk)∧∃ n,n≤4000∧SetM w9 b n (fun t=>inL l t=true):=fun j b l h1 h2=>by
       obtain⟨h3,m,h4,h5⟩:=HSI.out j b l h1 h2
       exact⟨h3,m,h4,h5.blk ((g9.block b (by have:=h5.lt;have:=n15.size;omega) (fun e=>by cases e;omega)).trans (n15.block b h5.lt))⟩
      have ho10:∀ t∈l.take (q+1),stF d t=0:=fun t ht=>by
       rw [HTK.out] at ht
       rcases List.mem_append.1 ht with ht | ht
       ·exact HOI.out t ht
       ·rw [List.mem_singleton.1 ht];exact Q2.out
      gi_wp2
      exact⟨⟨q+1,n+1,hlq,by simp,n9,hg9,by omega,hS10,hs10,ho10⟩,by simp [intOf];omega⟩
     all_goals (first | exact fun _=>n1 | exact fun h=>absurd h (by decide))
    ·obtain rfl:q=l.length:=by omega
     rw [List.take_length] at hMi hoi
     have hs2:∀ (j b:Nat) (l' : List St),(bs++[Bk])[j]?=some b→L[j]?=some l'→G<b∧∃ n,n≤4000∧SetM wr b n (fun t=>inL l' t=true):=by
      intro j b l' h1 h2
      rcases Nat.lt_or_ge j bs.length with hj | hj
      ·rw [List.getElem?_append_left hj] at h1
       obtain⟨h3,h4⟩:=hsi j b l' h1 h2
       exact⟨h3.1,h4⟩
      ·rw [List.getElem?_append_right hj] at h1
       have hj0:j=k:=by have:=(List.getElem?_eq_some_iff.1 h1).1;simp at this;omega
       rw [hj0,hbl,Nat.sub_self] at h1
       rw [hj0,hLk] at h2
       cases h1
       cases h2
       exact⟨by omega,n,by omega,hMi⟩
     have ho2:∀ (j:Nat) (l' : List St) (s:St),j<k+1→L[j]?=some l'→s∈l'→stF d s=0:=by
      intro j l' t hj h2 ht
      rcases Nat.lt_succ_iff_lt_or_eq.1 hj with hj | hj
      ·exact hHO.out j l' t hj h2 ht
      ·rw [hj,hLk] at h2
       cases h2
       exact hoi t ht
     have HS2:=Lib.hid hs2
     have HO2:=Lib.hid ho2
     clear hs2 ho2 hsi hoi
     gi_wp2
     exact⟨⟨k+1,bs++[Bk],hlt,by simp,by simp [hbl],ni,gi,HS2.out,HO2.out⟩,by simp [intOf];omega⟩
  ·obtain rfl:k=L.length:=by omega
   have hz:orF ((L.flatten).map (stF d))=0:=by
    have:=orF_skip ((L.flatten).map (stF d)) [] (fun x hx=>by
     obtain⟨t,ht,rfl⟩:=List.mem_map.1 hx
     obtain⟨l',hl',ht'⟩:=List.mem_flatten.1 ht
     obtain⟨j,hj⟩:=List.mem_iff_getElem?.1 hl'
     exact hok j l' t (List.getElem?_eq_some_iff.1 hj).1 hj ht')
    rw [List.append_nil] at this
    exact this
   have HG3:Hid (g=if (List.range d.steps.length).all (leadsAll d L)=true then (inL (L.getD 0 []) d.start,0) else (false,0)):=by
    show _=_
    rw [HG2.out,if_neg (by rw [hz];simp)]
   obtain⟨sv,c7,hssl⟩:=(hst.nx nr).stages
   obtain⟨sva,svc,rfl⟩:=hssl.cases
   rw [List.length_map] at c7
   have HS2:=Lib.hid hsets
   have HOK:=Lib.hid hok
   have nr0:=nr
   have hs5:=hO.out.s5
   clear hsets hok hz hssl
   gi_wp2
   clear c7
   generalize wr=wo at *
   gi_loopw [71] (fun i wr=>∃ p:Nat,p≤d.steps.length∧i=num p∧Nx w2 wr∧wr.heap[G]?=some (.cells ((bs.map fun b=>Value.map (some b))++List.replicate (L.length-L.length) (Value.map none)).toArray 104 (0,0))∧(∀ (j b:Nat) (l:List St),bs[j]?=some b→L[j]?=some l→G<b∧∃ n,n≤4000∧SetM wr b n (fun t=>inL l t=true))∧∀ j,j<p→leadsAll d L j=true) (fun i _=>d.steps.length-(intOf i).toNat)
   case atStart=>exact⟨0,Nat.zero_le _,rfl,nr,gR,HS2.out,fun j h=>absurd h (Nat.not_lt_zero _)⟩
   case round =>
    obtain⟨p,hp,rfl,np,gP,hsP,hla⟩:=hrel
    have HLA:=Lib.hid hla
    have HSP:=Lib.hid hsP
    clear hla hsP
    by_cases hpl:p<d.steps.length
    ·have hx:d.steps[p]?=some d.steps[p]:=List.getElem?_eq_getElem hpl
     have hq1:=Q1.out
     have hL1:L[p]?=some (L[p]'(by omega)):=List.getElem?_eq_getElem _
     have hL2:L[p+1]?=some (L[p+1]'(by omega)):=List.getElem?_eq_getElem _
     have hb1:bs[p]?=some (bs[p]'(by omega)):=List.getElem?_eq_getElem _
     have hb2' : bs[p+1]?=some (bs[p+1]'(by omega)):=List.getElem?_eq_getElem _
     obtain⟨hG1,n1,hn1,hM1⟩:=HSP.out _ _ _ hb1 hL1
     obtain⟨hG2,n2,hn2,hM2⟩:=HSP.out _ _ _ hb2' hL2
     have cP:=row_cell (i:=p) gP (row_got hb1)
     have hla1:∀ b:Bool,((L[p]'(by omega)).all fun s=>leadsB d d.steps[p] s (inL (L[p+1]'(by omega))))=b→leadsAll d L p=b:=fun b hb=>by
      unfold leadsAll
      rw [hx,hL1,hL2]
      exact hb
     have HLA1:=Lib.hid hla1
     have hok1:∀ s∈L[p]'(by omega),stF d s=0:=fun s hs=>HOK.out p _ s (by omega) hL1 hs
     have HOK1:=Lib.hid hok1
     clear hla1 hok1
     generalize L[p]'(by omega)=l1 at *
     generalize L[p+1]'(by omega)=l2 at *
     generalize bs[p]'(by omega)=m1 at *
     generalize bs[p+1]'(by omega)=m2 at *
     generalize d.steps[p]=x at *
     have hpL:p<L.length:=by omega
     have hpL1:p+1<L.length:=by omega
     clear hq1
     gi_wp2_with (first | (refine wpListIn_rangeS rfl _ 104 rfl Try.underlying104 m1 n1 (fun t=>inL l1 t=true) rfl hM1 ?_;intro w6 hr6 n6 s6 hc6;simp only [Act.put,List.setIfInBounds_toArray,List.set_cons_succ,List.set_cons_zero]) | gi_in)
     have lG:G<wr.heap.size:=(Array.getElem?_eq_some_iff.1 gP).1
     have l2R:=hM2.lt
     have g6:=(n6.block G lG).trans gP
     have n26:=np.trans n6
     have hM26:=hM2.blk (n6.block m2 l2R)
     have wR:=np.size
     clear cP hM1 hM2
     generalize hRg:wr.heap.size=R at *
     generalize wr=wq at *
     gi_loopw [15] (fun _ wr=>∃ (ys:List St) (cnt:Nat),RgS wr m1 R n1 (fun t=>inL l1 t=true) ys cnt∧But [R] w6 wr∧∀ s∈ys,leadsB d x s (inL l2)=true) (fun _ wr=>wr.rangeLeft m1 R)
     case atStart=>exact⟨[],_,hr6,But.refl _ _,by simp⟩
     case round =>
      obtain⟨ys,cnt,hrg,hbut,hys⟩:=hrel
      have hleft:=Lib.hid hrg.left_eq
      have HYS:=Lib.hid hys
      have hszr:=hbut.size
      clear hys
      gi_wp2_with (first | (refine wpListIn_nextS rfl _ rfl m1 R n1 (fun t=>inL l1 t=true) ys cnt rfl hrg ?_ ?_) | gi_in)
      ·intro hall
       have hall2:leadsAll d L p=true:=HLA1.out true (by
        rw [List.all_eq_true]
        exact fun s hs=>HYS.out s (hall s (inL_iff.2 hs)))
       have HALL:=Lib.hid hall2
       clear hall hall2 hrg
       gi_wp2
       refine⟨⟨p+1,by omega,by simp,But.toNx n26 hbut (by simp;omega),(hbut.block G (by omega) (by simp;omega)).trans g6,?_,?_⟩,by simp [intOf];omega⟩
       ·intro j b l h1 h2
        obtain⟨h3,m,h4,h5⟩:=HSP.out j b l h1 h2
        have hbl5:=h5.lt
        exact⟨h3,m,h4,h5.blk ((hbut.block b (by omega) (by simp;omega)).trans (n6.block b h5.lt))⟩
       ·intro j hj
        rcases Nat.lt_succ_iff_lt_or_eq.1 hj with hj | hj
        ·exact HLA.out j hj
        ·rw [hj];exact HALL.out
      ·intro s v2 w2' cnt' hXs hns hrg2 hlt hg2 hsz2 hen
       have hb3:But [R] w6 w2':=hbut.trans (But.grown hg2 (by simp))
       clear hrg hbut
       gi_upto_region 26 with fail
       generalize hYn:w2'.alloc _=Y
       obtain⟨nY,sY,gY⟩:=al1 hYn
       rw [hsz2] at gY sY
       clear hYn hen
       have hbY:=hb3.trans (But.nx nY:But [R] w2' Y)
       have hrgY:=hrg2.kept (nY.grown none) (by simp) (by simp)
       have gGY:=(hbY.block G (by omega) (by simp;omega)).trans g6
       have hMY:=hM26.blk (hbY.block m2 (by omega) (by simp;omega))
       have nwY:Nx w2 Y:=But.toNx n26 hbY (by simp;omega)
       have hsOk:s.Ok d.heats.length:=stF_ok.1 (HOK1.out s (inL_iff.1 hXs))
       have k87:=fun (w1:World) (n:Nx Y w1)=>leads87_any d hO.out B m2 n2 p x hx s hsOk (inL l2) w1 (hst.nx (nwY.trans n)) (hMY.blk (n.block m2 (by have:=hbY.size;omega)))
       have HLD:=Lib.hid (fun (hb:leadsB d x s (inL l2)=false)=>HLA1.out false (by
        rw [Bool.eq_false_iff]
        intro h
        rw [List.all_eq_true] at h
        have h' : leadsB d x s (inL l2)=true:=h s (inL_iff.1 hXs)
        exact absurd (h'.symm.trans hb) (by decide)))
       clear hrg2 hb3 hg2 hMY hsOk
       have hszT:=hszr
       generalize wr.heap.size=T at *
       have lT:T<Y.heap.size:=by omega
       have lGY:G<Y.heap.size:=by omega
       have u0:Y.cell? ⟨T,0,none⟩=some (num s.w):=row_cell gY rfl
       have u1:Y.cell? ⟨T,1,none⟩=some (num s.c):=row_cell gY rfl
       have u2:Y.cell? ⟨T,2,none⟩=some (num s.h):=row_cell gY rfl
       have u3:=row_cell (i:=p+1) gGY (row_got hb2')
       refine wpIn_region_Zn (Nx Y) 8 (by kernel_rfl) ?_
       obtain⟨Z,GG,hN,hG,hG'⟩:=class_par (C:=Nx Y) (x:=Y) (Nx.refl _)
       have r0:=fun z=>((hG' z).cell (p:=⟨T,0,none⟩) lT).trans u0
       have r1:=fun z=>((hG' z).cell (p:=⟨T,1,none⟩) lT).trans u1
       have r2:=fun z=>((hG' z).cell (p:=⟨T,2,none⟩) lT).trans u2
       have r3:=fun z=>((hG' z).cell (p:=⟨G,p+1,none⟩) lGY).trans u3
       change Go.wpAnyZ _ _ _ _ _ _ _ _ 10 #[false,false,false,false,false,false,false,false,false,false] _ _
       have nd1:Nx Y Y.drew:=Nx.drew (Nx.refl Y)
       generalize Y.drew=V5 at nd1 ⊢
       refine Go.zqE 0 hG (by kernel_rfl) (fun _ _ _ h=>by cases h.1) rfl ?_;intro o ho K hK;simp at ho;subst ho;gi_big_quiet_op;go_big_quiet_on
       refine Go.zqE 1 hG (by kernel_rfl) (fun _ _ _ h=>by cases h.1) rfl ?_;intro o ho K hK;simp at ho;subst ho;gi_big_quiet_op;go_big_quiet_on
       refine Go.zqE 2 hG (by kernel_rfl) (fun _ _ _ h=>by cases h.1) rfl ?_;intro o ho K hK;simp at ho;subst ho;gi_big_quiet_op;go_big_quiet_on
       refine Go.zqE 3 hG (by kernel_rfl) (fun _ _ _ h=>by cases h.1) rfl ?_;intro o ho K hK;simp at ho;subst ho;gi_big_quiet_op;go_big_quiet_on
       refine Go.zqE 4 hG (by kernel_rfl) (fun _ _ _ h=>by cases h.1) rfl ?_;intro o ho K hK;simp at ho;subst ho;gi_big_quiet_op;go_big_quiet_on
       refine Go.zqE 5 hG (by kernel_rfl) (fun _ _ _ h=>by cases h.1) rfl ?_;intro o ho K hK;simp at ho;subst ho;gi_big_quiet_op;go_big_quiet_on
       refine Go.zqE 6 hG (by kernel_rfl) (fun _ _ _ h=>by cases h.1) rfl ?_;intro o ho K hK;simp at ho;subst ho;gi_big_quiet_op;go_big_quiet_on
       refine Go.zqE 7 hG (by kernel_rfl) (fun _ _ _ h=>by cases h.1) rfl ?_;intro o ho K hK;simp at ho;subst ho;gi_big_quiet_op;go_big_quiet_on
       clear r0 r1 r2 r3 hG hG' hN u0 u1 u2 u3
       refine Go.zoE 8 (by kernel_rfl) rfl ?_ ?_;rotate_left;intro o ho K hK;simp at ho;subst ho
       gi_wp2_with (first | (gi_at_call 87;refine CallsIn.mono (k87 _ nd1) ?_;rintro e w8 ⟨rfl,n8⟩) | gi_in)
       generalize hbb:leadsB d x s (inL l2)=bb at *
       refine Go.zoE 9 (by kernel_rfl) rfl ?_ ?_;rotate_left;intro o ho K hK;simp at ho;subst ho
       gi_wp2_with fail
       refine wpAnyZ_done (by kernel_rfl) (fun h=>absurd h (by decide)) ⟨rfl,?_⟩
       ·have n18:=nd1.trans n8
        cases bb with
        | false =>
         have HR:Hid (g=(false,0)):=by
          show _=_
          rw [HG3.out,if_neg]
          rw [List.all_eq_true]
          intro h
          exact absurd ((h p (List.mem_range.2 hpl)).symm.trans (HLD.out rfl)) (by decide)
         gi_wp2
         go_ret2
         exact⟨by rw [HR.out]<;>rfl,nW1.trans (nwY.trans n18)⟩
        | true =>
         have hbF:=hbY.trans (But.nx n18:But [R] Y w8)
         have hrF:=hrgY.kept (n18.grown none) (by simp) (by simp)
         have hml:=hrF.left_eq
         gi_wp2
         exact⟨⟨s :: ys,cnt',hrF,hbF,fun t ht=>by
          rcases List.mem_cons.1 ht with h | h
          ·rw [h];exact hbb
          ·exact HYS.out t h⟩,by rw [hml,hleft.out];exact hlt⟩
       all_goals (first | exact fun _=>nd1 | exact fun h=>absurd h (by decide))
    ·obtain rfl:p=d.steps.length:=by omega
     have hpos:0<L.length:=by have:=Q1.out;omega
     obtain⟨m0,hm0⟩:∃ b,bs[0]?=some b:=⟨_,List.getElem?_eq_getElem (by omega)⟩
     obtain⟨l0,hl0⟩:∃ l,L[0]?=some l:=⟨_,List.getElem?_eq_getElem (by omega)⟩
     have hD:L.getD 0 []=l0:=by rw [List.getD_eq_getElem?_getD,hl0];rfl
     have HR:Hid (g=(inL l0 d.start,0)):=by
      show _=_
      rw [HG3.out,if_pos,hD]
      rw [List.all_eq_true]
      exact fun j hj=>HLA.out j (List.mem_range.1 hj)
     obtain⟨hG0,n0,hn0,hM0⟩:=HSP.out _ _ _ hm0 hl0
     have lG:G<wr.heap.size:=(Array.getElem?_eq_some_iff.1 gP).1
     have cG:=row_cell (i:=0) gP (row_got hm0)
     have hbE:=hb2.nx np
     have c3:=hbE.at' 3 _ rfl
     have c4:=hbE.at' 4 _ rfl
     have c5:=hbE.at' 5 _ rfl
     have lA:=hbE.lt
     have hsI:StI d.start:=(stF_ok.1 hO.out.start).i hO.out.h4.2
     gi_upto_region 29 with fail
     refine wpIn_region_Zn (Nx wr) 5 (by kernel_rfl) ?_
     obtain⟨Z,GG,hN,hG,hG'⟩:=class_par (C:=Nx wr) (x:=wr) (Nx.refl _)
     have r0:=fun z=>((hG' z).cell (p:=⟨G,0,none⟩) lG).trans cG
     have r3:=fun z=>((hG' z).cell (p:=⟨A,3,none⟩) lA).trans c3
     have r4:=fun z=>((hG' z).cell (p:=⟨A,4,none⟩) lA).trans c4
     have r5:=fun z=>((hG' z).cell (p:=⟨A,5,none⟩) lA).trans c5
     change Go.wpAnyZ _ _ _ _ _ _ _ _ 8 #[false,false,false,false,false,false,false,false] _ _
     have nd1:Nx wr wr.drew:=Nx.drew (Nx.refl wr)
     generalize wr.drew=V5 at nd1 ⊢
     refine Go.zqE 0 hG (by kernel_rfl) (fun _ _ _ h=>by cases h.1) rfl ?_;intro o ho K hK;simp at ho;subst ho;gi_big_quiet_op;go_big_quiet_on
     refine Go.zqE 1 hG (by kernel_rfl) (fun _ _ _ h=>by cases h.1) rfl ?_;intro o ho K hK;simp at ho;subst ho;gi_big_quiet_op;go_big_quiet_on
     refine Go.zqE 2 hG (by kernel_rfl) (fun _ _ _ h=>by cases h.1) rfl ?_;intro o ho K hK;simp at ho;subst ho;gi_big_quiet_op;go_big_quiet_on
     refine Go.zqE 3 hG (by kernel_rfl) (fun _ _ _ h=>by cases h.1) rfl ?_;intro o ho K hK;simp at ho;subst ho;gi_big_quiet_op;go_big_quiet_on
     refine Go.zqE 4 hG (by kernel_rfl) (fun _ _ _ h=>by cases h.1) rfl ?_;intro o ho K hK;simp at ho;subst ho;gi_big_quiet_op;go_big_quiet_on
     have hlk:=(hM0.blk (nd1.block m0 hM0.lt)).look hsI
     change (Instr.lookup 104 (.map (some m0)) (.agg #[num d.start.w,num d.start.c,num d.start.h]) false).run Try.prog V5=_ at hlk
     clear hD
     generalize inL l0 d.start=zz at *
     clear r0 r3 r4 r5 hG hG' hN hM0
     refine Go.zoE 5 (by kernel_rfl) rfl ?_ ?_;rotate_left;intro o ho K hK;simp at ho;subst ho
     gi_wp2_with fail
     refine Go.zoE 6 (by kernel_rfl) rfl ?_ ?_;rotate_left;intro o ho K hK;simp at ho;subst ho
     gi_wp2_with fail
     refine Go.zoE 7 (by kernel_rfl) rfl ?_ ?_;rotate_left;intro o ho K hK;simp at ho;subst ho
     gi_wp2_with fail
     refine wpAnyZ_done (by kernel_rfl) (fun h=>absurd h (by decide)) ⟨rfl,?_⟩
     ·gi_wp2
      go_ret2
      exact⟨by rw [HR.out]<;>rfl,nW1.trans (np.trans nd1)⟩
     all_goals (first | exact fun _=>nd1 | exact fun h=>absurd h (by decide))
end Go.Proofs.Ytedomogjmhommaa
