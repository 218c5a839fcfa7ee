import Derived.Test.YtolholkjeehamaaDoorC42
import Derived.Test.YtolholkjeehamaaDoorC39
import Derived.Test.YtolholkjeehamaaDoorC40
set_option linter.all false
set_option maxRecDepth 100000
set_option maxHeartbeats 4000000
namespace Go.Proofs.YtolholkjeehamaaDoor
open Go.RowKit
theorem max0_if (a b:Int):(if a<b then b-a else 0)=max 0 (b-a):=by omega
theorem sumS_app (f:Int→Int):∀ (l r:List Int),sumS f (l++r)=sumS f l+sumS f r
 | [],r=>by simp [sumS]
 | x :: l,r=>by
  have:=sumS_app f l r
  simp only [List.cons_append,sumS]
  omega
theorem sumS_rev (f:Int→Int):∀ l:List Int,sumS f l.reverse=sumS f l
 | []=>rfl
 | x :: l=>by
  rw [List.reverse_cons,sumS_app,sumS_rev f l]
  simp only [sumS]
  omega
theorem chg_keys (d:Dit):d.chgK d.cs.length=d.keys.reverse:=by
 have h1:∀ (cs:List Int) (ks:List Int),cs.foldl addL ks.reverse=(cs.foldl keyC ks).reverse:=by
  intro cs
  induction cs with
  | nil=>intro ks;rfl
  | cons c cs ih =>
   intro ks
   rw [List.foldl_cons,List.foldl_cons,← ih]
   congr 1
   unfold addL keyC
   by_cases h:c∈ks
   ·rw [if_pos (by simpa using h),if_pos h]
   ·rw [if_neg (by simpa using h),if_neg h,List.reverse_cons]
 have h2:∀ (l:List (Int×Int×Int)) (ks:List Int),keysOf ks l=(l.map (·.1)).foldl keyC ks:=by
  intro l ks
  unfold keysOf
  rw [List.foldl_map]
 unfold Dit.chgK Dit.keys
 rw [List.take_length,h2,h2,← List.foldl_append]
 exact h1 _ []
theorem chg_sum (d:Dit) (f:Int→Int):sumS f (d.chgK d.cs.length)=sumS f d.keys:=by rw [chg_keys,sumS_rev]
theorem add_eq {d:Dit} (hO:d.Ok) (holder hours c:Int):partTo d.ends (d.oth c) holder (min d.cyc (max 0 (hours-c * d.cyc))) d.turns.length-partTo d.ends d.us holder (min d.cyc (max 0 (hours-c * d.cyc))) d.turns.length=addS d.ends d.cyc d.us d.oth holder hours c:=by
 have hT:=hO.cyc_pos
 have hl:d.us.length=d.turns.length:=by simp [Dit.us]
 unfold addS
 rw [hl]
 by_cases h:hours-c * d.cyc > 0
 ·rw [if_pos (by omega),show max 0 (hours-c * d.cyc)=hours-c * d.cyc by omega]
 ·rw [if_neg (by omega),part_le0 hO (by omega) _ (Nat.le_refl _),part_le0 hO (by omega) _ (Nat.le_refl _)];rfl
theorem first91_any (d:Dit) (r:Rows6) (holder hours:Int) (w:World) (hd:DitSl w d r) (hO:d.Ok) (hh:0≤hours∧hours≤100000000000000) :
  CallsIn FL 0 Tryd.prog 91 #[d.val r,num holder,num hours] w fun e w'=>e=.returned (num (d.had holder hours))∧Nx w w':=by
 obtain⟨W,hW,n0,hWs,cW⟩:=boxed w d r
 have nWW:Nx W W:=Below.refl _ _
 have hdW:=hd.nx n0
 have hul:d.us.length=d.turns.length:=by simp [Dit.us]
 have hT:=hO.cyc.size
 have hcp:=hO.cyc_pos
 have hk44:=cycle44_any d r W hdW hO
 have k102:=fun (c:Int) (x:World) (hx:Nx W x)=>holders102_any d r c x (hdW.nx hx) hO
 have k110:=fun (x:World) (hx:Nx W x)=>changed110_any d r x (hdW.nx hx) hO
 have k109:=fun (v:Value) (l:List Int) (h:Int) (x:World) (hx:Nx W x) (hv:Sl x v 1 (l.map fun x=>[num x])) (hl:l.length=d.turns.length) (hh:0≤h∧h≤1000000000000000)=>part109_any d r v l holder h x (hdW.nx hx) hO hv hl hh
 have hothl:∀ c,(d.oth c).length=d.turns.length:=fun c=>by unfold Dit.oth;rw [oth3_len,oth2_len];exact hul
 have huo:d.oth (-1)=d.us:=oth_us (neg_keys hO)
 have hpb:=fun (l:List Int) (h:Int)=>partTo_bd (l:=l) (holder:=holder) (hours:=h) hO.cyc.bd d.turns.length hO.cyc.few.2
 have hfew:=hO.chg.few
 have hcs:∀ c∈d.chgK d.cs.length,0≤c∧c≤999999999:=fun c hc=>hO.chg.bd c (by rw [chg_keys] at hc;simpa using hc)
 have hcl:(d.chgK d.cs.length).length≤16:=by rw [chg_keys,List.length_reverse];exact hfew
 have hsum:=chg_sum d (addS d.ends d.cyc d.us d.oth holder hours)
 have hadde:=add_eq hO holder hours
 have hab:=fun c=>add_bd (ends:=d.ends) (long:=d.cyc) (usual:=d.us) (oth:=d.oth) (holder:=holder) (hours:=hours) hO.cyc.bd (by rw [hul];exact hO.cyc.few.2) c
 have ht12:=hO.t12
 have hHad:d.had holder hours=hours.tdiv d.cyc * partTo d.ends d.us holder d.cyc d.turns.length+partTo d.ends d.us holder (hours.tmod d.cyc) d.turns.length+sumS (addS d.ends d.cyc d.us d.oth holder hours) (d.chgK d.cs.length):=by
  rw [hsum];unfold Dit.had hadS;rw [hul]
 generalize hLd:d.chgK d.cs.length=Ld at *
 generalize hAd:addS d.ends d.cyc d.us d.oth holder hours=ad at *
 obtain⟨c0,c1,c2,c3,c4,c5,c6,c7,c8,c9,c10,c11,c12,c13⟩:=cells14 (cW _ nWW)
 have HCW:=Lib.hid cW
 have HKK:=Lib.hid k109
 have HK2:=Lib.hid k102
 have HK0:=Lib.hid k110
 have HPB:=Lib.hid hpb
 have HCS:=Lib.hid hcs
 have HHad:=Lib.hid hHad
 have HAE:=Lib.hid hadde
 have HAB:=Lib.hid hab
 have HUO:=Lib.hid huo
 have HOL:=Lib.hid hothl
 have HLD:=Lib.hid hLd
 have HAD:=Lib.hid hAd
 clear cW k109 k102 k110 hpb hcs hHad hadde hab huo hothl hsum hO hd hdW hLd hAd
 gi_enter Tryd.func91,Tryd.ntmps91
 gi_upto_region 3 with (first
  | (gi_at_call 44;refine CallsIn.mono hk44 ?_;rintro e w1 ⟨rfl,n1⟩;obtain⟨c0,c1,c2,c3,c4,c5,c6,c7,c8,c9,c10,c11,c12,c13⟩:=cells14 (HCW.out _ n1))
  | (gi_at_call 102;refine CallsIn.mono (HK2.out (-1) _ (by assumption)) ?_;rintro e Wu ⟨ug,ucap,rfl,n2,husl⟩)
  | gi_in)
 rw [HUO.out] at husl
 have nu:Nx W Wu:=Nx.trans n1 n2
 clear n1 n2 c0 c1 c2 c3 c4 c5 c6 c7 c8 c9 c10 c11 c12 c13
 have cWu:=fun (x:World) (hx:Nx Wu x)=>HCW.out x (Nx.trans nu hx)
 have hmodb:0≤hours.tmod d.cyc∧hours.tmod d.cyc<d.cyc:=by
  rw [Int.tmod_eq_emod_of_nonneg hh.1]
  exact⟨Int.emod_nonneg _ (by omega),Int.emod_lt_of_pos _ hcp⟩
 have hq : -9223372036854775808≤hours.tdiv d.cyc∧hours.tdiv d.cyc≤9223372036854775807:=by
  have:=tdiv_abs hours d.cyc
  omega
 have hr : -9223372036854775808≤hours.tmod d.cyc∧hours.tmod d.cyc≤9223372036854775807:=by omega
 have kL:=fun (x:World) (hx:Nx Wu x)=>(HKK.out (.slice (some ⟨ug,0,none⟩) d.turns.length ucap) d.us d.cyc x (Nx.trans nu hx) (husl.nx hx) hul (by omega)).mono fun e w' ⟨p,q⟩=>(⟨p,Nx.trans hx q⟩:_∧Nx Wu w')
 have kR:=fun (x:World) (hx:Nx Wu x)=>(HKK.out (.slice (some ⟨ug,0,none⟩) d.turns.length ucap) d.us (hours.tmod d.cyc) x (Nx.trans nu hx) (husl.nx hx) hul (by omega)).mono fun e w' ⟨p,q⟩=>(⟨p,Nx.trans hx q⟩:_∧Nx Wu w')
 have bL:=HPB.out d.us d.cyc
 have bR:=HPB.out d.us (hours.tmod d.cyc)
 have hH:=HHad.out
 generalize partTo d.ends d.us holder d.cyc d.turns.length=PL at kL bL hH
 generalize partTo d.ends d.us holder (hours.tmod d.cyc) d.turns.length=PR at kR bR hH
 have hmulb:(hours.tdiv d.cyc * PL).natAbs≤100000000000000 * 14400:=mul_abs (Nat.le_trans (tdiv_abs _ _) (by omega)) (by omega)
 have hmul : -9223372036854775808≤hours.tdiv d.cyc * PL∧hours.tdiv d.cyc * PL≤9223372036854775807:=by omega
 have hadd : -9223372036854775808≤hours.tdiv d.cyc * PL+PR∧hours.tdiv d.cyc * PL+PR≤9223372036854775807:=by omega
 have nd3:Nx Wu Wu.drew:=Below.drew (Below.refl _ _)
 refine wpIn_region_C (fun x=>Nx Wu x) (by kernel_rfl) ?_
 change wpAnyC _ _ _ _ _ _ _ 18 #[false,false,false,false,false,false,false,false,false,false,false,false,false,false,false,false,false,false] _ _
 refine wpAnyC_takeR (i:=0) (oi:=⟨some 17,.move (.tmp 2),_,_,_,none⟩) (v:=num hours) (plain_ops (by kernel_rfl)) rfl (by kernel_rfl) (by kernel_rfl) (by kernel_rfl) (fun _ _ _ h=>h) (yC_move rfl) ?_
 simp only [Act.put,List.setIfInBounds_toArray,List.set_cons_succ,List.set_cons_zero]
 refine wpAnyC_as (l':=#[true,false,false,false,false,false,false,false,false,false,false,false,false,false,false,false,false,false]) rfl ?_
 refine wpAnyC_takeR (i:=1) (oi:=⟨some 18,.move (.tmp 7),_,_,_,none⟩) (v:=num d.cyc) (plain_ops (by kernel_rfl)) rfl (by kernel_rfl) (by kernel_rfl) (by kernel_rfl) (fun _ _ _ h=>h) (yC_move rfl) ?_
 simp only [Act.put,List.setIfInBounds_toArray,List.set_cons_succ,List.set_cons_zero]
 refine wpAnyC_as (l':=#[true,true,false,false,false,false,false,false,false,false,false,false,false,false,false,false,false,false]) rfl ?_
 refine wpAnyC_takeR (i:=2) (oi:=⟨some 19,.binOp .quo 3 (.tmp 17) (.tmp 18) 3,_,_,_,none⟩) (v:=num (hours.tdiv d.cyc)) (plain_ops (by kernel_rfl)) rfl (by kernel_rfl) (by kernel_rfl) (by kernel_rfl) (fun _ _ _ h=>h) (yC_quo rfl rfl hcp hq) ?_
 simp only [Act.put,List.setIfInBounds_toArray,List.set_cons_succ,List.set_cons_zero]
 refine wpAnyC_as (l':=#[true,true,true,false,false,false,false,false,false,false,false,false,false,false,false,false,false,false]) rfl ?_
 refine wpAnyC_takeR (i:=3) (oi:=⟨some 20,.load 31 (.tmp 3),_,_,_,none⟩) (v:=d.val r) (plain_ops (by kernel_rfl)) rfl (by kernel_rfl) (by kernel_rfl) (by kernel_rfl) (fun _ _ _ h=>h) (yC_dit rfl (fun x hx=>cWu x hx)) ?_
 simp only [Act.put,List.setIfInBounds_toArray,List.set_cons_succ,List.set_cons_zero]
 refine wpAnyC_as (l':=#[true,true,true,true,false,false,false,false,false,false,false,false,false,false,false,false,false,false]) rfl ?_
 refine wpAnyC_takeR (i:=4) (oi:=⟨some 21,.move (.tmp 8),_,_,_,none⟩) (v:=.slice (some ⟨ug,0,none⟩) d.turns.length ucap) (plain_ops (by kernel_rfl)) rfl (by kernel_rfl) (by kernel_rfl) (by kernel_rfl) (fun _ _ _ h=>h) (yC_move rfl) ?_
 simp only [Act.put,List.setIfInBounds_toArray,List.set_cons_succ,List.set_cons_zero]
 refine wpAnyC_as (l':=#[true,true,true,true,true,false,false,false,false,false,false,false,false,false,false,false,false,false]) rfl ?_
 refine wpAnyC_takeR (i:=5) (oi:=⟨some 22,.move (.tmp 1),_,_,_,none⟩) (v:=num holder) (plain_ops (by kernel_rfl)) rfl (by kernel_rfl) (by kernel_rfl) (by kernel_rfl) (fun _ _ _ h=>h) (yC_move rfl) ?_
 simp only [Act.put,List.setIfInBounds_toArray,List.set_cons_succ,List.set_cons_zero]
 refine wpAnyC_as (l':=#[true,true,true,true,true,true,false,false,false,false,false,false,false,false,false,false,false,false]) rfl ?_
 refine wpAnyC_takeR (i:=6) (oi:=⟨some 23,.move (.tmp 7),_,_,_,none⟩) (v:=num d.cyc) (plain_ops (by kernel_rfl)) rfl (by kernel_rfl) (by kernel_rfl) (by kernel_rfl) (fun _ _ _ h=>h) (yC_move rfl) ?_
 simp only [Act.put,List.setIfInBounds_toArray,List.set_cons_succ,List.set_cons_zero]
 refine wpAnyC_as (l':=#[true,true,true,true,true,true,true,false,false,false,false,false,false,false,false,false,false,false]) rfl ?_
 refine wpAnyC_takeR (i:=9) (oi:=⟨some 26,.load 31 (.tmp 3),_,_,_,none⟩) (v:=d.val r) (plain_ops (by kernel_rfl)) rfl (by kernel_rfl) (by kernel_rfl) (by kernel_rfl) (fun _ _ _ h=>h) (yC_dit rfl (fun x hx=>cWu x hx)) ?_
 simp only [Act.put,List.setIfInBounds_toArray,List.set_cons_succ,List.set_cons_zero]
 refine wpAnyC_as (l':=#[true,true,true,true,true,true,true,false,false,true,false,false,false,false,false,false,false,false]) rfl ?_
 refine wpAnyC_takeR (i:=10) (oi:=⟨some 27,.move (.tmp 8),_,_,_,none⟩) (v:=.slice (some ⟨ug,0,none⟩) d.turns.length ucap) (plain_ops (by kernel_rfl)) rfl (by kernel_rfl) (by kernel_rfl) (by kernel_rfl) (fun _ _ _ h=>h) (yC_move rfl) ?_
 simp only [Act.put,List.setIfInBounds_toArray,List.set_cons_succ,List.set_cons_zero]
 refine wpAnyC_as (l':=#[true,true,true,true,true,true,true,false,false,true,true,false,false,false,false,false,false,false]) rfl ?_
 refine wpAnyC_takeR (i:=11) (oi:=⟨some 28,.move (.tmp 1),_,_,_,none⟩) (v:=num holder) (plain_ops (by kernel_rfl)) rfl (by kernel_rfl) (by kernel_rfl) (by kernel_rfl) (fun _ _ _ h=>h) (yC_move rfl) ?_
 simp only [Act.put,List.setIfInBounds_toArray,List.set_cons_succ,List.set_cons_zero]
 refine wpAnyC_as (l':=#[true,true,true,true,true,true,true,false,false,true,true,true,false,false,false,false,false,false]) rfl ?_
 refine wpAnyC_takeR (i:=12) (oi:=⟨some 29,.move (.tmp 2),_,_,_,none⟩) (v:=num hours) (plain_ops (by kernel_rfl)) rfl (by kernel_rfl) (by kernel_rfl) (by kernel_rfl) (fun _ _ _ h=>h) (yC_move rfl) ?_
 simp only [Act.put,List.setIfInBounds_toArray,List.set_cons_succ,List.set_cons_zero]
 refine wpAnyC_as (l':=#[true,true,true,true,true,true,true,false,false,true,true,true,true,false,false,false,false,false]) rfl ?_
 refine wpAnyC_takeR (i:=13) (oi:=⟨some 30,.move (.tmp 7),_,_,_,none⟩) (v:=num d.cyc) (plain_ops (by kernel_rfl)) rfl (by kernel_rfl) (by kernel_rfl) (by kernel_rfl) (fun _ _ _ h=>h) (yC_move rfl) ?_
 simp only [Act.put,List.setIfInBounds_toArray,List.set_cons_succ,List.set_cons_zero]
 refine wpAnyC_as (l':=#[true,true,true,true,true,true,true,false,false,true,true,true,true,true,false,false,false,false]) rfl ?_
 refine wpAnyC_takeR (i:=14) (oi:=⟨some 31,.binOp .rem 3 (.tmp 29) (.tmp 30) 3,_,_,_,none⟩) (v:=num (hours.tmod d.cyc)) (plain_ops (by kernel_rfl)) rfl (by kernel_rfl) (by kernel_rfl) (by kernel_rfl) (fun _ _ _ h=>h) (yC_rem rfl rfl hcp hr) ?_
 simp only [Act.put,List.setIfInBounds_toArray,List.set_cons_succ,List.set_cons_zero]
 refine wpAnyC_as (l':=#[true,true,true,true,true,true,true,false,false,true,true,true,true,true,true,false,false,false]) rfl ?_
 refine wpAnyC_only (i:=7) (o:=⟨some 24,.call { callee:=.value (.func 109),args:=#[.tmp 20,.tmp 21,.tmp 22,.tmp 23],argTypes:=#[31,64,3,3] },_,_,_,none⟩) (by kernel_rfl) rfl rfl (nd3) ?_
 intro K hK
 go_simp
 refine CallsIn.mono (kL _ (nd3)) ?_
 rintro e v7 ⟨rfl,m7⟩
 refine hK _ _ ?_
 refine wpAnyC_as (l':=#[true,true,true,true,true,true,true,true,false,true,true,true,true,true,true,false,false,false]) rfl ?_
 refine wpAnyC_takeR (i:=8) (oi:=⟨some 25,.binOp .mul 3 (.tmp 19) (.tmp 24) 3,_,_,_,none⟩) (v:=num ((hours.tdiv d.cyc) * PL)) (plain_ops (by kernel_rfl)) rfl (by kernel_rfl) (by kernel_rfl) (by kernel_rfl) (fun _ _ _ h=>h) (yC_mul rfl rfl (hmul)) ?_
 simp only [Act.put,List.setIfInBounds_toArray,List.set_cons_succ,List.set_cons_zero]
 refine wpAnyC_as (l':=#[true,true,true,true,true,true,true,true,true,true,true,true,true,true,true,false,false,false]) rfl ?_
 refine wpAnyC_only (i:=15) (o:=⟨some 32,.call { callee:=.value (.func 109),args:=#[.tmp 26,.tmp 27,.tmp 28,.tmp 31],argTypes:=#[31,64,3,3] },_,_,_,none⟩) (by kernel_rfl) rfl rfl (m7) ?_
 intro K hK
 go_simp
 refine CallsIn.mono (kR _ (m7)) ?_
 rintro e v15 ⟨rfl,m15⟩
 refine hK _ _ ?_
 refine wpAnyC_as (l':=#[true,true,true,true,true,true,true,true,true,true,true,true,true,true,true,true,false,false]) rfl ?_
 refine wpAnyC_takeR (i:=16) (oi:=⟨some 33,.binOp .add 3 (.tmp 25) (.tmp 32) 3,_,_,_,none⟩) (v:=num (((hours.tdiv d.cyc) * PL)+PR)) (plain_ops (by kernel_rfl)) rfl (by kernel_rfl) (by kernel_rfl) (by kernel_rfl) (fun _ _ _ h=>h) (yC_add rfl rfl (hadd)) ?_
 simp only [Act.put,List.setIfInBounds_toArray,List.set_cons_succ,List.set_cons_zero]
 refine wpAnyC_as (l':=#[true,true,true,true,true,true,true,true,true,true,true,true,true,true,true,true,true,false]) rfl ?_
 refine wpAnyC_takeR (i:=17) (oi:=⟨some 9,.assign (.tmp 33),_,_,_,none⟩) (v:=num (((hours.tdiv d.cyc) * PL)+PR)) (plain_ops (by kernel_rfl)) rfl (by kernel_rfl) (by kernel_rfl) (by kernel_rfl) (fun _ _ _ h=>h) (yC_assign rfl) ?_
 simp only [Act.put,List.setIfInBounds_toArray,List.set_cons_succ,List.set_cons_zero]
 refine wpAnyC_as (l':=#[true,true,true,true,true,true,true,true,true,true,true,true,true,true,true,true,true,true]) rfl ?_
 refine wpAnyC_done (by kernel_rfl) (m15) ?_
 clear kL kR
 have hbase : -1500000000000000000≤hours.tdiv d.cyc * PL+PR∧hours.tdiv d.cyc * PL+PR≤1500000000000000000:=by omega
 generalize hours.tdiv d.cyc * PL+PR=base at hbase hH ⊢
 have HF:=Lib.hid hH
 have hsb:∀ j,j≤Ld.length→(sumS ad (Ld.take j)).natAbs≤14400 * 16:=fun j hj=>by
  have h1:=sumS_bd HAB.out (Ld.take j)
  rw [List.length_take] at h1
  have:14400 * (min j Ld.length)≤14400 * 16:=Nat.mul_le_mul_left _ (by omega)
  omega
 have HSB:=Lib.hid hsb
 clear hH hsb hmul hadd hmulb hq hr
 obtain⟨d0,d1,d2,d3,d4,d5,d6,d7,d8,d9,d10,d11,d12,d13⟩:=cells14 (cWu _ m15)
 have kCh:=HK0.out _ (Nx.trans nu m15)
 have HCU:=Lib.hid cWu
 clear cWu
 gi_wp2_with (first
  | (gi_at_call 110;refine CallsIn.mono kCh ?_;rintro e Wl ⟨lv,rfl,nl,hlv⟩;obtain⟨la,lcap,rfl⟩:=hlv.cases;simp only [List.length_map] at hlv ⊢)
  | gi_in)
 have nWl:=Nx.trans m15 nl
 clear d0 d1 d2 d3 d4 d5 d6 d7 d8 d9 d10 d11 d12 d13 kCh nl
 gi_loopw [9,11] (fun n i wr=>∃ j:Nat,j≤Ld.length∧i=num j∧n=num (base+sumS ad (Ld.take j))∧Nx Wl wr) (fun _ i _=>Ld.length-(intOf i).toNat)
 case atStart=>exact⟨0,Nat.zero_le _,rfl,by simp [sumS],Below.refl _ _⟩
 case round =>
  obtain⟨j,hj,rfl,rfl,n4⟩:=hrel
  by_cases hjl:j<Ld.length
  ·obtain⟨lb,lo,ha,hlb0,hcl2⟩:=hlv.get (by simp;omega)
   subst ha
   have hx:Ld[j]?=some Ld[j]:=List.getElem?_eq_getElem hjl
   have hcb:=HCS.out _ (List.getElem_mem hjl)
   generalize Ld[j]=c at hx hcb
   have q0:=Sl.one hcl2 hx
   have hlb:lb<wr.heap.size:=Nat.lt_of_lt_of_le hlb0 n4.size
   have q1:wr.cell? ⟨lb,lo+j,none⟩=some (num c):=(n4.cell (p:=⟨lb,lo+j,none⟩) (by exact hlb0)).trans q0
   have hst:sumS ad (Ld.take (j+1))=sumS ad (Ld.take j)+ad c:=by
    rw [List.take_add_one,hx,sumS_app];simp [sumS]
   have hb1:=HSB.out j hj
   have hb2:=HSB.out (j+1) hjl
   have hpr:(c * d.cyc).natAbs≤1000000000 * 1200:=mul_abs (by omega) (by omega)
   have hae:=HAE.out c
   have HST:=Lib.hid hst
   have HX:=Lib.hid hx
   have HC2:=Lib.hid hcl2
   have HLV:=Lib.hid hlv
   clear hst hx hcl2 hlv
   generalize hLl:Ld.length=L at *
   generalize hcc:c * d.cyc=cc at *
   gi_upto_region 9 with fail
   simp only [max0_if,min_if]
   have hK0:0≤min d.cyc (max 0 (hours-cc))∧min d.cyc (max 0 (hours-cc))≤1200:=by omega
   have n9:Nx Wu wr:=Nx.trans nWl n4
   generalize wr=W9 at *
   have cW9:=fun (x:World) (hx:Nx W9 x)=>HCU.out x (Nx.trans n9 hx)
   have kH:=fun (x:World) (hx:Nx W9 x)=>(HK2.out c x (Nx.trans nu (Nx.trans n9 hx))).mono fun e w' ⟨g,cap,p,q,s⟩=>(⟨g,cap,p,Nx.trans hx q,s⟩:∃ g cap,e=Ending.returned (.slice (some ⟨g,0,none⟩) d.turns.length cap)∧Nx W9 w'∧Sl w' (.slice (some ⟨g,0,none⟩) d.turns.length cap) 1 ((d.oth c).map fun x=>[num x]))
   have kO:=fun (x:World) (g cap:Nat) (hx:Nx W9 x) (hsl:Sl x (.slice (some ⟨g,0,none⟩) d.turns.length cap) 1 ((d.oth c).map fun x=>[num x]))=>(HKK.out _ (d.oth c) (min d.cyc (max 0 (hours-cc))) x (Nx.trans nu (Nx.trans n9 hx)) hsl (HOL.out c) (by omega)).mono fun e w' ⟨p,q⟩=>(⟨p,Nx.trans hx q⟩:_∧Nx W9 w')
   have kU:=fun (x:World) (hx:Nx W9 x)=>(HKK.out (.slice (some ⟨ug,0,none⟩) d.turns.length ucap) d.us (min d.cyc (max 0 (hours-cc))) x (Nx.trans nu (Nx.trans n9 hx)) (husl.nx (Nx.trans n9 hx)) hul (by omega)).mono fun e w' ⟨p,q⟩=>(⟨p,Nx.trans hx q⟩:_∧Nx W9 w')
   have bO:=HPB.out (d.oth c) (min d.cyc (max 0 (hours-cc)))
   have bU:=HPB.out d.us (min d.cyc (max 0 (hours-cc)))
   generalize min d.cyc (max 0 (hours-cc))=K at *
   generalize partTo d.ends (d.oth c) holder K d.turns.length=PO at kO bO hae
   generalize partTo d.ends d.us holder K d.turns.length=PU at kU bU hae
   have hz : -2000000000000000000≤base+sumS ad (Ld.take j)∧base+sumS ad (Ld.take j)≤2000000000000000000:=by omega
   have hfin:base+sumS ad (Ld.take (j+1))=base+sumS ad (Ld.take j)+PO-PU:=by rw [HST.out,← hae];omega
   generalize base+sumS ad (Ld.take j)=z at hz hfin ⊢
   have nd9:Nx W9 W9.drew:=Below.drew (Below.refl _ _)
   refine wpIn_region_C (fun x=>Nx W9 x) (by kernel_rfl) ?_
   change wpAnyC _ _ _ _ _ _ _ 19 #[false,false,false,false,false,false,false,false,false,false,false,false,false,false,false,false,false,false,false] _ _
   refine wpAnyC_takeR (i:=0) (oi:=⟨some 53,.move (.tmp 9),_,_,_,none⟩) (v:=num z) (plain_ops (by kernel_rfl)) rfl (by kernel_rfl) (by kernel_rfl) (by kernel_rfl) (fun _ _ _ h=>h) (yC_move rfl) ?_
   simp only [Act.put,List.setIfInBounds_toArray,List.set_cons_succ,List.set_cons_zero]
   refine wpAnyC_as (l':=#[true,false,false,false,false,false,false,false,false,false,false,false,false,false,false,false,false,false,false]) rfl ?_
   refine wpAnyC_takeR (i:=1) (oi:=⟨some 54,.load 31 (.tmp 3),_,_,_,none⟩) (v:=d.val r) (plain_ops (by kernel_rfl)) rfl (by kernel_rfl) (by kernel_rfl) (by kernel_rfl) (fun _ _ _ h=>h) (yC_dit rfl (fun x hx=>cW9 x hx)) ?_
   simp only [Act.put,List.setIfInBounds_toArray,List.set_cons_succ,List.set_cons_zero]
   refine wpAnyC_as (l':=#[true,true,false,false,false,false,false,false,false,false,false,false,false,false,false,false,false,false,false]) rfl ?_
   refine wpAnyC_takeR (i:=2) (oi:=⟨some 55,.load 31 (.tmp 3),_,_,_,none⟩) (v:=d.val r) (plain_ops (by kernel_rfl)) rfl (by kernel_rfl) (by kernel_rfl) (by kernel_rfl) (fun _ _ _ h=>h) (yC_dit rfl (fun x hx=>cW9 x hx)) ?_
   simp only [Act.put,List.setIfInBounds_toArray,List.set_cons_succ,List.set_cons_zero]
   refine wpAnyC_as (l':=#[true,true,true,false,false,false,false,false,false,false,false,false,false,false,false,false,false,false,false]) rfl ?_
   refine wpAnyC_takeR (i:=3) (oi:=⟨some 56,.move (.tmp 10),_,_,_,none⟩) (v:=.slice (some ⟨lb,lo,none⟩) L lcap) (plain_ops (by kernel_rfl)) rfl (by kernel_rfl) (by kernel_rfl) (by kernel_rfl) (fun _ _ _ h=>h) (yC_move rfl) ?_
   simp only [Act.put,List.setIfInBounds_toArray,List.set_cons_succ,List.set_cons_zero]
   refine wpAnyC_as (l':=#[true,true,true,true,false,false,false,false,false,false,false,false,false,false,false,false,false,false,false]) rfl ?_
   refine wpAnyC_takeR (i:=4) (oi:=⟨some 57,.move (.tmp 11),_,_,_,none⟩) (v:=num j) (plain_ops (by kernel_rfl)) rfl (by kernel_rfl) (by kernel_rfl) (by kernel_rfl) (fun _ _ _ h=>h) (yC_move rfl) ?_
   simp only [Act.put,List.setIfInBounds_toArray,List.set_cons_succ,List.set_cons_zero]
   refine wpAnyC_as (l':=#[true,true,true,true,true,false,false,false,false,false,false,false,false,false,false,false,false,false,false]) rfl ?_
   refine wpAnyC_takeR (i:=5) (oi:=⟨some 58,.indexAddr 64 (.tmp 56) (.tmp 57),_,_,_,none⟩) (v:=.pointer (some ⟨lb,lo+j,none⟩)) (plain_ops (by kernel_rfl)) rfl (by kernel_rfl) (by kernel_rfl) (by kernel_rfl) (fun _ _ _ h=>h) (yC_index64 rfl rfl (hjl)) ?_
   simp only [Act.put,List.setIfInBounds_toArray,List.set_cons_succ,List.set_cons_zero]
   refine wpAnyC_as (l':=#[true,true,true,true,true,true,false,false,false,false,false,false,false,false,false,false,false,false,false]) rfl ?_
   refine wpAnyC_takeR (i:=6) (oi:=⟨some 59,.load 3 (.tmp 58),_,_,_,none⟩) (v:=num c) (plain_ops (by kernel_rfl)) rfl (by kernel_rfl) (by kernel_rfl) (by kernel_rfl) (fun _ _ _ h=>h) (yC_load3 rfl (fun x hx=>(hx.cell (p:=⟨lb,lo+j,none⟩) (by exact hlb)).trans q1)) ?_
   simp only [Act.put,List.setIfInBounds_toArray,List.set_cons_succ,List.set_cons_zero]
   refine wpAnyC_as (l':=#[true,true,true,true,true,true,true,false,false,false,false,false,false,false,false,false,false,false,false]) rfl ?_
   refine wpAnyC_takeR (i:=8) (oi:=⟨some 61,.move (.tmp 1),_,_,_,none⟩) (v:=num holder) (plain_ops (by kernel_rfl)) rfl (by kernel_rfl) (by kernel_rfl) (by kernel_rfl) (fun _ _ _ h=>h) (yC_move rfl) ?_
   simp only [Act.put,List.setIfInBounds_toArray,List.set_cons_succ,List.set_cons_zero]
   refine wpAnyC_as (l':=#[true,true,true,true,true,true,true,false,true,false,false,false,false,false,false,false,false,false,false]) rfl ?_
   refine wpAnyC_takeR (i:=9) (oi:=⟨some 62,.move (.tmp 12),_,_,_,none⟩) (v:=num K) (plain_ops (by kernel_rfl)) rfl (by kernel_rfl) (by kernel_rfl) (by kernel_rfl) (fun _ _ _ h=>h) (yC_move rfl) ?_
   simp only [Act.put,List.setIfInBounds_toArray,List.set_cons_succ,List.set_cons_zero]
   refine wpAnyC_as (l':=#[true,true,true,true,true,true,true,false,true,true,false,false,false,false,false,false,false,false,false]) rfl ?_
   refine wpAnyC_takeR (i:=12) (oi:=⟨some 65,.load 31 (.tmp 3),_,_,_,none⟩) (v:=d.val r) (plain_ops (by kernel_rfl)) rfl (by kernel_rfl) (by kernel_rfl) (by kernel_rfl) (fun _ _ _ h=>h) (yC_dit rfl (fun x hx=>cW9 x hx)) ?_
   simp only [Act.put,List.setIfInBounds_toArray,List.set_cons_succ,List.set_cons_zero]
   refine wpAnyC_as (l':=#[true,true,true,true,true,true,true,false,true,true,false,false,true,false,false,false,false,false,false]) rfl ?_
   refine wpAnyC_takeR (i:=13) (oi:=⟨some 66,.move (.tmp 8),_,_,_,none⟩) (v:=.slice (some ⟨ug,0,none⟩) d.turns.length ucap) (plain_ops (by kernel_rfl)) rfl (by kernel_rfl) (by kernel_rfl) (by kernel_rfl) (fun _ _ _ h=>h) (yC_move rfl) ?_
   simp only [Act.put,List.setIfInBounds_toArray,List.set_cons_succ,List.set_cons_zero]
   refine wpAnyC_as (l':=#[true,true,true,true,true,true,true,false,true,true,false,false,true,true,false,false,false,false,false]) rfl ?_
   refine wpAnyC_takeR (i:=14) (oi:=⟨some 67,.move (.tmp 1),_,_,_,none⟩) (v:=num holder) (plain_ops (by kernel_rfl)) rfl (by kernel_rfl) (by kernel_rfl) (by kernel_rfl) (fun _ _ _ h=>h) (yC_move rfl) ?_
   simp only [Act.put,List.setIfInBounds_toArray,List.set_cons_succ,List.set_cons_zero]
   refine wpAnyC_as (l':=#[true,true,true,true,true,true,true,false,true,true,false,false,true,true,true,false,false,false,false]) rfl ?_
   refine wpAnyC_takeR (i:=15) (oi:=⟨some 68,.move (.tmp 12),_,_,_,none⟩) (v:=num K) (plain_ops (by kernel_rfl)) rfl (by kernel_rfl) (by kernel_rfl) (by kernel_rfl) (fun _ _ _ h=>h) (yC_move rfl) ?_
   simp only [Act.put,List.setIfInBounds_toArray,List.set_cons_succ,List.set_cons_zero]
   refine wpAnyC_as (l':=#[true,true,true,true,true,true,true,false,true,true,false,false,true,true,true,true,false,false,false]) rfl ?_
   refine wpAnyC_only (i:=7) (o:=⟨some 60,.call { callee:=.value (.func 102),args:=#[.tmp 55,.tmp 59],argTypes:=#[31,3] },_,_,_,none⟩) (by kernel_rfl) rfl rfl (nd9) ?_
   intro K hK
   go_simp
   refine CallsIn.mono (kH _ (nd9)) ?_
   rintro e v7 ⟨g7,cap7,rfl,m7,hs7⟩
   refine hK _ _ ?_
   refine wpAnyC_as (l':=#[true,true,true,true,true,true,true,true,true,true,false,false,true,true,true,true,false,false,false]) rfl ?_
   refine wpAnyC_only (i:=10) (o:=⟨some 63,.call { callee:=.value (.func 109),args:=#[.tmp 54,.tmp 60,.tmp 61,.tmp 62],argTypes:=#[31,64,3,3] },_,_,_,none⟩) (by kernel_rfl) rfl rfl (m7) ?_
   intro K hK
   go_simp
   refine CallsIn.mono (kO _ g7 cap7 (m7) hs7) ?_
   rintro e v10 ⟨rfl,m10⟩
   refine hK _ _ ?_
   refine wpAnyC_as (l':=#[true,true,true,true,true,true,true,true,true,true,true,false,true,true,true,true,false,false,false]) rfl ?_
   refine wpAnyC_takeR (i:=11) (oi:=⟨some 64,.binOp .add 3 (.tmp 53) (.tmp 63) 3,_,_,_,none⟩) (v:=num (z+PO)) (plain_ops (by kernel_rfl)) rfl (by kernel_rfl) (by kernel_rfl) (by kernel_rfl) (fun _ _ _ h=>h) (yC_add rfl rfl (by omega)) ?_
   simp only [Act.put,List.setIfInBounds_toArray,List.set_cons_succ,List.set_cons_zero]
   refine wpAnyC_as (l':=#[true,true,true,true,true,true,true,true,true,true,true,true,true,true,true,true,false,false,false]) rfl ?_
   refine wpAnyC_only (i:=16) (o:=⟨some 69,.call { callee:=.value (.func 109),args:=#[.tmp 65,.tmp 66,.tmp 67,.tmp 68],argTypes:=#[31,64,3,3] },_,_,_,none⟩) (by kernel_rfl) rfl rfl (m10) ?_
   intro K hK
   go_simp
   refine CallsIn.mono (kU _ (m10)) ?_
   rintro e v16 ⟨rfl,m16⟩
   refine hK _ _ ?_
   refine wpAnyC_as (l':=#[true,true,true,true,true,true,true,true,true,true,true,true,true,true,true,true,true,false,false]) rfl ?_
   refine wpAnyC_takeR (i:=17) (oi:=⟨some 70,.binOp .sub 3 (.tmp 64) (.tmp 69) 3,_,_,_,none⟩) (v:=num ((z+PO)-PU)) (plain_ops (by kernel_rfl)) rfl (by kernel_rfl) (by kernel_rfl) (by kernel_rfl) (fun _ _ _ h=>h) (yC_sub rfl rfl (by omega)) ?_
   simp only [Act.put,List.setIfInBounds_toArray,List.set_cons_succ,List.set_cons_zero]
   refine wpAnyC_as (l':=#[true,true,true,true,true,true,true,true,true,true,true,true,true,true,true,true,true,true,false]) rfl ?_
   refine wpAnyC_takeR (i:=18) (oi:=⟨some 9,.assign (.tmp 70),_,_,_,none⟩) (v:=num ((z+PO)-PU)) (plain_ops (by kernel_rfl)) rfl (by kernel_rfl) (by kernel_rfl) (by kernel_rfl) (fun _ _ _ h=>h) (yC_assign rfl) ?_
   simp only [Act.put,List.setIfInBounds_toArray,List.set_cons_succ,List.set_cons_zero]
   refine wpAnyC_as (l':=#[true,true,true,true,true,true,true,true,true,true,true,true,true,true,true,true,true,true,true]) rfl ?_
   refine wpAnyC_done (by kernel_rfl) (m16) ?_
   clear kH kO kU cW9
   gi_wp2
   exact⟨⟨j+1,hjl,by simp,by rw [hfin],Nx.trans n4 m16⟩,by simp [intOf];omega⟩
  ·obtain rfl:j=Ld.length:=by omega
   clear hlv
   gi_wp2
   go_ret
   refine⟨?_,Nx.trans n0 (Nx.trans nu (Nx.trans nWl n4))⟩
   rw [List.take_length]
   exact congrArg (fun x=>Ending.returned (num x)) HF.out.symm
end Go.Proofs.YtolholkjeehamaaDoor
namespace Go.Proofs.YtolholkjeehamaaDoor
open Go.RowKit
theorem running80_any (d:Dit) (r:Rows6) (h:Int) (w:World) (hd:DitSl w d r) (ht:d.Times) (hh : -1000000000000≤h∧h≤1000000000000) :
  CallsIn FL 0 Tryd.prog 80 #[d.val r,num h] w fun e w'=>e=.returned (num (d.ran h))∧Nx w w':=by
 obtain⟨W,hW,n0,hWs,cW⟩:=boxed w d r
 obtain⟨af,cap,ef⟩:=hd.feasts.cases
 rw [List.length_map] at ef
 have hv:=hd.feasts.nx n0
 rw [ef] at hv
 have nWW:Nx W W:=Below.refl _ _
 have c2:∀ x,Nx W x→x.cell? ⟨w.heap.size,2,none⟩=some (num d.begin_):=fun x hx=>cW x hx 2 _ rfl
 have c6:∀ x,Nx W x→x.cell? ⟨w.heap.size,6,none⟩=some (.slice af d.feasts.length cap):=fun x hx=>(cW x hx 6 r.f rfl).trans (by rw [ef])
 have hb0:=ht.begin_
 have hb1 : -1000000000000≤d.begin_∧d.begin_≤1000000000000:=by omega
 have k104:∀ (y:Int) (x:World),-1000000000000≤y∧y≤1000000000000→Nx W x→CallsIn FL 0 Tryd.prog 104 #[d.val r,num y] x fun e w'=>e=.returned (num (restS d.week d.from_ d.long y))∧Nx W w' :=
  fun y x hy hx=>(rests_any d r y x ht hy).mono fun e w' ⟨p,q⟩=>⟨p,Nx.trans hx q⟩
 have rbd:=fun (y:Int) hy=>rest_bd (hour:=y) ht.week ht.from_ ht.long hy
 have f2:=c2 _ nWW
 gi_enter Tryd.func80,Tryd.ntmps80
 by_cases hle:h≤d.begin_
 ·have HZ:=Lib.hid (ran_low hle)
  clear cW hv c2 c6 k104 rbd
  gi_wp2
  go_ret
  exact⟨by rw [HZ.out];rfl,n0⟩
 ·gi_upto_region 3 with fail
  have nd:Nx W W.drew:=Below.drew nWW
  have kA:=fun x hx=>k104 h x hh hx
  have kB:=fun x hx=>k104 d.begin_ x hb1 hx
  have rA:=rbd h hh
  have rB:=rbd d.begin_ hb1
  have H0:=Lib.hid (show d.ranTo h 0=h-d.begin_-(restS d.week d.from_ d.long h-restS d.week d.from_ d.long d.begin_) by rw [d.ranTo_zero];unfold Dit.work workS;rw [if_neg (by omega)];omega)
  generalize restS d.week d.from_ d.long h=Rh at kA rA H0
  generalize restS d.week d.from_ d.long d.begin_=Rb at kB rB H0
  refine wpIn_region_C (fun x=>Nx W x) (by kernel_rfl) ?_
  change wpAnyC _ _ _ _ _ _ _ 14 #[false,false,false,false,false,false,false,false,false,false,false,false,false,false] _ _
  refine wpAnyC_takeR (i:=0) (oi:=⟨some 13,.move (.tmp 1),_,_,_,none⟩) (v:=num h) (plain_ops (by kernel_rfl)) rfl (by kernel_rfl) (by kernel_rfl) (by kernel_rfl) (fun _ _ _ h=>h) (yC_move rfl) ?_
  simp only [Act.put,List.setIfInBounds_toArray,List.set_cons_succ,List.set_cons_zero]
  refine wpAnyC_as (l':=#[true,false,false,false,false,false,false,false,false,false,false,false,false,false]) rfl ?_
  refine wpAnyC_takeR (i:=1) (oi:=⟨some 14,.fieldAddr 31 (.tmp 2) 2,_,_,_,none⟩) (v:=.pointer (some ⟨w.heap.size,2,none⟩)) (plain_ops (by kernel_rfl)) rfl (by kernel_rfl) (by kernel_rfl) (by kernel_rfl) (fun _ _ _ h=>h) (yC_f31_2 rfl) ?_
  simp only [Act.put,List.setIfInBounds_toArray,List.set_cons_succ,List.set_cons_zero]
  refine wpAnyC_as (l':=#[true,true,false,false,false,false,false,false,false,false,false,false,false,false]) rfl ?_
  refine wpAnyC_takeR (i:=2) (oi:=⟨some 15,.load 3 (.tmp 14),_,_,_,none⟩) (v:=num d.begin_) (plain_ops (by kernel_rfl)) rfl (by kernel_rfl) (by kernel_rfl) (by kernel_rfl) (fun _ _ _ h=>h) (yC_load3 rfl (fun x hx=>c2 x hx)) ?_
  simp only [Act.put,List.setIfInBounds_toArray,List.set_cons_succ,List.set_cons_zero]
  refine wpAnyC_as (l':=#[true,true,true,false,false,false,false,false,false,false,false,false,false,false]) rfl ?_
  refine wpAnyC_takeR (i:=3) (oi:=⟨some 16,.binOp .sub 3 (.tmp 13) (.tmp 15) 3,_,_,_,none⟩) (v:=num (h-d.begin_)) (plain_ops (by kernel_rfl)) rfl (by kernel_rfl) (by kernel_rfl) (by kernel_rfl) (fun _ _ _ h=>h) (yC_sub rfl rfl (by omega)) ?_
  simp only [Act.put,List.setIfInBounds_toArray,List.set_cons_succ,List.set_cons_zero]
  refine wpAnyC_as (l':=#[true,true,true,true,false,false,false,false,false,false,false,false,false,false]) rfl ?_
  refine wpAnyC_takeR (i:=4) (oi:=⟨some 17,.load 31 (.tmp 2),_,_,_,none⟩) (v:=d.val r) (plain_ops (by kernel_rfl)) rfl (by kernel_rfl) (by kernel_rfl) (by kernel_rfl) (fun _ _ _ h=>h) (yC_dit rfl (fun x hx=>cW x hx)) ?_
  simp only [Act.put,List.setIfInBounds_toArray,List.set_cons_succ,List.set_cons_zero]
  refine wpAnyC_as (l':=#[true,true,true,true,true,false,false,false,false,false,false,false,false,false]) rfl ?_
  refine wpAnyC_takeR (i:=5) (oi:=⟨some 18,.move (.tmp 1),_,_,_,none⟩) (v:=num h) (plain_ops (by kernel_rfl)) rfl (by kernel_rfl) (by kernel_rfl) (by kernel_rfl) (fun _ _ _ h=>h) (yC_move rfl) ?_
  simp only [Act.put,List.setIfInBounds_toArray,List.set_cons_succ,List.set_cons_zero]
  refine wpAnyC_as (l':=#[true,true,true,true,true,true,false,false,false,false,false,false,false,false]) rfl ?_
  refine wpAnyC_takeR (i:=7) (oi:=⟨some 20,.load 31 (.tmp 2),_,_,_,none⟩) (v:=d.val r) (plain_ops (by kernel_rfl)) rfl (by kernel_rfl) (by kernel_rfl) (by kernel_rfl) (fun _ _ _ h=>h) (yC_dit rfl (fun x hx=>cW x hx)) ?_
  simp only [Act.put,List.setIfInBounds_toArray,List.set_cons_succ,List.set_cons_zero]
  refine wpAnyC_as (l':=#[true,true,true,true,true,true,false,true,false,false,false,false,false,false]) rfl ?_
  refine wpAnyC_takeR (i:=8) (oi:=⟨some 21,.fieldAddr 31 (.tmp 2) 2,_,_,_,none⟩) (v:=.pointer (some ⟨w.heap.size,2,none⟩)) (plain_ops (by kernel_rfl)) rfl (by kernel_rfl) (by kernel_rfl) (by kernel_rfl) (fun _ _ _ h=>h) (yC_f31_2 rfl) ?_
  simp only [Act.put,List.setIfInBounds_toArray,List.set_cons_succ,List.set_cons_zero]
  refine wpAnyC_as (l':=#[true,true,true,true,true,true,false,true,true,false,false,false,false,false]) rfl ?_
  refine wpAnyC_takeR (i:=9) (oi:=⟨some 22,.load 3 (.tmp 21),_,_,_,none⟩) (v:=num d.begin_) (plain_ops (by kernel_rfl)) rfl (by kernel_rfl) (by kernel_rfl) (by kernel_rfl) (fun _ _ _ h=>h) (yC_load3 rfl (fun x hx=>c2 x hx)) ?_
  simp only [Act.put,List.setIfInBounds_toArray,List.set_cons_succ,List.set_cons_zero]
  refine wpAnyC_as (l':=#[true,true,true,true,true,true,false,true,true,true,false,false,false,false]) rfl ?_
  refine wpAnyC_only (i:=6) (o:=⟨some 19,.call { callee:=.value (.func 104),args:=#[.tmp 17,.tmp 18],argTypes:=#[31,3] },_,_,_,none⟩) (by kernel_rfl) rfl rfl (nd) ?_
  intro K hK
  go_simp
  refine CallsIn.mono (kA _ (nd)) ?_
  rintro e v6 ⟨rfl,n6⟩
  refine hK _ _ ?_
  refine wpAnyC_as (l':=#[true,true,true,true,true,true,true,true,true,true,false,false,false,false]) rfl ?_
  refine wpAnyC_only (i:=10) (o:=⟨some 23,.call { callee:=.value (.func 104),args:=#[.tmp 20,.tmp 22],argTypes:=#[31,3] },_,_,_,none⟩) (by kernel_rfl) rfl rfl (n6) ?_
  intro K hK
  go_simp
  refine CallsIn.mono (kB _ (n6)) ?_
  rintro e v10 ⟨rfl,n10⟩
  refine hK _ _ ?_
  refine wpAnyC_as (l':=#[true,true,true,true,true,true,true,true,true,true,true,false,false,false]) rfl ?_
  refine wpAnyC_takeR (i:=11) (oi:=⟨some 24,.binOp .sub 3 (.tmp 19) (.tmp 23) 3,_,_,_,none⟩) (v:=num (Rh-Rb)) (plain_ops (by kernel_rfl)) rfl (by kernel_rfl) (by kernel_rfl) (by kernel_rfl) (fun _ _ _ h=>h) (yC_sub rfl rfl (by omega)) ?_
  simp only [Act.put,List.setIfInBounds_toArray,List.set_cons_succ,List.set_cons_zero]
  refine wpAnyC_as (l':=#[true,true,true,true,true,true,true,true,true,true,true,true,false,false]) rfl ?_
  refine wpAnyC_takeR (i:=12) (oi:=⟨some 25,.binOp .sub 3 (.tmp 16) (.tmp 24) 3,_,_,_,none⟩) (v:=num ((h-d.begin_)-(Rh-Rb))) (plain_ops (by kernel_rfl)) rfl (by kernel_rfl) (by kernel_rfl) (by kernel_rfl) (fun _ _ _ h=>h) (yC_sub rfl rfl (by omega)) ?_
  simp only [Act.put,List.setIfInBounds_toArray,List.set_cons_succ,List.set_cons_zero]
  refine wpAnyC_as (l':=#[true,true,true,true,true,true,true,true,true,true,true,true,true,false]) rfl ?_
  refine wpAnyC_takeR (i:=13) (oi:=⟨some 5,.assign (.tmp 25),_,_,_,none⟩) (v:=num ((h-d.begin_)-(Rh-Rb))) (plain_ops (by kernel_rfl)) rfl (by kernel_rfl) (by kernel_rfl) (by kernel_rfl) (fun _ _ _ h=>h) (yC_assign rfl) ?_
  simp only [Act.put,List.setIfInBounds_toArray,List.set_cons_succ,List.set_cons_zero]
  refine wpAnyC_as (l':=#[true,true,true,true,true,true,true,true,true,true,true,true,true,true]) rfl ?_
  refine wpAnyC_done (by kernel_rfl) (n10) ?_
  clear kA kB f2
  gi_wp2
  gi_loopw [5,6] (fun n i wr=>∃ k:Nat,k≤d.feasts.length∧i=num k∧n=num (d.ranTo h k)∧Nx W wr) (fun _ i _=>d.feasts.length-(intOf i).toNat)
  case atStart=>exact⟨0,Nat.zero_le _,rfl,by rw [H0.out],n10⟩
  case round =>
   obtain⟨k,hk,rfl,rfl,n2⟩:=hrel
   have f2:=c2 _ n2
   have f6:=c6 _ n2
   by_cases hlt:k<d.feasts.length
   ·obtain⟨b,off,ha,hbl,hcl⟩:=hv.get (by simp;omega)
    subst ha
    have hx:d.feasts[k]?=some d.feasts[k]:=List.getElem?_eq_getElem hlt
    have hxb:=ht.feasts d.feasts[k] (List.getElem_mem _)
    generalize d.feasts[k]=x at hx hxb
    obtain⟨x1,x2⟩:=x
    dsimp only at hxb
    obtain⟨g1,g2⟩:=Sl.at2 hcl n2 hbl hx
    have hs:=d.ranTo_succ h hx
    have hbd:=ht.ranTo_bd hh (k+1) hlt
    have hbd0:=ht.ranTo_bd hh k hk
    have hmany:=ht.many
    dsimp only at hs
    have HS:=Lib.hid hs
    have HB:=Lib.hid hbd
    have HB0:=Lib.hid hbd0
    have HC:=Lib.hid hcl
    have HV:=Lib.hid hv
    have HR:=Lib.hid rbd
    have HK:=Lib.hid k104
    have HW:=Lib.hid cW
    have H2:=Lib.hid c2
    clear hs hbd hbd0 hcl hv rbd k104 cW c2 c6 rA rB hx
    gi_upto_region 7 with fail
    gi_big_quiet_th (fail)
    simp only [max_if,min_if]
    have n3:Nx W (wr.drewN nq):=Nx.drewN n2 nq
    generalize wr.drewN nq=W3 at n3 ⊢
    have bA : -1000000000000≤max d.begin_ x1∧max d.begin_ x1≤1000000000000:=by omega
    have bE : -1000000000000≤min h (x2+1)∧min h (x2+1)≤1000000000000:=by omega
    clear f2 f6 g1 g2
    generalize max d.begin_ x1=A at HS bA ⊢
    generalize min h (x2+1)=E at HS bE ⊢
    by_cases hlt2:A<E
    ·gi_upto_region 9 with fail
     have nd9:Nx W W3.drew:=Below.drew n3
     have c2:=H2.out
     have cW:=HW.out
     have kA:=fun x hx=>HK.out A x bA hx
     have kE:=fun x hx=>HK.out E x bE hx
     have rA:=HR.out A bA
     have rE:=HR.out E bE
     have hs:d.ranTo h (k+1)=d.ranTo h k-(E-A-(restS d.week d.from_ d.long E-restS d.week d.from_ d.long A)):=by
      rw [HS.out];unfold Dit.work workS;rw [if_neg (by omega)];omega
     generalize restS d.week d.from_ d.long A=Ra at kA rA hs
     generalize restS d.week d.from_ d.long E=Re at kE rE hs
     have hz:=HB0.out
     generalize d.ranTo h k=z at hs hz ⊢
     refine wpIn_region_C (fun x=>Nx W x) (by kernel_rfl) ?_
     change wpAnyC _ _ _ _ _ _ _ 14 #[false,false,false,false,false,false,false,false,false,false,false,false,false,false] _ _
     refine wpAnyC_takeR (i:=0) (oi:=⟨some 54,.move (.tmp 5),_,_,_,none⟩) (v:=num z) (plain_ops (by kernel_rfl)) rfl (by kernel_rfl) (by kernel_rfl) (by kernel_rfl) (fun _ _ _ h=>h) (yC_move rfl) ?_
     simp only [Act.put,List.setIfInBounds_toArray,List.set_cons_succ,List.set_cons_zero]
     refine wpAnyC_as (l':=#[true,false,false,false,false,false,false,false,false,false,false,false,false,false]) rfl ?_
     refine wpAnyC_takeR (i:=1) (oi:=⟨some 55,.move (.tmp 8),_,_,_,none⟩) (v:=num E) (plain_ops (by kernel_rfl)) rfl (by kernel_rfl) (by kernel_rfl) (by kernel_rfl) (fun _ _ _ h=>h) (yC_move rfl) ?_
     simp only [Act.put,List.setIfInBounds_toArray,List.set_cons_succ,List.set_cons_zero]
     refine wpAnyC_as (l':=#[true,true,false,false,false,false,false,false,false,false,false,false,false,false]) rfl ?_
     refine wpAnyC_takeR (i:=2) (oi:=⟨some 56,.move (.tmp 7),_,_,_,none⟩) (v:=num A) (plain_ops (by kernel_rfl)) rfl (by kernel_rfl) (by kernel_rfl) (by kernel_rfl) (fun _ _ _ h=>h) (yC_move rfl) ?_
     simp only [Act.put,List.setIfInBounds_toArray,List.set_cons_succ,List.set_cons_zero]
     refine wpAnyC_as (l':=#[true,true,true,false,false,false,false,false,false,false,false,false,false,false]) rfl ?_
     refine wpAnyC_takeR (i:=3) (oi:=⟨some 57,.binOp .sub 3 (.tmp 55) (.tmp 56) 3,_,_,_,none⟩) (v:=num (E-A)) (plain_ops (by kernel_rfl)) rfl (by kernel_rfl) (by kernel_rfl) (by kernel_rfl) (fun _ _ _ h=>h) (yC_sub rfl rfl (by omega)) ?_
     simp only [Act.put,List.setIfInBounds_toArray,List.set_cons_succ,List.set_cons_zero]
     refine wpAnyC_as (l':=#[true,true,true,true,false,false,false,false,false,false,false,false,false,false]) rfl ?_
     refine wpAnyC_takeR (i:=4) (oi:=⟨some 58,.load 31 (.tmp 2),_,_,_,none⟩) (v:=d.val r) (plain_ops (by kernel_rfl)) rfl (by kernel_rfl) (by kernel_rfl) (by kernel_rfl) (fun _ _ _ h=>h) (yC_dit rfl (fun x hx=>cW x hx)) ?_
     simp only [Act.put,List.setIfInBounds_toArray,List.set_cons_succ,List.set_cons_zero]
     refine wpAnyC_as (l':=#[true,true,true,true,true,false,false,false,false,false,false,false,false,false]) rfl ?_
     refine wpAnyC_takeR (i:=5) (oi:=⟨some 59,.move (.tmp 8),_,_,_,none⟩) (v:=num E) (plain_ops (by kernel_rfl)) rfl (by kernel_rfl) (by kernel_rfl) (by kernel_rfl) (fun _ _ _ h=>h) (yC_move rfl) ?_
     simp only [Act.put,List.setIfInBounds_toArray,List.set_cons_succ,List.set_cons_zero]
     refine wpAnyC_as (l':=#[true,true,true,true,true,true,false,false,false,false,false,false,false,false]) rfl ?_
     refine wpAnyC_takeR (i:=7) (oi:=⟨some 61,.load 31 (.tmp 2),_,_,_,none⟩) (v:=d.val r) (plain_ops (by kernel_rfl)) rfl (by kernel_rfl) (by kernel_rfl) (by kernel_rfl) (fun _ _ _ h=>h) (yC_dit rfl (fun x hx=>cW x hx)) ?_
     simp only [Act.put,List.setIfInBounds_toArray,List.set_cons_succ,List.set_cons_zero]
     refine wpAnyC_as (l':=#[true,true,true,true,true,true,false,true,false,false,false,false,false,false]) rfl ?_
     refine wpAnyC_takeR (i:=8) (oi:=⟨some 62,.move (.tmp 7),_,_,_,none⟩) (v:=num A) (plain_ops (by kernel_rfl)) rfl (by kernel_rfl) (by kernel_rfl) (by kernel_rfl) (fun _ _ _ h=>h) (yC_move rfl) ?_
     simp only [Act.put,List.setIfInBounds_toArray,List.set_cons_succ,List.set_cons_zero]
     refine wpAnyC_as (l':=#[true,true,true,true,true,true,false,true,true,false,false,false,false,false]) rfl ?_
     refine wpAnyC_only (i:=6) (o:=⟨some 60,.call { callee:=.value (.func 104),args:=#[.tmp 58,.tmp 59],argTypes:=#[31,3] },_,_,_,none⟩) (by kernel_rfl) rfl rfl (nd9) ?_
     intro K hK
     go_simp
     refine CallsIn.mono (kE _ (nd9)) ?_
     rintro e v6 ⟨rfl,m6⟩
     refine hK _ _ ?_
     refine wpAnyC_as (l':=#[true,true,true,true,true,true,true,true,true,false,false,false,false,false]) rfl ?_
     refine wpAnyC_only (i:=9) (o:=⟨some 63,.call { callee:=.value (.func 104),args:=#[.tmp 61,.tmp 62],argTypes:=#[31,3] },_,_,_,none⟩) (by kernel_rfl) rfl rfl (m6) ?_
     intro K hK
     go_simp
     refine CallsIn.mono (kA _ (m6)) ?_
     rintro e v9 ⟨rfl,m9⟩
     refine hK _ _ ?_
     refine wpAnyC_as (l':=#[true,true,true,true,true,true,true,true,true,true,false,false,false,false]) rfl ?_
     refine wpAnyC_takeR (i:=10) (oi:=⟨some 64,.binOp .sub 3 (.tmp 60) (.tmp 63) 3,_,_,_,none⟩) (v:=num (Re-Ra)) (plain_ops (by kernel_rfl)) rfl (by kernel_rfl) (by kernel_rfl) (by kernel_rfl) (fun _ _ _ h=>h) (yC_sub rfl rfl (by omega)) ?_
     simp only [Act.put,List.setIfInBounds_toArray,List.set_cons_succ,List.set_cons_zero]
     refine wpAnyC_as (l':=#[true,true,true,true,true,true,true,true,true,true,true,false,false,false]) rfl ?_
     refine wpAnyC_takeR (i:=11) (oi:=⟨some 65,.binOp .sub 3 (.tmp 57) (.tmp 64) 3,_,_,_,none⟩) (v:=num ((E-A)-(Re-Ra))) (plain_ops (by kernel_rfl)) rfl (by kernel_rfl) (by kernel_rfl) (by kernel_rfl) (fun _ _ _ h=>h) (yC_sub rfl rfl (by omega)) ?_
     simp only [Act.put,List.setIfInBounds_toArray,List.set_cons_succ,List.set_cons_zero]
     refine wpAnyC_as (l':=#[true,true,true,true,true,true,true,true,true,true,true,true,false,false]) rfl ?_
     refine wpAnyC_takeR (i:=12) (oi:=⟨some 66,.binOp .sub 3 (.tmp 54) (.tmp 65) 3,_,_,_,none⟩) (v:=num (z-((E-A)-(Re-Ra)))) (plain_ops (by kernel_rfl)) rfl (by kernel_rfl) (by kernel_rfl) (by kernel_rfl) (fun _ _ _ h=>h) (yC_sub rfl rfl (by omega)) ?_
     simp only [Act.put,List.setIfInBounds_toArray,List.set_cons_succ,List.set_cons_zero]
     refine wpAnyC_as (l':=#[true,true,true,true,true,true,true,true,true,true,true,true,true,false]) rfl ?_
     refine wpAnyC_takeR (i:=13) (oi:=⟨some 5,.assign (.tmp 66),_,_,_,none⟩) (v:=num (z-((E-A)-(Re-Ra)))) (plain_ops (by kernel_rfl)) rfl (by kernel_rfl) (by kernel_rfl) (by kernel_rfl) (fun _ _ _ h=>h) (yC_assign rfl) ?_
     simp only [Act.put,List.setIfInBounds_toArray,List.set_cons_succ,List.set_cons_zero]
     refine wpAnyC_as (l':=#[true,true,true,true,true,true,true,true,true,true,true,true,true,true]) rfl ?_
     refine wpAnyC_done (by kernel_rfl) (m9) ?_
     clear kA kE c2 cW
     gi_wp2
     exact⟨⟨k+1,hlt,by simp,by rw [hs],m9⟩,by simp [intOf];omega⟩
    ·have hs:d.ranTo h (k+1)=d.ranTo h k:=by rw [HS.out];unfold Dit.work workS;rw [if_pos (by omega)];omega
     gi_wp2
     exact⟨⟨k+1,hlt,by simp,by rw [hs],n3⟩,by simp [intOf];omega⟩
   ·obtain rfl:k=d.feasts.length:=by omega
    clear hv rbd k104 cW c2 c6
    gi_wp2
    go_ret
    exact⟨by rw [d.ranTo_all];rfl,Nx.trans n0 n2⟩
end Go.Proofs.YtolholkjeehamaaDoor
