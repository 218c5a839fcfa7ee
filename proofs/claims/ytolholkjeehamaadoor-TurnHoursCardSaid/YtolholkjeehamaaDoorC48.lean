/- For every ditch and any three whole numbers the law TurnHours returns true, does not panic, and leaves the ditch as it was. Conditions: the package's variables hold what the program lays in them at its start (the statement's own word: laid), and the ditch is a value as the statement's card tells it. -/
import Derived.Test.YtolholkjeehamaaDoorC39
import Derived.Test.YtolholkjeehamaaDoorC47
set_option linter.all false
set_option maxRecDepth 100000
set_option maxHeartbeats 4000000
namespace Go.Proofs.YtolholkjeehamaaDoor
open Go.RowKit Go.Con Go.Conc
local instance:Lone:=mainL
noncomputable def body3:Code:=match Tryd.f3.body with | some c=>c | none=>.skip
noncomputable def h0:Code:=seqL body3
noncomputable def hr1:Code:=seqR body3
noncomputable def h1:Code:=seqL (seqL hr1)
noncomputable def h2:Code:=match seqR (seqL hr1) with | .cond _ x _=>seqL x | c=>c
noncomputable def h3:Code:=seqL (seqR hr1)
noncomputable def h4:Code:=seqL (seqR (seqR hr1))
noncomputable def h5:Code:=seqL (seqR (seqR (seqR hr1)))
noncomputable def h7:Code:=seqL (seqR (seqR (seqR (seqR hr1))))
noncomputable def h8:Code:=seqL (seqR (seqR (seqR (seqR (seqR hr1)))))
noncomputable def h9:Code:=seqL (seqR (seqR (seqR (seqR (seqR (seqR hr1))))))
theorem body3_eq:body3=.seq h0 (.seq (.seq h1 (.cond (.tmp 19) (.seq h2 .ret) .skip)) (.seq h3 (.seq h4 (.seq h5 (.seq h7 (.seq h8 (.seq h9 .ret))))))):=by kernel_rfl
theorem body3_of:Tryd.f3.body=some body3:=by kernel_rfl
noncomputable def oph2:Array Oper:=opsOf h2
theorem h2_eq:h2=.region 2 oph2 false:=by kernel_rfl
noncomputable def oph9:Array Oper:=opsOf h9
theorem h9_eq:h9=.region 9 oph9 false:=by kernel_rfl
def HoursR (W:World) (t:Array Value) (W2:World):Prop:=Old W W2∧∃ n1 b1 f1,t.size=77∧t[13]?=some (num n1)∧t[15]?=some (num n1)∧t[14]?=some (.bool b1)∧t[16]?=some (.bool b1)∧t[10]?=some (num f1)∧t[12]?=some (num f1)
theorem hours_lone (d:Dit) (r:Rows6) (holder a b:Int) (W:World) (hd:DitSl W d r) (hb:d.Big) (hg:Glob W) :
  Lones Tryd.prog (FG 3) [h0,h1] (fun t W1=>Old W W1∧t[19]?=some (.bool (greatS d 0))∧t.size=77∧(greatS d 0=false →
   Lones Tryd.prog (FG 3) [h3,h4,h5,h7,h8] (HoursR W) t W1))
   #[d.val r,num holder,num a,num b,undef,undef,undef,undef,undef,undef,undef,undef,undef,undef,undef,undef,undef,undef,undef,undef,undef,undef,undef,undef,undef,undef,undef,undef,undef,undef,undef,undef,undef,undef,undef,undef,undef,undef,undef,undef,undef,undef,undef,undef,undef,undef,undef,undef,undef,undef,undef,undef,undef,undef,undef,undef,undef,undef,undef,undef,undef,undef,undef,undef,undef,undef,undef,undef,undef,undef,undef,undef,undef,undef,undef,undef,undef] W:=by
 intro τ
 generalize hw0:({ W with tape:=τ }:World)=w0
 have hO0:Old W w0:=by rw [← hw0];exact .same rfl
 clear hw0
 have hd0:=hd.old hO0
 obtain⟨V,hV,n0,hVs,cV⟩:=boxed w0 d r
 have nVV:Nx V V:=Below.refl _ _
 simp only [h0,body3,seqL,seqR,Tryd.f3]
 gi_wp2
 intro τ1
 generalize hw1:({ V with tape:=τ1 }:World)=w1
 have hO1:Old V w1:=by rw [← hw1];exact .same rfl
 have hOw:Old W w1:=hO0.trans ((Old.nx n0).trans hO1)
 have cO:∀ w2,Old w1 w2→∀ i v,(d.cellsA r)[i]?=some v→w2.cell? ⟨w0.heap.size,i,none⟩=some v:=fun w2 o i v h=>((hO1.trans o).cell ⟨w0.heap.size,i,none⟩ (by show w0.heap.size<_;omega)).trans (cV _ nVV i v h)
 clear hw1
 simp only [h1,hr1,body3,seqL,seqR,Tryd.f3]
 have k19:=toFG 3 (m:=0) (great_big d r 0 0 (.slice none 0 0) [] w1 (hd.old hOw) hb ⟨0,.inl ⟨rfl,rfl⟩⟩ (Nat.zero_le _))
 obtain⟨c0,c1,c2,c3,c4,c5,c6,c7,c8,c9,c10,c11,c12,c13⟩:=cells14 (cO w1 (Old.refl _))
 have CO:=Lib.hid cO
 have HD:=Lib.hid hd
 have HG:=Lib.hid hg
 have HB:=Lib.hid hb
 clear cO cV hd hg hb hd0 hV n0
 gi_wp2_with (first
  | (gi_at_call 19;refine CallsIn.mono k19 ?_;rintro e w2 ⟨rfl,n2⟩)
  | gi_in)
 have hO2:Old w1 w2:=.nx n2
 refine⟨hOw.trans hO2,rfl,rfl,fun hgr=>?_⟩
 have hs:=small_of_great hgr
 clear hgr k19 c0 c1 c2 c3 c4 c5 c6 c7 c8 c9 c10 c11 c12 c13
 have hO1o:Old w1 w2:=hO2
 intro τ3
 generalize hq3:({ w2 with tape:=τ3 }:World)=u3
 have oA3:Old w1 u3:=hO1o.trans (by rw [← hq3];exact .same rfl)
 clear hq3
 simp only [h3,hr1,body3,seqL,seqR,Tryd.f3]
 have k21:=toFG 3 (m:=0) (hoursP_any d r holder a b u3 (HD.out.old (hOw.trans oA3)) hs (HG.out.old (hOw.trans oA3)))
 obtain⟨c0,c1,c2,c3,c4,c5,c6,c7,c8,c9,c10,c11,c12,c13⟩:=cells14 (CO.out u3 oA3)
 gi_wp2_with (first
  | (gi_at_call 21;refine CallsIn.mono k21 ?_;rintro e v3 ⟨rfl,m3⟩)
  | gi_in)
 clear k21 c0 c1 c2 c3 c4 c5 c6 c7 c8 c9 c10 c11 c12 c13
 have oB3:Old w1 v3:=oA3.trans (.nx m3)
 intro τ4
 generalize hq4:({ v3 with tape:=τ4 }:World)=u4
 have oA4:Old w1 u4:=oB3.trans (by rw [← hq4];exact .same rfl)
 clear hq4
 simp only [h4,hr1,body3,seqL,seqR,Tryd.f3]
 have k22:=toFG 3 (m:=0) (hours22_any d r holder a b u4 (HD.out.old (hOw.trans oA4)) hs)
 obtain⟨c0,c1,c2,c3,c4,c5,c6,c7,c8,c9,c10,c11,c12,c13⟩:=cells14 (CO.out u4 oA4)
 gi_wp2_with (first
  | (gi_at_call 22;refine CallsIn.mono k22 ?_;rintro e v4 ⟨rfl,m4⟩)
  | gi_in)
 clear k22 c0 c1 c2 c3 c4 c5 c6 c7 c8 c9 c10 c11 c12 c13
 have oB4:Old w1 v4:=oA4.trans (.nx m4)
 intro τ5
 generalize hq5:({ v4 with tape:=τ5 }:World)=u5
 have oA5:Old w1 u5:=oB4.trans (by rw [← hq5];exact .same rfl)
 clear hq5
 simp only [h5,hr1,body3,seqL,seqR,Tryd.f3]
 gi_wp2
 intro τ7
 generalize hq7:({ u5 with tape:=τ7 }:World)=u7
 have oA7:Old w1 u7:=oA5.trans (by rw [← hq7];exact .same rfl)
 clear hq7
 simp only [h7,hr1,body3,seqL,seqR,Tryd.f3]
 have k23:=toFG 3 (m:=0) (next_any d r holder a u7 (HD.out.old (hOw.trans oA7)) hs (HG.out.old (hOw.trans oA7)))
 obtain⟨c0,c1,c2,c3,c4,c5,c6,c7,c8,c9,c10,c11,c12,c13⟩:=cells14 (CO.out u7 oA7)
 gi_wp2_with (first
  | (gi_at_call 23;refine CallsIn.mono k23 ?_;rintro e v7 ⟨rfl,m7⟩)
  | gi_in)
 clear k23 c0 c1 c2 c3 c4 c5 c6 c7 c8 c9 c10 c11 c12 c13
 have oB7:Old w1 v7:=oA7.trans (.nx m7)
 intro τ8
 generalize hq8:({ v7 with tape:=τ8 }:World)=u8
 have oA8:Old w1 u8:=oB7.trans (by rw [← hq8];exact .same rfl)
 clear hq8
 simp only [h8,hr1,body3,seqL,seqR,Tryd.f3]
 have k24:=toFG 3 (m:=0) (next24_any d r holder a u8 (HD.out.old (hOw.trans oA8)) hs)
 obtain⟨c0,c1,c2,c3,c4,c5,c6,c7,c8,c9,c10,c11,c12,c13⟩:=cells14 (CO.out u8 oA8)
 gi_wp2_with (first
  | (gi_at_call 24;refine CallsIn.mono k24 ?_;rintro e v8 ⟨rfl,m8⟩)
  | gi_in)
 clear k24 c0 c1 c2 c3 c4 c5 c6 c7 c8 c9 c10 c11 c12 c13
 have oB8:Old w1 v8:=oA8.trans (.nx m8)
 exact (show HoursR W _ _ from ⟨hOw.trans oB8,_,_,_,rfl,rfl,rfl,rfl,rfl,rfl,rfl⟩)
theorem results3 (v:Value) (t:Array Value) (h:t[8]?=some v) (σ:Rn):ResultsC Tryd.prog Tryd.f3 (t.map (ren σ)) (ren σ v):=by
 have:=resultsC_tmp (P:=Tryd.prog) (fn:=Tryd.f3) (t:=8) rfl (t.map (ren σ))
 simp only [Array.getD_eq_getD_getElem?,Array.getElem?_map,h,Option.map_some,Option.getD_some] at this
 exact this
theorem hours_go (E Fz Arg:Nat→Prop) (W0:World) (hArg:∀ x,Arg x↔x<W0.heap.size) (Post:Value→World→Prop) (φ:Ph) (d:Dit) (r:Rows6) (holder a b:Int) (W:World) (hd:DitSl W d r) (hb:d.Big) (hg:Glob W)
  (hPost:∀ Fz1 ρ D own A fr W1 W',Here Tryd.prog true E Fz1 Arg W0 ρ D own A fr [] W1 W'→Post (ren ρ (.bool true)) W') :
  GoM Tryd.prog true E Fz Arg W0 (AtEnd Tryd.prog Post) φ [] (Fr 3 #[d.val r,num holder,num a,num b,undef,undef,undef,undef,undef,undef,undef,undef,undef,undef,undef,undef,undef,undef,undef,undef,undef,undef,undef,undef,undef,undef,undef,undef,undef,undef,undef,undef,undef,undef,undef,undef,undef,undef,undef,undef,undef,undef,undef,undef,undef,undef,undef,undef,undef,undef,undef,undef,undef,undef,undef,undef,undef,undef,undef,undef,undef,undef,undef,undef,undef,undef,undef,undef,undef,undef,undef,undef,undef,undef,undef,undef,undef] [.code body3]) [] W:=by
 have hgood:goodFn Tryd.prog (.func 3)=false:=by kernel_rfl
 have hL:=hours_lone d r holder a b W hd hb hg
 rw [body3_eq]
 refine Gm.seq ?_
 refine Gm.lone (F:=FG 3) _ rfl rfl rfl (List.mem_cons_self ..) (FG_ok 3 hgood) (by kernel_rfl) (by kernel_rfl) hL ?_
 intro t0 V0 hL
 refine Gm.seq (Gm.seq ?_)
 refine Gm.lone (F:=FG 3) _ rfl rfl rfl (List.mem_cons_self ..) (FG_ok 3 hgood) (by kernel_rfl) (by kernel_rfl) hL ?_
 rintro t W1 ⟨hO1,h19,hs,hrest⟩
 cases hgr:greatS d 0 with
 | true =>
  rw [hgr] at h19
  refine Gm.cond (b:=true) (eval_tmp h19) rfl ?_
  refine Gm.seq ?_
  rw [h2_eq]
  refine Gm.region ?_
  rw [show List.range oph2.size=[0,1] by kernel_rfl]
  refine Gm.enter (o:=⟨some 20,.call { callee:=.value (.func 20),args:=#[],argTypes:=#[] },_,_,_,none⟩) (c:={ callee:=.value (.func 20),args:=#[],argTypes:=#[] }) rfl rfl rfl rfl (by kernel_rfl) Tryd.func20 body20_of (by kernel_rfl) ?_
  rw [fr20]
  refine flows_go E _ Arg W0 hArg _ _ _ _ _ (hg.old hO1) ?_
  intro WL FzL φL hOL
  rw [Fr_finish (o:=⟨some 20,.call { callee:=.value (.func 20),args:=#[],argTypes:=#[] },_,_,_,none⟩) rfl]
  refine Gm.op (o:=⟨some 8,.assign (.tmp 20),_,_,_,none⟩) (.bool true) WL rfl rfl (by kernel_rfl) rfl (asg_run _ (eval_tmp (by simp only [putD_get,putD_same,putD_size,hs,ne_eq,Nat.reduceEqDiff,not_false_eq_true,Nat.reduceLT]))) id ?_
  refine Gm.regionEnd ?_
  refine Gm.done Tryd.func3 (by kernel_rfl) (results3 (.bool true) _ (by simp only [putD_get,putD_same,putD_size,hs,ne_eq,Nat.reduceEqDiff,not_false_eq_true,Nat.reduceLT])) ?_
  exact fun ρ D own A fr W' h=>hPost _ ρ D own A fr _ W' h
 | false =>
  rw [hgr] at h19
  refine Gm.cond (b:=false) (eval_tmp h19) rfl ?_
  refine Gm.skip (Gm.seq ?_)
  have hL:=hrest hgr
  refine Gm.lone (F:=FG 3) _ rfl rfl rfl (List.mem_cons_self ..) (FG_ok 3 hgood) (by kernel_rfl) (by kernel_rfl) hL ?_
  clear hL hrest
  intro t3 V3 hL
  refine Gm.seq ?_
  refine Gm.lone (F:=FG 3) _ rfl rfl rfl (List.mem_cons_self ..) (FG_ok 3 hgood) (by kernel_rfl) (by kernel_rfl) hL ?_
  clear hL
  intro t4 V4 hL
  refine Gm.seq ?_
  refine Gm.lone (F:=FG 3) _ rfl rfl rfl (List.mem_cons_self ..) (FG_ok 3 hgood) (by kernel_rfl) (by kernel_rfl) hL ?_
  clear hL
  intro t5 V5 hL
  refine Gm.seq ?_
  refine Gm.lone (F:=FG 3) _ rfl rfl rfl (List.mem_cons_self ..) (FG_ok 3 hgood) (by kernel_rfl) (by kernel_rfl) hL ?_
  clear hL
  intro t6 V6 hL
  refine Gm.seq ?_
  refine Gm.lone (F:=FG 3) _ rfl rfl rfl (List.mem_cons_self ..) (FG_ok 3 hgood) (by kernel_rfl) (by kernel_rfl) hL ?_
  clear hL hs h19 hO1
  rintro t W2 ⟨hO2,n1,b1,f1,hs,k13,k15,k14,k16,k10,k12⟩
  refine Gm.seq ?_
  rw [h9_eq]
  refine Gm.region ?_
  rw [show List.range oph9.size=[0,1,2,3,4,5,6,7,8,9,10,11,12,13,14,15,16] by kernel_rfl]
  refine Gm.op (o:=⟨some 61,.move (.tmp 13),_,_,_,none⟩) (num n1) W2 rfl rfl (by kernel_rfl) rfl (mvg_run _ (eval_tmp (by simp only [putD_get,putD_same,putD_size,hs,k13,k15,k14,k16,k10,k12,ne_eq,Nat.reduceEqDiff,not_false_eq_true,Nat.reduceLT]))) id ?_
  refine Gm.op (o:=⟨some 62,.move (.tmp 15),_,_,_,none⟩) (num n1) W2 rfl rfl (by kernel_rfl) rfl (mvg_run _ (eval_tmp (by simp only [putD_get,putD_same,putD_size,hs,k13,k15,k14,k16,k10,k12,ne_eq,Nat.reduceEqDiff,not_false_eq_true,Nat.reduceLT]))) id ?_
  refine Gm.op (o:=⟨some 63,.binOp .eql 3 (.tmp 61) (.tmp 62) 3,_,_,_,none⟩) (.bool true) W2 rfl rfl (by kernel_rfl) rfl (eq3_run (n:=n1) _ (eval_tmp (by simp only [putD_get,putD_same,putD_size,hs,k13,k15,k14,k16,k10,k12,ne_eq,Nat.reduceEqDiff,not_false_eq_true,Nat.reduceLT])) (eval_tmp (by simp only [putD_get,putD_same,putD_size,hs,k13,k15,k14,k16,k10,k12,ne_eq,Nat.reduceEqDiff,not_false_eq_true,Nat.reduceLT]))) id ?_
  refine Gm.op (o:=⟨some 64,.move (.tmp 63),_,_,_,none⟩) (.bool true) W2 rfl rfl (by kernel_rfl) rfl (mvg_run _ (eval_tmp (by simp only [putD_get,putD_same,putD_size,hs,k13,k15,k14,k16,k10,k12,ne_eq,Nat.reduceEqDiff,not_false_eq_true,Nat.reduceLT]))) id ?_
  refine Gm.op (o:=⟨some 65,.move (.tmp 14),_,_,_,some (3,true)⟩) (.bool b1) W2 rfl (wanted_guard (i:=3) (b:=true) (d:=64) rfl rfl (by simp only [putD_get,putD_same,putD_size,hs,k13,k15,k14,k16,k10,k12,ne_eq,Nat.reduceEqDiff,not_false_eq_true,Nat.reduceLT])) (by kernel_rfl) rfl (mvg_run _ (eval_tmp (by simp only [putD_get,putD_same,putD_size,hs,k13,k15,k14,k16,k10,k12,ne_eq,Nat.reduceEqDiff,not_false_eq_true,Nat.reduceLT]))) id ?_
  refine Gm.op (o:=⟨some 66,.move (.tmp 16),_,_,_,some (3,true)⟩) (.bool b1) W2 rfl (wanted_guard (i:=3) (b:=true) (d:=64) rfl rfl (by simp only [putD_get,putD_same,putD_size,hs,k13,k15,k14,k16,k10,k12,ne_eq,Nat.reduceEqDiff,not_false_eq_true,Nat.reduceLT])) (by kernel_rfl) rfl (mvg_run _ (eval_tmp (by simp only [putD_get,putD_same,putD_size,hs,k13,k15,k14,k16,k10,k12,ne_eq,Nat.reduceEqDiff,not_false_eq_true,Nat.reduceLT]))) id ?_
  refine Gm.op (o:=⟨some 67,.binOp .eql 4 (.tmp 65) (.tmp 66) 4,_,_,_,some (3,true)⟩) (.bool true) W2 rfl (wanted_guard (i:=3) (b:=true) (d:=64) rfl rfl (by simp only [putD_get,putD_same,putD_size,hs,k13,k15,k14,k16,k10,k12,ne_eq,Nat.reduceEqDiff,not_false_eq_true,Nat.reduceLT])) (by kernel_rfl) rfl (eq4_run (n:=b1) _ (eval_tmp (by simp only [putD_get,putD_same,putD_size,hs,k13,k15,k14,k16,k10,k12,ne_eq,Nat.reduceEqDiff,not_false_eq_true,Nat.reduceLT])) (eval_tmp (by simp only [putD_get,putD_same,putD_size,hs,k13,k15,k14,k16,k10,k12,ne_eq,Nat.reduceEqDiff,not_false_eq_true,Nat.reduceLT]))) id ?_
  refine Gm.op (o:=⟨some 68,.pick (.tmp 64) (.tmp 67) (.const (.bool false)),_,_,_,none⟩) (.bool true) W2 rfl rfl (by kernel_rfl) rfl (pick_run _ (eval_tmp (by simp only [putD_get,putD_same,putD_size,hs,k13,k15,k14,k16,k10,k12,ne_eq,Nat.reduceEqDiff,not_false_eq_true,Nat.reduceLT])) (eval_tmp (by simp only [putD_get,putD_same,putD_size,hs,k13,k15,k14,k16,k10,k12,ne_eq,Nat.reduceEqDiff,not_false_eq_true,Nat.reduceLT]))) id ?_
  refine Gm.op (o:=⟨some 69,.move (.tmp 68),_,_,_,none⟩) (.bool true) W2 rfl rfl (by kernel_rfl) rfl (mvg_run _ (eval_tmp (by simp only [putD_get,putD_same,putD_size,hs,k13,k15,k14,k16,k10,k12,ne_eq,Nat.reduceEqDiff,not_false_eq_true,Nat.reduceLT]))) id ?_
  refine Gm.op (o:=⟨some 70,.move (.tmp 10),_,_,_,some (8,true)⟩) (num f1) W2 rfl (wanted_guard (i:=8) (b:=true) (d:=69) rfl rfl (by simp only [putD_get,putD_same,putD_size,hs,k13,k15,k14,k16,k10,k12,ne_eq,Nat.reduceEqDiff,not_false_eq_true,Nat.reduceLT])) (by kernel_rfl) rfl (mvg_run _ (eval_tmp (by simp only [putD_get,putD_same,putD_size,hs,k13,k15,k14,k16,k10,k12,ne_eq,Nat.reduceEqDiff,not_false_eq_true,Nat.reduceLT]))) id ?_
  refine Gm.op (o:=⟨some 71,.move (.tmp 12),_,_,_,some (8,true)⟩) (num f1) W2 rfl (wanted_guard (i:=8) (b:=true) (d:=69) rfl rfl (by simp only [putD_get,putD_same,putD_size,hs,k13,k15,k14,k16,k10,k12,ne_eq,Nat.reduceEqDiff,not_false_eq_true,Nat.reduceLT])) (by kernel_rfl) rfl (mvg_run _ (eval_tmp (by simp only [putD_get,putD_same,putD_size,hs,k13,k15,k14,k16,k10,k12,ne_eq,Nat.reduceEqDiff,not_false_eq_true,Nat.reduceLT]))) id ?_
  refine Gm.op (o:=⟨some 72,.binOp .eql 37 (.tmp 70) (.tmp 71) 37,_,_,_,some (8,true)⟩) (.bool true) W2 rfl (wanted_guard (i:=8) (b:=true) (d:=69) rfl rfl (by simp only [putD_get,putD_same,putD_size,hs,k13,k15,k14,k16,k10,k12,ne_eq,Nat.reduceEqDiff,not_false_eq_true,Nat.reduceLT])) (by kernel_rfl) rfl (eq37_run (n:=f1) _ (eval_tmp (by simp only [putD_get,putD_same,putD_size,hs,k13,k15,k14,k16,k10,k12,ne_eq,Nat.reduceEqDiff,not_false_eq_true,Nat.reduceLT])) (eval_tmp (by simp only [putD_get,putD_same,putD_size,hs,k13,k15,k14,k16,k10,k12,ne_eq,Nat.reduceEqDiff,not_false_eq_true,Nat.reduceLT]))) id ?_
  refine Gm.op (o:=⟨some 73,.pick (.tmp 69) (.tmp 72) (.const (.bool false)),_,_,_,none⟩) (.bool true) W2 rfl rfl (by kernel_rfl) rfl (pick_run _ (eval_tmp (by simp only [putD_get,putD_same,putD_size,hs,k13,k15,k14,k16,k10,k12,ne_eq,Nat.reduceEqDiff,not_false_eq_true,Nat.reduceLT])) (eval_tmp (by simp only [putD_get,putD_same,putD_size,hs,k13,k15,k14,k16,k10,k12,ne_eq,Nat.reduceEqDiff,not_false_eq_true,Nat.reduceLT]))) id ?_
  refine Gm.op (o:=⟨some 74,.move (.tmp 73),_,_,_,none⟩) (.bool true) W2 rfl rfl (by kernel_rfl) rfl (mvg_run _ (eval_tmp (by simp only [putD_get,putD_same,putD_size,hs,k13,k15,k14,k16,k10,k12,ne_eq,Nat.reduceEqDiff,not_false_eq_true,Nat.reduceLT]))) id ?_
  refine Gm.enter (o:=⟨some 75,.call { callee:=.value (.func 20),args:=#[],argTypes:=#[] },_,_,_,some (13,true)⟩) (c:={ callee:=.value (.func 20),args:=#[],argTypes:=#[] }) rfl (wanted_guard (i:=13) (b:=true) (d:=74) rfl rfl (by simp only [putD_get,putD_same,putD_size,hs,k13,k15,k14,k16,k10,k12,ne_eq,Nat.reduceEqDiff,not_false_eq_true,Nat.reduceLT])) rfl rfl (by kernel_rfl) Tryd.func20 body20_of (by kernel_rfl) ?_
  rw [fr20]
  refine flows_go E _ Arg W0 hArg _ _ _ _ _ (hg.old hO2) ?_
  intro WL FzL φL hOL
  rw [Fr_finish (o:=⟨some 75,.call { callee:=.value (.func 20),args:=#[],argTypes:=#[] },_,_,_,some (13,true)⟩) rfl]
  refine Gm.op (o:=⟨some 76,.pick (.tmp 74) (.tmp 75) (.const (.bool false)),_,_,_,none⟩) (.bool true) WL rfl rfl (by kernel_rfl) rfl (pick_run _ (eval_tmp (by simp only [putD_get,putD_same,putD_size,hs,k13,k15,k14,k16,k10,k12,ne_eq,Nat.reduceEqDiff,not_false_eq_true,Nat.reduceLT])) (eval_tmp (by simp only [putD_get,putD_same,putD_size,hs,k13,k15,k14,k16,k10,k12,ne_eq,Nat.reduceEqDiff,not_false_eq_true,Nat.reduceLT]))) id ?_
  refine Gm.op (o:=⟨some 8,.assign (.tmp 76),_,_,_,none⟩) (.bool true) WL rfl rfl (by kernel_rfl) rfl (asg_run _ (eval_tmp (by simp only [putD_get,putD_same,putD_size,hs,k13,k15,k14,k16,k10,k12,ne_eq,Nat.reduceEqDiff,not_false_eq_true,Nat.reduceLT]))) id ?_
  refine Gm.regionEnd ?_
  refine Gm.done Tryd.func3 (by kernel_rfl) (results3 (.bool true) _ (by simp only [putD_get,putD_same,putD_size,hs,k13,k15,k14,k16,k10,k12,ne_eq,Nat.reduceEqDiff,not_false_eq_true,Nat.reduceLT])) ?_
  exact fun ρ D own A fr W' h=>hPost _ ρ D own A fr _ W' h
end Go.Proofs.YtolholkjeehamaaDoor
namespace Go.Proofs.YtolholkjeehamaaDoor
open Go.RowKit Go.Con Go.Conc Go.ChangeShapes Go.WideShapes Go.ChangeAt
local instance:Lone:=mainL
theorem fr3 (a b c d:Value):#[a,b,c,d]++Array.replicate (Tryd.f3.ntmps-(#[a,b,c,d]:Array Value).size) undef=#[a,b,c,d,undef,undef,undef,undef,undef,undef,undef,undef,undef,undef,undef,undef,undef,undef,undef,undef,undef,undef,undef,undef,undef,undef,undef,undef,undef,undef,undef,undef,undef,undef,undef,undef,undef,undef,undef,undef,undef,undef,undef,undef,undef,undef,undef,undef,undef,undef,undef,undef,undef,undef,undef,undef,undef,undef,undef,undef,undef,undef,undef,undef,undef,undef,undef,undef,undef,undef,undef,undef,undef,undef,undef,undef,undef]:=by
 simp only [Tryd.ntmps3,List.size_toArray,List.length_cons,List.length_nil,Nat.reduceAdd,Nat.reduceSub,Array.replicate_succ,Array.replicate_zero,List.push_toArray,List.append_toArray,List.nil_append,List.cons_append]
theorem hours_fin (d:Dit) (r:Rows6) (holder a b:Int) (W:World) (hd:DitSl W d r) (hb:d.Big) (hg:Glob W) :
  Con.Fin Tryd.prog (fun u W'=>u=.bool true∧Con.Left W W') (solo (G (Frame.enter Tryd.prog 3 #[d.val r,num holder,num a,num b] .normal) []) W) #[]:=by
 refine law_fin Tryd.func3 body3_of hg (fun v hv=>?_) fun c Post hPost=>?_
 ·simp only [List.mem_cons,List.not_mem_nil,or_false] at hv
  rcases hv with rfl | rfl | rfl | rfl
  ·exact hd.same
  ·exact Same.num _
  ·exact Same.num _
  ·exact Same.num _
 ·rw [fr3]
  exact hours_go _ _ _ _ (fun _=>Iff.rfl) Post _ d r holder a b _ hd.entry hb hg.entry hPost
theorem hours_lifted (os:Os) (started:os.Started) (H:Type) (enc:TypeId×Value→H) :
  ReturnsInLeavingWide {} Tryd.checked os 3 .any (fun w args=>(Rows.turnHoursSpec.pre enc Tryd.prog Tryd.f3 [] false w args∧laidMetH Tryd.prog laid2 w)∧sizedMet enc Tryd.prog Tryd.f3 (OpenSpec.ofChange Rows.turnHoursSpec) false w args)
   (Rows.turnHoursSpec.post enc Tryd.prog Tryd.f3 false true false false):=by
 refine returnsInLeavingWide_and (C:=Tryd.checked) (X:=fun w _=>laidMetH Tryd.prog laid2 w) (fun _ _ _ hh h=>h.of_heap hh) own_knob started Tryd.func3
  (ChangeSpec.witness_shaped (enc:=enc) (C:=Tryd.checked) (os:=os) (X:=fun w _=>laidMetH Tryd.prog laid2 w) false (World.doorLaid Tryd.prog 600 os)
   #[.agg #[.slice none 0 0,.slice none 0 0,.int .i64 0,.int .i64 0,.int .i64 0,.int .i64 0,.slice none 0 0,.slice none 0 0,.slice none 0 0,.int .i64 0,.int .i64 0,.int .i64 0,.int .i64 0,.slice none 0 0],.int .i64 0,.int .i64 0,.int .i64 0] 8 rfl (World.shaped_of_RefB (by kernel_rfl) (by kernel_rfl)) (by kernel_rfl) (by kernel_rfl) (by kernel_rfl) (door_met os _)) ?_
 intro W base args ds gs before hval0 hW _ hsz hL
 have hval:∀ (j:Nat) t v,Tryd.f3.params[j]?=some t→args[j]?=some v→Value.okWide Tryd.prog W .any base t v:=hval0
 have hW':=hW
 obtain⟨p,q,hA0,hV,rfl,hfz,hnd⟩:=hW
 have hA:DataW.TrodAll enc Tryd.prog W 0 (fun _=>true) true Tryd.f3.params.toList args.toList ds p:=hA0
 rw [Tryd.params3] at hA hval
 obtain⟨v0,v1,v2,v3,d0,d1,d2,d3,p0,p1,p2,p3,rfl,rfl,rfl,h0,h1,h2,h3⟩:=trodAll_four hA
 obtain⟨rfl,rfl⟩:=trodVars_none hV
 obtain⟨x1,rfl,rfl,rfl,w1⟩:=open_int Tryd.underlying3 (hval 1 3 v1 rfl rfl) h1
 obtain⟨x2,rfl,rfl,rfl,w2⟩:=open_int Tryd.underlying3 (hval 2 3 v2 rfl rfl) h2
 obtain⟨x3,rfl,rfl,rfl,w3⟩:=open_int Tryd.underlying3 (hval 3 3 v3 rfl rfl) h3
 have hfit:Fits 31 d0:=fun n hn=>by
  have:=List.all_eq_true.1 hsz n (DataW.weights_mem_each (P:=Tryd.prog) (j:=0) (t:=31) (d:=d0) (by rw [show Tryd.checked.prog=Tryd.prog from rfl,Tryd.params3];rfl) rfl n hn)
  simpa using this
 obtain⟨d,r,rfl,hd,hb⟩:=dit_open (hval 0 31 v0 rfl rfl) h0 hfit
 clear hA0 hval0
 simp only [List.append_nil] at hW'
 have hlt:∀ x∈p0++([]++([]++[])),x.block<W.heap.size:=fun x hx=>by
  have:=hW'.lt x (by simpa using hx)
  simpa using this
 refine fin_post (hours_fin d r x1 x2 x3 W hd hb (of_laid hL)) fun W' hl=>?_
 have ha:=trodAll_mk4 (left_trod (by kernel_rfl) (of_decide_eq_true (by kernel_rfl)) h0 hl fun x hx=>hlt x (by simpa using hx)) (shut_int Tryd.underlying3 w1) (shut_int Tryd.underlying3 w2) (shut_int Tryd.underlying3 w3)
 exact⟨[d0,.lit (.int .i64 x1),.lit (.int .i64 x2),.lit (.int .i64 x3)],[],p0,[],_,[],hW',trodAll_mk1 (shut_bool Tryd.underlying4 _),ha,rfl,left_kept hl _,fun h=>by cases h⟩
theorem hours_holds:Rows.TurnHoursSaid :=
 OpenClaim.holds_of_wide_leaving 3 Tryd.f3 rfl rfl rfl rfl rfl rfl rfl ⟨rfl,rfl,rfl,rfl,rfl⟩ rfl rfl rfl rfl rfl (by kernel_rfl) Tryd.func3 (by kernel_rfl)
  (of_decide_eq_true (by kernel_rfl)) (by unfold Func.isWrapper;first | (rw [if_pos (by decide +kernel)];kernel_rfl) | (rw [if_neg (by decide +kernel)];exact⟨rfl,rfl⟩))
  (fun os started H enc _=>hours_lifted os started H enc)
theorem hours_card:Rows.TurnHoursCardSaid :=
 tied_plain_goes .later [] [.funcs,.data] true (true,"13bbfa5877394a3cde13138796d6bb679173f8167c87f9ccc98cd9f3e99a425f") false true
  hours_holds (fun _ h=>by cases h) (by kernel_rfl) (fun _ h=>by cases h) turnHours_row_tie rfl ⟨rfl,rfl⟩ (by kernel_rfl) rfl
  (fun f fn hf hfn=>by
   obtain rfl:f=3:=Option.some.inj ((show Tryd.prog.funcNamed "crocus/crocuslaw02.TurnHours" = some 3 by kernel_rfl).symm.trans hf) |>.symm
   obtain rfl:fn=Tryd.f3:=(Option.some.inj (Tryd.func3.symm.trans hfn)).symm
   exact⟨by kernel_rfl,fun j t ht=>by
    rw [Tryd.params3] at ht
    have hm:t∈[31,3,3,3]:=by simpa using Array.mem_of_getElem? ht
    have hall:([31,3,3,3].all fun u=>!Tryd.prog.wantsStandIn u)=true:=by kernel_rfl
    exact (show Tryd.prog.wantsStandIn t=false by simpa using List.all_eq_true.1 hall t hm)⟩)
  (by kernel_rfl)
#print axioms hours_card
end Go.Proofs.YtolholkjeehamaaDoor
