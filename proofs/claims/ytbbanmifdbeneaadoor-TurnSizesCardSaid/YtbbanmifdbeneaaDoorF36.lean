import Derived.Test.YtbbanmifdbeneaaDoorF35
import Derived.Test.YtbbanmifdbeneaaDoorF11
import Derived.Laws.EntriesVeiled
import Derived.Test.YtbbanmifdbeneaaDoorF31
import Derived.Test.YtbbanmifdbeneaaDoorF34
import Derived.Test.YtbbanmifdbeneaaDoorF09
import Derived.Test.YtbbanmifdbeneaaDoorF29
set_option linter.all false
set_option maxRecDepth 100000
set_option maxHeartbeats 4000000
open Go.CallsIn renaming mono → jqa
open Go.RowKit.Below renaming refl → jqb
open Go.Value renaming pointer → jqc
namespace Go.Proofs.YtbbanmifdbeneaaDoor
open Go.RowKit
theorem new3 (w3:World) (o1 o2:Obj) (v:Value) (t:TypeId):((((w3.alloc o1).alloc o2).alloc (.cells #[v] t)).cell? ⟨w3.heap.size+1+1,0,none⟩=some v)∧((((w3.alloc o1).alloc o2).alloc (.cells #[v] t)).frozen? ⟨w3.heap.size+1+1,0,none⟩=false):=by
 have hz:=heap_alloc_new ((w3.alloc o1).alloc o2) (.cells #[v] t);simp only [World.size_alloc] at hz;refine⟨?_,?_⟩
 ·unfold World.cell?;dsimp only;rw [hz];rfl
 ·unfold World.frozen?;dsimp only;rw [hz];rfl
def Dit.best (d:Dit) (holder a b:Int):Choice:=tryS d holder (d.hoursW holder a b) ⟨[],0,0⟩ 0 ⟨[],0,0⟩
def zfr (d:Dit) (holder a b:Int):List Int×Int×Int:=if askS d holder a b≠0 then ([],0,askS d holder a b) else ((d.best holder a b).plots,(d.best holder a b).worth,0)
theorem zlZ (d:Dit) (r:zaR) (holder a b:Int) (w:World) (hd:DitSl w d r) (hs:d.Small) (hg:Glob w) (hm:d.hoursW holder a b≤4000000000000000000) :
  CallsIn FL 0 Tryd.prog 16 #[d.val r,num holder,num a,num b] w fun e w'=>∃ v,e=.returned (.tuple #[v,num (zfr d holder a b).2.1,num (zfr d holder a b).2.2])∧Nx w w'∧PlS w' v (zfr d holder a b).1:=by
 obtain⟨W,hW,n0,hWs,cW⟩:=boxed w d r;generalize hY:W.alloc (.cells #[num holder] 3)=Y;have sY:Y.heap.size=w.heap.size+1+1:=by rw [← hY];simp [hWs]
 have nY:Nx W Y:=by rw [← hY];exact (jqb _ _).alloc (Nat.le_refl _) _
 have nwY:Nx w Y:=Nx.trans n0 nY;have cq:∀ w1,Nx Y w1→w1.cell? ⟨w.heap.size+1,0,none⟩=some (num holder):=by
  intro w1 n1;refine (n1.cell (p:=⟨w.heap.size+1,0,none⟩) (by show w.heap.size+1<_;omega)).trans ?_;rw [← hY,← hWs];exact zaw _ _ _ _ _ rfl
 obtain⟨c0,c1,c2,c3,c4,c5,c6,c7,c8,c9,c10,c11,c12,c13⟩:=zaS (cW _ nY);have cq0:=cq _ (jqb _ _);have k56:=zjG d r holder a b Y (hd.nx nwY) hs (hg.nx nwY);by_cases hc:askS d holder a b=0
 ·obtain⟨_,_,ha,hb,hab⟩:=ziU hc
  have HA:Hid (zfr d holder a b=((d.best holder a b).plots,(d.best holder a b).worth,0)):=by show _=_;unfold zfr;rw [if_neg (by simp [hc])]
  have k56' : CallsIn FL 0 Tryd.prog 30 _ Y fun e w'=>d.Ok∧zf6 Y d 0 e w':=k56.mono fun e w' ⟨v,_,_,h⟩=>h hc;clear k56 hc;gi_enter Tryd.func16,Tryd.ntmps16;gi_upto_region 8 with (first
   | (gi_at_call 30;refine jqa k56' ?_;rintro e w1 ⟨hO,B,M,rfl,n1,hB,hw⟩;have HW:=Lib.hid hw;have HO:=Lib.hid hO;have k57:=zmV (holder:=holder) (hw.nx ((jqb _ w1).alloc (Nat.le_refl _) (.cells #[.pointer (some ⟨B,0,none⟩)] 77))) hO (a:=a) (b:=b) (by omega) (by omega);have cq1:=cq _ n1;have cq2:(w1.alloc (.cells #[.pointer (some ⟨B,0,none⟩)] 77)).cell? ⟨w.heap.size+1,0,none⟩=some (num holder):=(zaH (by have:=n1.size;omega)).trans cq1;clear hw hO)
   | (gi_at_call 31;refine jqa k57 ?_;rintro e w3 ⟨rfl,n3⟩;have s1:=(new3 w3 (.cells #[num (d.hoursW holder a b)] 3) (.cells #[.slice none 0 0,num 0,num 0] 84) .nilFunc 85).1;have s2:=(new3 w3 (.cells #[num (d.hoursW holder a b)] 3) (.cells #[.slice none 0 0,num 0,num 0] 84) .nilFunc 85).2)
   | gi_in)
  have hO:=HO.out;have hw:=HW.out;have sw1:w.heap.size+1+1≤w1.heap.size:=by have:=n1.size;omega
  have sw3:w1.heap.size+1≤w3.heap.size:=by have:=n3.size;simpa using this
  have hBl:=hw.wat.dit.lt;have nA:Nx w1 (w1.alloc (.cells #[.pointer (some ⟨B,0,none⟩)] 77)):=zaG (jqb _ _) _;have n13:Nx w1 w3:=Nx.trans nA n3;have p3:w3.cell? ⟨w1.heap.size,0,none⟩=some (.pointer (some ⟨B,0,none⟩)):=(n3.cell (p:=⟨w1.heap.size,0,none⟩) (by simp)).trans (zaA rfl rfl);generalize hF:Value.func (Fn.func 36) #[] #[jqc (some ⟨w3.heap.size+1,0,none⟩),jqc (some ⟨w.heap.size,0,none⟩),jqc (some ⟨w1.heap.size,0,none⟩),jqc (some ⟨w.heap.size+1,0,none⟩),jqc (some ⟨w3.heap.size,0,none⟩),jqc (some ⟨w3.heap.size+1+1,0,none⟩)]=fv;obtain⟨V,hV⟩:∃ V,V=(((w3.alloc (Obj.cells #[Value.int IntKind.i64 (d.hoursW holder a b)] 3)).alloc (Obj.cells #[Value.slice none 0 0,Value.int IntKind.i64 0,Value.int IntKind.i64 0] 84)).alloc (Obj.cells #[fv] 85)):=⟨_,rfl⟩;rw [← hV];have sV:V.heap.size=w3.heap.size+3:=by rw [hV];simp
  have nV:Nx w3 V:=by rw [hV];exact zaG (zaG (zaG (jqb _ _) _) _) _
  have n1V:=Nx.trans n13 nV;have hT:TryAt w V (w3.heap.size+1) w.heap.size w1.heap.size (w.heap.size+1) w3.heap.size (w3.heap.size+1+1) B d r holder (d.hoursW holder a b):=by
   refine⟨Nx.trans nwY (Nx.trans n1 n1V),by omega,by omega,by omega,cW _ (Nx.trans nY (Nx.trans n1 n1V)),⟨w1,hw.wat.dit,n1V,by omega⟩,(nV.cell (p:=⟨w1.heap.size,0,none⟩) (by show _<_;simp only;omega)).trans p3,cq _ (Nx.trans n1 n1V),?_,?_⟩
   ·rw [hV,zaH (by simp;omega),zaH (by simp)];exact zaA rfl rfl
   ·rw [hV,hF];exact zaA (by simp) rfl
  have hBest:BestAt V (w3.heap.size+1) ⟨[],0,0⟩:=by
   have c:∀ i u,#[Value.slice none 0 0,Value.int IntKind.i64 0,Value.int IntKind.i64 0][i]?=some u→V.cell? ⟨w3.heap.size+1,i,none⟩=some u:=fun i u h=>by
    rw [hV,zaH (by simp)];exact zaA (by simp) h
   refine⟨⟨_,c 0 _ rfl,.inl ⟨rfl,rfl⟩,by simp [Value.ownBlock]⟩,c 1 _ rfl,c 2 _ rfl,fun i=>?_⟩;rw [hV,za3 (heap_alloc_old _ _ (by simp))];have h3:=heap_alloc_new (w3.alloc (Obj.cells #[Value.int IntKind.i64 (d.hoursW holder a b)] 3)) (Obj.cells #[Value.slice none 0 0,Value.int IntKind.i64 0,Value.int IntKind.i64 0] 84);simp only [World.size_alloc] at h3;unfold World.frozen?;dsimp only;rw [h3];simp
  have k82:=zph w (w3.heap.size+1) w.heap.size w1.heap.size (w.heap.size+1) w3.heap.size (w3.heap.size+1+1) B d r holder (d.hoursW holder a b) hd hO hm _ 0 ⟨[],0,0⟩ ⟨[],0,0⟩ (.slice none 0 0) V rfl (Nat.zero_le _) hT hBest (.inl ⟨rfl,rfl⟩) (by simp [Value.ownBlock]) (Nat.le_refl _) (by simp) (by simp) (by simp);have ctr:V.cell? ⟨w3.heap.size+1+1,0,none⟩=some fv:=by rw [hT.tr,hF]
  have nwV:Nx w V:=hT.nx;clear hT hBest hV s1 s2 k57 cW cq c0 c1 c2 c3 c4 c5 c6 c7 c8 c9 c10 c11 c12 c13;subst hF
  gi_wp2_with (first
   | (gi_at_call 36;refine jqa k82 ?_;rintro e w5 ⟨rfl,g5,hB5⟩;obtain⟨bv,t0,t1,t2⟩:=hB5.v;have t3:=hB5.wo)
   | gi_in)
  have hbest:Hid (tryS d holder (d.hoursW holder a b) ⟨[],0,0⟩ 0 ⟨[],0,0⟩=d.best holder a b):=rfl;have nw5:Nx w w5:=nwV.grown g5 (fun r e=>by cases e;omega);rw [hbest.out] at t1 t3;generalize d.best holder a b=bst at t1 t3 HA hbest;clear k56' hB5 n1V n13 nA nV sV nwV g5 n3 hw HW;gi_big_quiet_th (fail);gi_wp2;refine bodyPost_ret (v:=.tuple #[bv,num bst.worth,num 0]) (by simp [results,Tryd.results16,go_sem]) rfl ?_;exact⟨bv,by rw [HA.out],Nx.drewN nw5 _,by rw [HA.out];exact t1.nx (Nx.drewN (jqb _ _) _)⟩
 ·have HA:Hid (zfr d holder a b=([],0,askS d holder a b)):=by show _=_;unfold zfr;rw [if_pos hc]
  have hb:(askS d holder a b != 0)=true:=by simpa using hc
  have k56' : CallsIn FL 0 Tryd.prog 30 _ Y fun e w'=>∃ v,e=.returned (.tuple #[.pointer v,num (askS d holder a b)])∧Nx Y w':=k56.mono fun e w' ⟨v,h1,h2,h⟩=>⟨v,h1,h2⟩;clear k56 cW hc;gi_enter Tryd.func16,Tryd.ntmps16
  gi_wp2_with (first
   | (gi_at_call 30;refine jqa k56' ?_;rintro e w1 ⟨v,rfl,n1⟩)
   | gi_in)
  refine bodyPost_ret (v:=.tuple #[.slice none 0 0,num 0,num (askS d holder a b)]) (by simp [results,Tryd.results16,go_sem]) rfl ?_;exact⟨.slice none 0 0,by rw [HA.out],Nx.trans nwY (n1.alloc (by exact n1.size) _),by rw [HA.out];exact .inl ⟨rfl,rfl⟩⟩
theorem znU:zcC exD 19=((0,1,1),0):=by decide +kernel
theorem zpz:zcB exD 1 19=(29,true,0):=by decide +kernel
theorem znN:zca exD 0 10 34=(10,0):=by decide +kernel
theorem znr:zfr exD 0 10 34=([0,1],9,0):=by decide +kernel
theorem zoY:exD.hoursW 0 10 34≤4000000000000000000:=by decide +kernel
theorem zpK:logS exD exL=0:=by decide +kernel
theorem znM:(zc9 exD exL).2=0∧(zc9 exD exL).1.length=3∧(zc9 exD exL).1[0]?=some 0:=by decide +kernel
theorem zd9:exD.Small:=⟨by decide +kernel,by decide +kernel,by decide +kernel,by decide +kernel,by decide +kernel,by decide +kernel,by decide +kernel,by decide +kernel⟩
theorem znQ {n:Int} {xs:List Int} {f:Int} (h:zou exD exL n xs f):n=0∧xs=[]∧f=0:=by
 obtain⟨hf,kb,hb,hn,hx⟩:=h.2 zpK;have h1:=hb.2 1 (by decide +kernel) (by simp);have hm:=zid hb.1;have hc:capN exL=3:=by decide +kernel
 rw [hc] at hm;subst hn hx hf;have:kb=0∨kb=1∨kb=2:=by omega
 rcases this with rfl | rfl | rfl
 ·exact absurd h1 (by decide +kernel)
 ·decide +kernel
 ·exact absurd h1 (by decide +kernel)
noncomputable def zb3:Code:=match Tryd.f7.body with | some c=>c | none=>.skip
noncomputable def fl0:Code:=seqL (zb3)
noncomputable def fl1:Code:=seqL (seqR (zb3))
noncomputable def fl2:Code:=seqL (seqR (seqR (zb3)))
noncomputable def fl3:Code:=seqL (seqR (seqR (seqR (zb3))))
noncomputable def fl4:Code:=seqL (seqR (seqR (seqR (seqR (zb3)))))
noncomputable def fl5:Code:=seqL (seqR (seqR (seqR (seqR (seqR (zb3))))))
noncomputable def fl6:Code:=seqL (seqR (seqR (seqR (seqR (seqR (seqR (zb3)))))))
noncomputable def fl7:Code:=seqL (seqR (seqR (seqR (seqR (seqR (seqR (seqR (zb3))))))))
noncomputable def flr:Code:=seqR (seqR (seqR (seqR (seqR (seqR (seqR (seqR (zb3))))))))
noncomputable def fl8:Code:=seqL (seqL flr)
noncomputable def fl9:Code:=match seqR (seqL flr) with | .cond _ x _=>seqL x | c=>c
noncomputable def fl10:Code:=seqL (seqR flr)
theorem zlU:zb3=.seq fl0 (.seq fl1 (.seq fl2 (.seq fl3 (.seq fl4 (.seq fl5 (.seq fl6 (.seq fl7 (.seq (.seq fl8 (.cond (.tmp 82) (.seq fl9 .ret) .skip)) (.seq fl10 .ret))))))))):=by kernel_rfl
theorem zp2 (w:World)  :
  fl0.wpIn (FG 7) 0 Tryd.prog (fun e a w'=>e=.normal∧a.defers=[]∧(a.tmps=#[.bool false,undef,undef,undef,undef,undef,undef,undef,undef,undef,undef,undef,undef,undef,undef,undef,undef,undef,undef,undef,undef,undef,undef,undef,undef,undef,undef,undef,undef,undef,undef,undef,undef,undef,undef,undef,undef,undef,undef,undef,undef,undef,undef,undef,undef,undef,undef,undef,undef,undef,undef,undef,undef,undef,undef,undef,undef,undef,undef,undef,undef,undef,undef,undef,undef,undef,undef,undef,undef,undef,undef,undef,undef,undef,undef,undef,undef,undef,undef,undef,undef,undef,undef,undef,undef,undef,undef,undef,undef,undef,undef,undef,undef,undef,undef,undef,undef,undef,undef,undef,undef,undef,undef,undef,undef,undef,undef,undef,undef,undef,undef,undef,undef,undef,undef,undef,undef,undef,undef,undef,undef,undef,undef,undef,undef,undef,undef,undef,undef,undef,undef,undef,undef]∧w'=w))
   ⟨#[undef,undef,undef,undef,undef,undef,undef,undef,undef,undef,undef,undef,undef,undef,undef,undef,undef,undef,undef,undef,undef,undef,undef,undef,undef,undef,undef,undef,undef,undef,undef,undef,undef,undef,undef,undef,undef,undef,undef,undef,undef,undef,undef,undef,undef,undef,undef,undef,undef,undef,undef,undef,undef,undef,undef,undef,undef,undef,undef,undef,undef,undef,undef,undef,undef,undef,undef,undef,undef,undef,undef,undef,undef,undef,undef,undef,undef,undef,undef,undef,undef,undef,undef,undef,undef,undef,undef,undef,undef,undef,undef,undef,undef,undef,undef,undef,undef,undef,undef,undef,undef,undef,undef,undef,undef,undef,undef,undef,undef,undef,undef,undef,undef,undef,undef,undef,undef,undef,undef,undef,undef,undef,undef,undef,undef,undef,undef,undef,undef,undef,undef,undef,undef],[]⟩ w:=by
 simp only [fl0,flr,zb3,seqL,seqR,Tryd.f7];gi_wp2
theorem zqc (w:World)  :
  fl1.wpIn (FG 7) 0 Tryd.prog (fun e a w'=>e=.normal∧a.defers=[]∧(∃ (r:zaR) (lv:Value) (P:Nat),a.tmps=#[.bool false,.pointer (some ⟨P,0,none⟩),.pointer (some ⟨P+1,0,none⟩),undef,undef,undef,undef,undef,undef,undef,undef,undef,undef,undef,undef,undef,undef,undef,undef,undef,.tuple #[exD.val r,.agg #[num (-1),num 1,lv]],.tuple #[exD.val r,.agg #[num (-1),num 1,lv]],exD.val r,.agg #[num (-1),num 1,lv],undef,undef,undef,undef,undef,undef,undef,undef,undef,undef,undef,undef,undef,undef,undef,undef,undef,undef,undef,undef,undef,undef,undef,undef,undef,undef,undef,undef,undef,undef,undef,undef,undef,undef,undef,undef,undef,undef,undef,undef,undef,undef,undef,undef,undef,undef,undef,undef,undef,undef,undef,undef,undef,undef,undef,undef,undef,undef,undef,undef,undef,undef,undef,undef,undef,undef,undef,undef,undef,undef,undef,undef,undef,undef,undef,undef,undef,undef,undef,undef,undef,undef,undef,undef,undef,undef,undef,undef,undef,undef,undef,undef,undef,undef,undef,undef,undef,undef,undef,undef,undef,undef,undef,undef,undef,undef,undef,undef,undef]∧Nx w w'∧DitSl w' exD r∧Sl w' lv 3 (exL.ops.map three)∧Kind w' lv∧(∀ i v,(exD.cellsA r)[i]?=some v→w'.cell? ⟨P,i,none⟩=some v)∧(∀ i v,(#[num (-1),num 1,lv]:Array Value)[i]?=some v→w'.cell? ⟨P+1,i,none⟩=some v)∧P+1<w'.heap.size∧P≥w.heap.size))
   ⟨#[.bool false,undef,undef,undef,undef,undef,undef,undef,undef,undef,undef,undef,undef,undef,undef,undef,undef,undef,undef,undef,undef,undef,undef,undef,undef,undef,undef,undef,undef,undef,undef,undef,undef,undef,undef,undef,undef,undef,undef,undef,undef,undef,undef,undef,undef,undef,undef,undef,undef,undef,undef,undef,undef,undef,undef,undef,undef,undef,undef,undef,undef,undef,undef,undef,undef,undef,undef,undef,undef,undef,undef,undef,undef,undef,undef,undef,undef,undef,undef,undef,undef,undef,undef,undef,undef,undef,undef,undef,undef,undef,undef,undef,undef,undef,undef,undef,undef,undef,undef,undef,undef,undef,undef,undef,undef,undef,undef,undef,undef,undef,undef,undef,undef,undef,undef,undef,undef,undef,undef,undef,undef,undef,undef,undef,undef,undef,undef,undef,undef,undef,undef,undef,undef],[]⟩ w:=by
 have k55:=toFG 7 (m:=0) (zjx w);simp only [fl1,flr,zb3,seqL,seqR,Tryd.f7]
 gi_wp2_with (first
  | (gi_at_call 22;refine jqa k55 ?_;rintro e w2 ⟨n2,⟨rh,rt,rf,rs,rl,rp⟩,lv,rfl,hd,hl,hk⟩;obtain⟨ah,ch,eh⟩:=hd.holders.cases;obtain⟨at',ct,et⟩:=hd.turns.cases;obtain⟨af,cf,ef⟩:=hd.feasts.cases;obtain⟨as',cs,es⟩:=hd.swaps.cases;obtain⟨ao,co,eo⟩:=hd.loans.cases;obtain⟨ap,cp,ep⟩:=hd.plots.cases;obtain⟨al,cl,el⟩:=hl.cases;dsimp only at eh et ef es eo ep;subst eh et ef es eo ep el;have HD:=Lib.hid hd;have HL:=Lib.hid hl;have HK:=Lib.hid hk;clear hd hl hk)
  | gi_in)
 generalize hW:World.alloc (World.alloc w2 _) _=W;obtain⟨p0,p1,ps,pn⟩:=al2 hW;clear hW;have hd:=HD.out.nx pn;have hl:=HL.out.nx pn;have hk:=HK.out.nx pn;simp only [List.length_map] at hd hl hk;refine⟨⟨_,_,_,_,_,_⟩,_,_,⟨rfl,⟨rfl,rfl,rfl,rfl,rfl,rfl⟩,rfl⟩,Nx.trans n2 pn,hd,hl,hk,fun i v h=>?_,fun i v h=>?_,?_,n2.size⟩
 ·unfold World.cell?;dsimp only;rw [p0];simpa using h
 ·unfold World.cell?;dsimp only;rw [p1];simpa using h
 ·omega
theorem zp9 (w:World) (r:zaR) (lv:Value) (P:Nat) (hd:DitSl w exD r) (hg:Glob w) (cD:∀ i v,(exD.cellsA r)[i]?=some v→w.cell? ⟨P,i,none⟩=some v) :
  fl2.wpIn (FG 7) 0 Tryd.prog (fun e a w'=>e=.normal∧a.defers=[]∧(a.tmps=#[.bool false,.pointer (some ⟨P,0,none⟩),.pointer (some ⟨P+1,0,none⟩),num 0,num 1,num 1,num 0,undef,undef,undef,undef,undef,undef,undef,undef,undef,undef,undef,undef,undef,.tuple #[exD.val r,.agg #[num (-1),num 1,lv]],.tuple #[exD.val r,.agg #[num (-1),num 1,lv]],exD.val r,.agg #[num (-1),num 1,lv],.tuple #[num 0,num 1,num 1,num 0],exD.val r,.tuple #[num 0,num 1,num 1,num 0],num 0,num 1,num 1,num 0,undef,undef,undef,undef,undef,undef,undef,undef,undef,undef,undef,undef,undef,undef,undef,undef,undef,undef,undef,undef,undef,undef,undef,undef,undef,undef,undef,undef,undef,undef,undef,undef,undef,undef,undef,undef,undef,undef,undef,undef,undef,undef,undef,undef,undef,undef,undef,undef,undef,undef,undef,undef,undef,undef,undef,undef,undef,undef,undef,undef,undef,undef,undef,undef,undef,undef,undef,undef,undef,undef,undef,undef,undef,undef,undef,undef,undef,undef,undef,undef,undef,undef,undef,undef,undef,undef,undef,undef,undef,undef,undef,undef,undef,undef,undef,undef,undef,undef,undef,undef,undef,undef]∧Nx w w'))
   ⟨#[.bool false,.pointer (some ⟨P,0,none⟩),.pointer (some ⟨P+1,0,none⟩),undef,undef,undef,undef,undef,undef,undef,undef,undef,undef,undef,undef,undef,undef,undef,undef,undef,.tuple #[exD.val r,.agg #[num (-1),num 1,lv]],.tuple #[exD.val r,.agg #[num (-1),num 1,lv]],exD.val r,.agg #[num (-1),num 1,lv],undef,undef,undef,undef,undef,undef,undef,undef,undef,undef,undef,undef,undef,undef,undef,undef,undef,undef,undef,undef,undef,undef,undef,undef,undef,undef,undef,undef,undef,undef,undef,undef,undef,undef,undef,undef,undef,undef,undef,undef,undef,undef,undef,undef,undef,undef,undef,undef,undef,undef,undef,undef,undef,undef,undef,undef,undef,undef,undef,undef,undef,undef,undef,undef,undef,undef,undef,undef,undef,undef,undef,undef,undef,undef,undef,undef,undef,undef,undef,undef,undef,undef,undef,undef,undef,undef,undef,undef,undef,undef,undef,undef,undef,undef,undef,undef,undef,undef,undef,undef,undef,undef,undef,undef,undef,undef,undef,undef,undef],[]⟩ w:=by
 have k26:=toFG 7 (m:=0) (zmq exD r 19 w hd zd9 hg);rw [znU] at k26;obtain⟨c0,c1,c2,c3,c4,c5,c6,c7,c8,c9,c10,c11,c12,c13⟩:=zaS cD;clear cD;simp only [fl2,flr,zb3,seqL,seqR,Tryd.f7]
 gi_wp2_with (first
  | (gi_at_call 23;refine jqa k26 ?_;rintro e w2 ⟨rfl,n2⟩)
  | gi_in)
theorem zqt (w:World) (r:zaR) (lv:Value) (P:Nat) (hd:DitSl w exD r) (hg:Glob w) (cD:∀ i v,(exD.cellsA r)[i]?=some v→w.cell? ⟨P,i,none⟩=some v) :
  fl3.wpIn (FG 7) 0 Tryd.prog (fun e a w'=>e=.normal∧a.defers=[]∧(a.tmps=#[.bool false,.pointer (some ⟨P,0,none⟩),.pointer (some ⟨P+1,0,none⟩),num 0,num 1,num 1,num 0,num 29,.bool true,num 0,undef,undef,undef,undef,undef,undef,undef,undef,undef,undef,.tuple #[exD.val r,.agg #[num (-1),num 1,lv]],.tuple #[exD.val r,.agg #[num (-1),num 1,lv]],exD.val r,.agg #[num (-1),num 1,lv],.tuple #[num 0,num 1,num 1,num 0],exD.val r,.tuple #[num 0,num 1,num 1,num 0],num 0,num 1,num 1,num 0,.tuple #[num 29,.bool true,num 0],exD.val r,.tuple #[num 29,.bool true,num 0],num 29,.bool true,num 0,undef,undef,undef,undef,undef,undef,undef,undef,undef,undef,undef,undef,undef,undef,undef,undef,undef,undef,undef,undef,undef,undef,undef,undef,undef,undef,undef,undef,undef,undef,undef,undef,undef,undef,undef,undef,undef,undef,undef,undef,undef,undef,undef,undef,undef,undef,undef,undef,undef,undef,undef,undef,undef,undef,undef,undef,undef,undef,undef,undef,undef,undef,undef,undef,undef,undef,undef,undef,undef,undef,undef,undef,undef,undef,undef,undef,undef,undef,undef,undef,undef,undef,undef,undef,undef,undef,undef,undef,undef,undef,undef,undef,undef,undef,undef,undef]∧Nx w w'))
   ⟨#[.bool false,.pointer (some ⟨P,0,none⟩),.pointer (some ⟨P+1,0,none⟩),num 0,num 1,num 1,num 0,undef,undef,undef,undef,undef,undef,undef,undef,undef,undef,undef,undef,undef,.tuple #[exD.val r,.agg #[num (-1),num 1,lv]],.tuple #[exD.val r,.agg #[num (-1),num 1,lv]],exD.val r,.agg #[num (-1),num 1,lv],.tuple #[num 0,num 1,num 1,num 0],exD.val r,.tuple #[num 0,num 1,num 1,num 0],num 0,num 1,num 1,num 0,undef,undef,undef,undef,undef,undef,undef,undef,undef,undef,undef,undef,undef,undef,undef,undef,undef,undef,undef,undef,undef,undef,undef,undef,undef,undef,undef,undef,undef,undef,undef,undef,undef,undef,undef,undef,undef,undef,undef,undef,undef,undef,undef,undef,undef,undef,undef,undef,undef,undef,undef,undef,undef,undef,undef,undef,undef,undef,undef,undef,undef,undef,undef,undef,undef,undef,undef,undef,undef,undef,undef,undef,undef,undef,undef,undef,undef,undef,undef,undef,undef,undef,undef,undef,undef,undef,undef,undef,undef,undef,undef,undef,undef,undef,undef,undef,undef,undef,undef,undef,undef,undef],[]⟩ w:=by
 have k23:=toFG 7 (m:=0) (zkv exD r 1 19 w hd zd9 hg);rw [zpz] at k23;obtain⟨c0,c1,c2,c3,c4,c5,c6,c7,c8,c9,c10,c11,c12,c13⟩:=zaS cD;clear cD;simp only [fl3,flr,zb3,seqL,seqR,Tryd.f7]
 gi_wp2_with (first
  | (gi_at_call 24;refine jqa k23 ?_;rintro e w2 ⟨rfl,n2⟩)
  | gi_in)
theorem zpN (w:World) (r:zaR) (lv:Value) (P:Nat) (hd:DitSl w exD r) (hg:Glob w) (cD:∀ i v,(exD.cellsA r)[i]?=some v→w.cell? ⟨P,i,none⟩=some v) :
  fl4.wpIn (FG 7) 0 Tryd.prog (fun e a w'=>e=.normal∧a.defers=[]∧(a.tmps=#[.bool false,.pointer (some ⟨P,0,none⟩),.pointer (some ⟨P+1,0,none⟩),num 0,num 1,num 1,num 0,num 29,.bool true,num 0,num 10,num 0,undef,undef,undef,undef,undef,undef,undef,undef,.tuple #[exD.val r,.agg #[num (-1),num 1,lv]],.tuple #[exD.val r,.agg #[num (-1),num 1,lv]],exD.val r,.agg #[num (-1),num 1,lv],.tuple #[num 0,num 1,num 1,num 0],exD.val r,.tuple #[num 0,num 1,num 1,num 0],num 0,num 1,num 1,num 0,.tuple #[num 29,.bool true,num 0],exD.val r,.tuple #[num 29,.bool true,num 0],num 29,.bool true,num 0,.tuple #[num 10,num 0],exD.val r,.tuple #[num 10,num 0],num 10,num 0,undef,undef,undef,undef,undef,undef,undef,undef,undef,undef,undef,undef,undef,undef,undef,undef,undef,undef,undef,undef,undef,undef,undef,undef,undef,undef,undef,undef,undef,undef,undef,undef,undef,undef,undef,undef,undef,undef,undef,undef,undef,undef,undef,undef,undef,undef,undef,undef,undef,undef,undef,undef,undef,undef,undef,undef,undef,undef,undef,undef,undef,undef,undef,undef,undef,undef,undef,undef,undef,undef,undef,undef,undef,undef,undef,undef,undef,undef,undef,undef,undef,undef,undef,undef,undef,undef,undef,undef,undef,undef,undef]∧Nx w w'))
   ⟨#[.bool false,.pointer (some ⟨P,0,none⟩),.pointer (some ⟨P+1,0,none⟩),num 0,num 1,num 1,num 0,num 29,.bool true,num 0,undef,undef,undef,undef,undef,undef,undef,undef,undef,undef,.tuple #[exD.val r,.agg #[num (-1),num 1,lv]],.tuple #[exD.val r,.agg #[num (-1),num 1,lv]],exD.val r,.agg #[num (-1),num 1,lv],.tuple #[num 0,num 1,num 1,num 0],exD.val r,.tuple #[num 0,num 1,num 1,num 0],num 0,num 1,num 1,num 0,.tuple #[num 29,.bool true,num 0],exD.val r,.tuple #[num 29,.bool true,num 0],num 29,.bool true,num 0,undef,undef,undef,undef,undef,undef,undef,undef,undef,undef,undef,undef,undef,undef,undef,undef,undef,undef,undef,undef,undef,undef,undef,undef,undef,undef,undef,undef,undef,undef,undef,undef,undef,undef,undef,undef,undef,undef,undef,undef,undef,undef,undef,undef,undef,undef,undef,undef,undef,undef,undef,undef,undef,undef,undef,undef,undef,undef,undef,undef,undef,undef,undef,undef,undef,undef,undef,undef,undef,undef,undef,undef,undef,undef,undef,undef,undef,undef,undef,undef,undef,undef,undef,undef,undef,undef,undef,undef,undef,undef,undef,undef,undef,undef,undef,undef],[]⟩ w:=by
 have k21:=toFG 7 (m:=0) (zg5 exD r 0 10 34 w hd zd9 hg);rw [znN] at k21;obtain⟨c0,c1,c2,c3,c4,c5,c6,c7,c8,c9,c10,c11,c12,c13⟩:=zaS cD;clear cD;simp only [fl4,flr,zb3,seqL,seqR,Tryd.f7]
 gi_wp2_with (first
  | (gi_at_call 11;refine jqa k21 ?_;rintro e w2 ⟨rfl,n2⟩)
  | gi_in)
theorem zqa (w:World) (r:zaR) (lv:Value) (P:Nat) (hd:DitSl w exD r) (hg:Glob w) (cD:∀ i v,(exD.cellsA r)[i]?=some v→w.cell? ⟨P,i,none⟩=some v) :
  fl5.wpIn (FG 7) 0 Tryd.prog (fun e a w'=>e=.normal∧a.defers=[]∧(∃ pv,a.tmps=#[.bool false,.pointer (some ⟨P,0,none⟩),.pointer (some ⟨P+1,0,none⟩),num 0,num 1,num 1,num 0,num 29,.bool true,num 0,num 10,num 0,pv,num 9,num 0,undef,undef,undef,undef,undef,.tuple #[exD.val r,.agg #[num (-1),num 1,lv]],.tuple #[exD.val r,.agg #[num (-1),num 1,lv]],exD.val r,.agg #[num (-1),num 1,lv],.tuple #[num 0,num 1,num 1,num 0],exD.val r,.tuple #[num 0,num 1,num 1,num 0],num 0,num 1,num 1,num 0,.tuple #[num 29,.bool true,num 0],exD.val r,.tuple #[num 29,.bool true,num 0],num 29,.bool true,num 0,.tuple #[num 10,num 0],exD.val r,.tuple #[num 10,num 0],num 10,num 0,.tuple #[pv,num 9,num 0],exD.val r,.tuple #[pv,num 9,num 0],pv,num 9,num 0,undef,undef,undef,undef,undef,undef,undef,undef,undef,undef,undef,undef,undef,undef,undef,undef,undef,undef,undef,undef,undef,undef,undef,undef,undef,undef,undef,undef,undef,undef,undef,undef,undef,undef,undef,undef,undef,undef,undef,undef,undef,undef,undef,undef,undef,undef,undef,undef,undef,undef,undef,undef,undef,undef,undef,undef,undef,undef,undef,undef,undef,undef,undef,undef,undef,undef,undef,undef,undef,undef,undef,undef,undef,undef,undef,undef,undef,undef,undef,undef,undef,undef,undef,undef,undef]∧Nx w w'∧PlS w' pv [0,1]))
   ⟨#[.bool false,.pointer (some ⟨P,0,none⟩),.pointer (some ⟨P+1,0,none⟩),num 0,num 1,num 1,num 0,num 29,.bool true,num 0,num 10,num 0,undef,undef,undef,undef,undef,undef,undef,undef,.tuple #[exD.val r,.agg #[num (-1),num 1,lv]],.tuple #[exD.val r,.agg #[num (-1),num 1,lv]],exD.val r,.agg #[num (-1),num 1,lv],.tuple #[num 0,num 1,num 1,num 0],exD.val r,.tuple #[num 0,num 1,num 1,num 0],num 0,num 1,num 1,num 0,.tuple #[num 29,.bool true,num 0],exD.val r,.tuple #[num 29,.bool true,num 0],num 29,.bool true,num 0,.tuple #[num 10,num 0],exD.val r,.tuple #[num 10,num 0],num 10,num 0,undef,undef,undef,undef,undef,undef,undef,undef,undef,undef,undef,undef,undef,undef,undef,undef,undef,undef,undef,undef,undef,undef,undef,undef,undef,undef,undef,undef,undef,undef,undef,undef,undef,undef,undef,undef,undef,undef,undef,undef,undef,undef,undef,undef,undef,undef,undef,undef,undef,undef,undef,undef,undef,undef,undef,undef,undef,undef,undef,undef,undef,undef,undef,undef,undef,undef,undef,undef,undef,undef,undef,undef,undef,undef,undef,undef,undef,undef,undef,undef,undef,undef,undef,undef,undef,undef,undef,undef,undef,undef,undef],[]⟩ w:=by
 have k49:=toFG 7 (m:=0) (zlZ exD r 0 10 34 w hd zd9 hg zoY);rw [znr] at k49;obtain⟨c0,c1,c2,c3,c4,c5,c6,c7,c8,c9,c10,c11,c12,c13⟩:=zaS cD;clear cD;simp only [fl5,flr,zb3,seqL,seqR,Tryd.f7]
 gi_wp2_with (first
  | (gi_at_call 16;refine jqa k49 ?_;rintro e w2 ⟨pv,rfl,n2,hp⟩;have HP:=Lib.hid hp;clear hp)
  | gi_in)
 exact HP.out
theorem zqe (w:World) (pv bv ov a0 a1 a2 a20 a21 a22 a23 a24 a25 a26 a27 a28 a29 a30 a31 a32 a33 a34 a35 a36 a37 a38 a39 a40 a41 a42 a43 a44 a45 a46 a47 a48 a49 a50 a51 a52 a53 a54 a55 a56 a57 a58 a59 a60 a61 a62 a63 a64 a65 a66 a67 a68 a69 a70 a71 a72 a73 a74 a75 a76 a77 a78 a79 a80 a81 a82 a83 a84 a85 a86 a87 a88 a89 a90 a91 a92 a93 a94 a95 a96 a97 a98 a99 a100 a101 a102 a103 a104 a105 a106 a107 a108 a109 a110 a111 a112 a113 a114 a115 a116 a117 a118 a119 a120 a121 a122 a123 a124 a125 a126 a127 a128 a129 a130 a131 a132:Value) :
  fl8.wpIn (FG 7) 0 Tryd.prog (fun e a w'=>e=.normal∧a.defers=[]∧(w'=w∧a.tmps.size=133∧a.tmps[82]?=some (.bool false)∧a.tmps[3]?=some (num 0)∧a.tmps[4]?=some (num 1)∧a.tmps[5]?=some (num 1)∧a.tmps[6]?=some (num 0)∧a.tmps[7]?=some (num 29)∧a.tmps[8]?=some (.bool true)∧a.tmps[9]?=some (num 0)∧a.tmps[10]?=some (num 10)∧a.tmps[11]?=some (num 0)∧a.tmps[12]?=some (pv)∧a.tmps[13]?=some (num 9)∧a.tmps[14]?=some (num 0)∧a.tmps[15]?=some (bv)∧a.tmps[16]?=some (num 0)∧a.tmps[17]?=some (num 0)∧a.tmps[18]?=some (ov)∧a.tmps[19]?=some (num 0)))
   ⟨#[a0,a1,a2,num 0,num 1,num 1,num 0,num 29,.bool true,num 0,num 10,num 0,pv,num 9,num 0,bv,num 0,num 0,ov,num 0,a20,a21,a22,a23,a24,a25,a26,a27,a28,a29,a30,a31,a32,a33,a34,a35,a36,a37,a38,a39,a40,a41,a42,a43,a44,a45,a46,a47,a48,a49,a50,a51,a52,a53,a54,a55,a56,a57,a58,a59,a60,a61,a62,a63,a64,a65,a66,a67,a68,a69,a70,a71,a72,a73,a74,a75,a76,a77,a78,a79,a80,a81,a82,a83,a84,a85,a86,a87,a88,a89,a90,a91,a92,a93,a94,a95,a96,a97,a98,a99,a100,a101,a102,a103,a104,a105,a106,a107,a108,a109,a110,a111,a112,a113,a114,a115,a116,a117,a118,a119,a120,a121,a122,a123,a124,a125,a126,a127,a128,a129,a130,a131,a132],[]⟩ w:=by
 simp only [fl8,flr,zb3,seqL,seqR,Tryd.f7];gi_wp2
theorem zpg (w:World) (pv ov a0 a1 a2 a20 a21 a22 a23 a24 a25 a26 a27 a28 a29 a30 a31 a32 a33 a34 a35 a36 a37 a38 a39 a40 a41 a42 a43 a44 a45 a46 a47 a48 a49 a50 a51 a52 a53 a54 a55 a56 a57 a58 a59 a60 a61 a62 a63 a64 a65 a66 a67 a68 a69 a70 a71 a72 a73 a74 a75 a76 a77 a78 a79 a80 a81 a82 a83 a84 a85 a86 a87 a88 a89 a90 a91 a92 a93 a94 a95 a96 a97 a98 a99 a100 a101 a102 a103 a104 a105 a106 a107 a108 a109 a110 a111 a112 a113 a114 a115 a116 a117 a118 a119 a120 a121 a122 a123 a124 a125 a126 a127 a128 a129 a130 a131 a132:Value) (bs:List Int) (ba:Option Addr) (bc:Nat) (hp:PlS w pv [0,1]) (hb:Sl w (.slice ba 3 bc) 1 (bs.map fun x=>[num x])) (hb3:bs.length=3) (hb0:bs[0]?=some 0) (ho:Sl w ov 1 (([]:List Int).map fun x=>[num x])) :
  fl10.wpIn (FG 7) 0 Tryd.prog (fun e a w'=>e=.normal∧a.defers=[]∧(a.tmps[0]?=some (.bool true)∧Nx w w'))
   ⟨#[a0,a1,a2,num 0,num 1,num 1,num 0,num 29,.bool true,num 0,num 10,num 0,pv,num 9,num 0,.slice ba 3 bc,num 0,num 0,ov,num 0,a20,a21,a22,a23,a24,a25,a26,a27,a28,a29,a30,a31,a32,a33,a34,a35,a36,a37,a38,a39,a40,a41,a42,a43,a44,a45,a46,a47,a48,a49,a50,a51,a52,a53,a54,a55,a56,a57,a58,a59,a60,a61,a62,a63,a64,a65,a66,a67,a68,a69,a70,a71,a72,a73,a74,a75,a76,a77,a78,a79,a80,a81,a82,a83,a84,a85,a86,a87,a88,a89,a90,a91,a92,a93,a94,a95,a96,a97,a98,a99,a100,a101,a102,a103,a104,a105,a106,a107,a108,a109,a110,a111,a112,a113,a114,a115,a116,a117,a118,a119,a120,a121,a122,a123,a124,a125,a126,a127,a128,a129,a130,a131,a132],[]⟩ w:=by
 obtain⟨oa,oc,rfl⟩:=ho.cases;have hpl:=hp.sl;obtain⟨b,off,hbe,hbl,hcl⟩:=hb.get (by rw [List.length_map,hb3];decide);subst hbe;have g0:=Sl.one hcl hb0;rw [Nat.add_zero] at g0;have k32:∀ v w1,Nx w w1→Sl w1 v 1 (([0,1]:List Int).map fun x=>[num x])→CallsIn (FG 7) 0 Tryd.prog 27 #[pv,v] w1 fun e w'=>e=.returned (.bool true)∧Nx w w':=fun v w1 n1 hv =>
  (toFG 7 (znu pv v [0,1] [0,1] w1 (hpl.nx n1) hv (by decide) (by decide))).mono fun e w' ⟨p,q⟩=>⟨p,Nx.trans n1 q⟩
 clear hcl hb hp ho hpl;simp only [fl10,flr,zb3,seqL,seqR,Tryd.f7]
 gi_wp2_with (first
  | (gi_at_call 27;refine jqa (k32 _ _ (zaG (jqb _ _) _) (zc2 (heap_alloc_new _ _) rfl (by decide) rfl)) ?_;rintro e w2 ⟨rfl,n2⟩;have g2:=(n2.cell (p:=⟨b,off,none⟩) (by exact hbl)).trans g0)
  | gi_in)
end Go.Proofs.YtbbanmifdbeneaaDoor
