import Derived.Test.YtedomogjmhommaaH34
import Derived.Conc.CrowdComm
set_option linter.all false
set_option maxRecDepth 100000
set_option maxHeartbeats 8000000
namespace Go.Con
open Go Go.Conc
variable [Lone]
abbrev Hand:=(Nat→Prop)→(Nat→Prop)→Value→World→Prop
inductive Wk (P:Program) (c:Nat) (Post:Hand):(Nat→Prop)→(Nat→Prop)→Goroutine→World→Prop
 | step {own A:Nat→Prop} {g:Goroutine} {W:World} (hr:g.status=.running)
   (h1:∀ W',Env A W W'→∃ g' W1 es,stepG P false g W'=.go g' W1 es∧Does own A W' W1 es∧g'.status=.running)
   (h2:∀ W' g' W1 es,Env A W W'→stepG P false g W'=.go g' W1 es→Wk P c Post (grow own W' W1) (grow A W' W1) g' W1):Wk P c Post own A g W
 | send {own A:Nat→Prop} {g:Goroutine} {W:World} (hr:g.status=.running) (v z:Value)
   (h:∀ W',Env A W W'→Post own A v W'∧∃ g2 q,stepG P false g W'=.comm g2 #[scase c v z] true .send W' #[]∧QuitsIn P q (g2.finishComm P #[scase c v z] .send 0 undef false)):Wk P c Post own A g W
section
variable {P:Program} {c:Nat} {Post:Hand}
theorem Wk.running {own A:Nat→Prop} {g:Goroutine} {W:World} (h:Wk P c Post own A g W):g.status=.running:=by
 cases h with
 | step hr _ _=>exact hr
 | send hr _ _ _=>exact hr
theorem Wk.env {own A:Nat→Prop} {g:Goroutine} {W W' : World} (h:Wk P c Post own A g W) (he:Env A W W'):Wk P c Post own A g W':=by
 cases h with
 | step hr h1 h2=>exact .step hr (fun W'' h''=>h1 W'' (he.trans h'')) fun W'' g' W1 es h''=>h2 W'' g' W1 es (he.trans h'')
 | send hr v z h=>exact .send hr v z fun W'' h''=>h W'' (he.trans h'')
theorem Wk.of_act {Q:(Nat→Prop)→(Nat→Prop)→Frame→List Frame→World→Prop} {own A:Nat→Prop} {fr:Frame} {cs:List Frame} {W:World} (h:Act P Q own A fr cs W)
  (hq:∀ own A fr cs W,Q own A fr cs W→Wk P c Post own A { frame:=fr,callers:=cs,status:=.running,dying:=none } W) :
  Wk P c Post own A { frame:=fr,callers:=cs,status:=.running,dying:=none } W:=by
 induction h with
 | done h=>exact hq _ _ _ _ _ h
 | step h1 _ ih =>
  refine .step rfl (fun W' he=>?_) fun W' g' W1 es he hs=>?_
  ·obtain⟨fr',cs',W1,es,h,hd⟩:=h1 W' false .running none he
   exact⟨_,W1,es,h,hd,rfl⟩
  ·obtain⟨fr',cs',W2,es2,h,hd⟩:=h1 W' false .running none he
   rw [h] at hs
   cases hs
   exact ih W' false .running none fr' cs' W1 es he h
end
structure Ph where
 on:Bool
 c:Nat
 cap:Nat
 posts:Nat→Hand
inductive Mn (P:Program) (Q:(Nat→Prop)→(Nat→Prop)→Goroutine→World→Prop):Ph→List Nat→(Nat→Prop)→(Nat→Prop)→Goroutine→World→Prop
 | done {ph:Ph} {own A:Nat→Prop} {g:Goroutine} {W:World} (hr:g.status=.running) (h:∀ W',Env A W W'→Q own A g W'):Mn P Q ph [] own A g W
 | step {ph:Ph} {pend:List Nat} {own A:Nat→Prop} {g:Goroutine} {W:World} (hr:g.status=.running)
   (h1:∀ W',Env A W W'→∃ g' W1 es,stepG P true g W'=.go g' W1 es∧Does own A W' W1 es∧g'.status=.running)
   (h2:∀ W' g' W1 es,Env A W W'→stepG P true g W'=.go g' W1 es→Mn P Q ph pend (grow own W' W1) (grow A W' W1) g' W1):Mn P Q ph pend own A g W
 | phase {ph:Ph} {own A:Nat→Prop} {g:Goroutine} {W:World} (hr:g.status=.running) (ph' : Ph) (hon:ph'.on=true) (ho:own ph'.c) (hc:∀ W',Env A W W'→W'.heap[ph'.c]?=some (.chan ph'.cap #[] false 0 0 false))
   (h:Mn P Q ph' [] (fun b=>own b∧b≠ph'.c) (fun b=>A b∧b≠ph'.c) g W):Mn P Q ph [] own A g W
 | reclaim {ph:Ph} {own A:Nat→Prop} {g:Goroutine} {W:World} (hr:g.status=.running) (own2:Nat→Prop) (h2:∀ b,own2 b→A b) (h:Mn P Q ph [] own2 A g W):Mn P Q ph [] own A g W
 | spawn {ph:Ph} {pend:List Nat} {own A:Nat→Prop} {g:Goroutine} {W:World} (hr:g.status=.running) (hon:ph.on=true) (k:Nat) (Ac:Nat→Prop) (hAc:∀ b,Ac b→A b) (hcap:ph.cap=0∨pend.length<ph.cap)
   (h1:∀ W',Env A W W'→∃ g' ch,stepG P true g W'=.spawn g' ch W' #[]∧g'.status=.running∧Wk P ph.c (ph.posts k) (fun _=>False) Ac ch W')
   (h2:∀ W' g' ch,Env A W W'→stepG P true g W'=.spawn g' ch W' #[]→Mn P Q ph (k :: pend) (fun b=>own b∧¬ Ac b) A g' W'):Mn P Q ph pend own A g W
 | recv {ph:Ph} {pend:List Nat} {own A:Nat→Prop} {g:Goroutine} {W:World} (hr:g.status=.running) (hon:ph.on=true) (hp:pend≠[]) (z:Value) (ok:Bool)
   (h1:∀ W',Env A W W'→∃ g2,stepG P true g W'=.comm g2 #[rcase ph.c z] true (.recv ok) W' #[])
   (h2:∀ W' W'' g2 k ownk Ak v Wk,Env A W W'→stepG P true g W'=.comm g2 #[rcase ph.c z] true (.recv ok) W' #[]→Env A W' W''→k∈pend→ph.posts k ownk Ak v Wk→Env Ak Wk W''→(∀ x,ownk x→¬ A x) →
    Mn P Q ph (pend.erase k) (fun b=>own b∨ownk b) (fun b=>A b∨Ak b) (g2.finishComm P #[rcase ph.c z] (.recv ok) 0 v true) W''):Mn P Q ph pend own A g W
section
variable {P:Program} {Q:(Nat→Prop)→(Nat→Prop)→Goroutine→World→Prop}
theorem Mn.running {ph:Ph} {pend:List Nat} {own A:Nat→Prop} {g:Goroutine} {W:World} (h:Mn P Q ph pend own A g W):g.status=.running:=by
 cases h<;>assumption
theorem Mn.env {ph:Ph} {pend:List Nat} {own A:Nat→Prop} {g:Goroutine} {W:World} (h:Mn P Q ph pend own A g W):∀ {W' : World},Env A W W'→Mn P Q ph pend own A g W':=by
 induction h with
 | done hr h=>exact fun he=>.done hr fun W'' h''=>h W'' (he.trans h'')
 | step hr h1 h2=>exact fun he=>.step hr (fun W'' h''=>h1 W'' (he.trans h'')) fun W'' g' W1 es h''=>h2 W'' g' W1 es (he.trans h'')
 | phase hr ph' hon ho hc _ ih=>exact fun he=>.phase hr ph' hon ho (fun W'' h''=>hc W'' (he.trans h'')) (ih ⟨fun x hx=>he.heap x hx.1,he.size,he.os,he.output⟩)
 | reclaim hr own2 h2 _ ih=>exact fun he=>.reclaim hr own2 h2 (ih he)
 | spawn hr hon k Ac hAc hcap h1 h2=>exact fun he=>.spawn hr hon k Ac hAc hcap (fun W'' h''=>h1 W'' (he.trans h'')) fun W'' g' ch h''=>h2 W'' g' ch (he.trans h'')
 | recv hr hon hp z ok h1 h2=>exact fun he=>.recv hr hon hp z ok (fun W'' h''=>h1 W'' (he.trans h'')) fun W2 W3 g2 k ownk Ak v Wk h''=>h2 W2 W3 g2 k ownk Ak v Wk (he.trans h'')
theorem zeQ (S:Nat→Prop) (W:World):grow S W W=S:=by
 funext x
 unfold grow
 exact propext ⟨fun h=>h.elim id fun h=>by omega,.inl⟩
theorem Mn.ctl {ph:Ph} {pend:List Nat} {own A:Nat→Prop} {g g' : Goroutine} {W:World} (hr:g.status=.running) (hr' : g'.status=.running) (h:∀ W',stepG P true g W'=.go g' W' #[]) (hm:Mn P Q ph pend own A g' W):Mn P Q ph pend own A g W:=by
 refine .step hr (fun W' _=>⟨g',W',#[],h W',⟨fun e he=>(Array.not_mem_empty e he).elim,Nat.le_refl _,fun _ _ _=>rfl,rfl,rfl⟩,hr'⟩) fun W' g2 W1 es he hs=>?_
 rw [h W'] at hs
 cases hs
 rw [zeQ,zeQ]
 exact hm.env he
theorem Mn.of_act {ph:Ph} {pend:List Nat} {Q' : (Nat→Prop)→(Nat→Prop)→Frame→List Frame→World→Prop} {own A:Nat→Prop} {fr:Frame} {cs:List Frame} {W:World} (h:Act P Q' own A fr cs W)
  (hq:∀ own A fr cs W,Q' own A fr cs W→Mn P Q ph pend own A { frame:=fr,callers:=cs,status:=.running,dying:=none } W) :
  Mn P Q ph pend own A { frame:=fr,callers:=cs,status:=.running,dying:=none } W:=by
 induction h with
 | done h=>exact hq _ _ _ _ _ h
 | step h1 _ ih =>
  refine .step rfl (fun W' he=>?_) fun W' g' W1 es he hs=>?_
  ·obtain⟨fr',cs',W1,es,h,hd⟩:=h1 W' true .running none he
   exact⟨_,W1,es,h,hd,rfl⟩
  ·obtain⟨fr',cs',W2,es2,h,hd⟩:=h1 W' true .running none he
   rw [h] at hs
   cases hs
   exact ih W' true .running none fr' cs' W1 es he h
end
end Go.Con
namespace Go.Con
open Go Go.Conc
variable [Lone]
structure ZC (ph:Ph) (n:Nat) (W:World) (t:Trace) (Z:Nat→Option Zone):Prop where
 out:∀ j,n≤j→Z j=none
 sub:∀ j z b,Z j=some z→z.own b→z.A b
 low:∀ j z b,Z j=some z→z.A b→b<W.heap.size∧(ph.on=true→b≠ph.c)
 dis:∀ i j zi zj b,i≠j→Z i=some zi→Z j=some zj→zi.own b→¬ zj.A b
 ti:TI t Z
 below:Below t W.heap.size
 new:∀ (i:Nat) (op:MemOp),t[i]?=some op→op.g<n
 chan:ph.on=true→ph.c<W.heap.size
theorem ZC.env {ph:Ph} {n:Nat} {W:World} {t:Trace} {Z:Nat→Option Zone} (h:ZC ph n W t Z) {i j:Nat} {z zj:Zone} (hij:j≠i) (hz:Z i=some z) (hzj:Z j=some zj) {W1:World} {es:Array Event}
  (hd:Does z.own z.A W W1 es):Env zj.A W W1 :=
 ⟨fun x hx=>hd.keep x (h.low j zj x hzj hx).1 fun ho=>h.dis i j z zj x (Ne.symm hij) hz hzj ho hx,hd.size,hd.os,hd.output⟩
theorem ZC.go {ph:Ph} {n:Nat} {W:World} {t:Trace} {Z:Nat→Option Zone} (h:ZC ph n W t Z) {i:Nat} (hi:i<n) {z:Zone} (hz:Z i=some z) {W1:World} {es:Array Event} (hd:Does z.own z.A W W1 es) {fn:FuncId} {pos:String} :
  ZC ph n W1 (t++MemOp.ofEvents i fn pos es) (setZ Z i (some ⟨grow z.own W W1,grow z.A W W1⟩)):=by
 have hfresh:∀ (j:Nat) (zj:Zone) (b:Nat),Z j=some zj→zj.A b→¬ (W.heap.size≤b∧b<W1.heap.size):=fun j zj b hj hb hx=>by
  have:=(h.low j zj b hj hb).1;omega
 refine⟨fun j hj=>?_,fun j z2 b hz2 hb=>?_,fun j z2 b hz2 hb=>?_,fun a j za zj b haj hza hzj hb hA=>?_,?_,fun a x b ha hb=>?_,fun a op ha=>?_,fun hon=>Nat.lt_of_lt_of_le (h.chan hon) hd.size⟩
 ·rw [zas _ _ (by omega)];exact h.out j hj
 ·by_cases e:j=i
  ·subst e
   rw [zao] at hz2
   cases hz2
   exact hb.imp (h.sub j z b hz) id
  ·rw [zas _ _ e] at hz2
   exact h.sub j z2 b hz2 hb
 ·by_cases e:j=i
  ·subst e
   rw [zao] at hz2
   cases hz2
   rcases hb with hb | hb
   ·exact⟨Nat.lt_of_lt_of_le (h.low j z b hz hb).1 hd.size,(h.low j z b hz hb).2⟩
   ·exact⟨hb.2,fun hon e=>by have:=h.chan hon;omega⟩
  ·rw [zas _ _ e] at hz2
   exact⟨Nat.lt_of_lt_of_le (h.low j z2 b hz2 hb).1 hd.size,(h.low j z2 b hz2 hb).2⟩
 ·by_cases ea:a=i
  ·subst ea
   rw [zao] at hza
   cases hza
   rw [zas _ _ (Ne.symm haj)] at hzj
   rcases hb with hb | hb
   ·exact h.dis a j z zj b haj hz hzj hb hA
   ·exact hfresh j zj b hzj hA hb
  ·rw [zas _ _ ea] at hza
   by_cases ej:j=i
   ·subst ej
    rw [zao] at hzj
    cases hzj
    rcases hA with hA | hA
    ·exact h.dis a j za z b haj hza hz hb hA
    ·exact hfresh a za b hza (h.sub a za b hza hb) hA
   ·rw [zas _ _ ej] at hzj
    exact h.dis a j za zj b haj hza hzj hb hA
 ·refine h.ti.go hz h.below (fun g' z2 hg' hz2=>⟨fun b hb hA=>?_,fun b hA hb=>?_⟩) hd.ev
  ·rcases hb with hb | hb
   ·exact h.dis i g' z z2 b (Ne.symm hg') hz hz2 hb hA
   ·exact hfresh g' z2 b hz2 hA hb
  ·rcases hA with hA | hA
   ·exact h.dis g' i z2 z b hg' hz2 hz hb hA
   ·exact hfresh g' z2 b hz2 (h.sub g' z2 b hz2 hb) hA
 ·obtain⟨op,ho,hox⟩:=touch_of ha
  rcases getElem?_append_cases ho with ⟨_,ho'⟩ | ⟨_,hou⟩
  ·exact Nat.lt_of_lt_of_le (h.below a x b (by rw [touchAt_of ho'];exact hox) hb) hd.size
  ·obtain⟨bb,hbb,hA,_⟩:=zeJ hd.ev hou hox
   have hbe:bb=b:=Option.some.inj (hbb.symm.trans hb)
   subst hbe
   rcases hA with hA | hA
   ·exact Nat.lt_of_lt_of_le (h.low i z bb hz hA).1 hd.size
   ·exact hA.2
 ·rcases getElem?_append_cases ha with ⟨_,ho'⟩ | ⟨_,hou⟩
  ·exact h.new a op ho'
  ·obtain⟨e,_,rfl⟩:=Go.Conc.mem_ofEvents hou
   exact hi
theorem ZC.mute {ph:Ph} {n:Nat} {W:World} {t:Trace} {Z:Nat→Option Zone} (h:ZC ph n W t Z) {op:MemOp} (ho:Mute op) (hg:op.g<n):ZC ph n W (t.push op) Z:=by
 refine⟨h.out,h.sub,h.low,h.dis,h.ti.mute ho,fun a x b ha hb=>?_,fun a o ha=>?_,h.chan⟩
 ·obtain⟨o,h1,h2⟩:=touch_of ha
  rw [Array.getElem?_push] at h1
  split at h1
  ·cases h1;rw [ho.1] at h2;cases h2
  ·exact h.below a x b (by rw [touchAt_of h1];exact h2) hb
 ·rw [Array.getElem?_push] at ha
  split at ha
  ·cases ha;exact hg
  ·exact h.new a o ha
theorem ZC.world {ph:Ph} {n:Nat} {W W1:World} {t:Trace} {Z:Nat→Option Zone} (h:ZC ph n W t Z) (hs:W1.heap.size=W.heap.size):ZC ph n W1 t Z :=
 ⟨h.out,h.sub,fun j z b hz hb=>by rw [hs];exact h.low j z b hz hb,h.dis,h.ti,by rw [hs];exact h.below,h.new,by rw [hs];exact h.chan⟩
theorem ZC.take {ph:Ph} {n:Nat} {W:World} {t:Trace} {Z:Nat→Option Zone} (h:ZC ph n W t Z) {z0 zj:Zone} {j p q c k:Nat} (h0:Z 0=some z0) (hj:Z j=some zj) (hj0:j≠0) (hn:0<n)
  {x y:MemOp} (hp:t[p]?=some x) (hxg:x.g=j) (hxa:x.act=.send c k) (hq:t[q]?=some y) (hyg:y.g=0) (hya:y.act=.recvDone c k)
  (hlast:∀ (i:Nat) (op:MemOp),t[i]?=some op→op.g=j→op.act.touch?.isSome=true→i<p) :
  ZC ph n W t (setZ (setZ Z j none) 0 (some ⟨fun b=>z0.own b∨zj.own b,fun b=>z0.A b∨zj.A b⟩)):=by
 refine⟨fun i hi=>?_,fun i z b hz hb=>?_,fun i z b hz hb=>?_,fun a i za zi b hai hza hzi hb hA=>?_,?_,h.below,h.new,h.chan⟩
 ·rw [zas _ _ (by omega)]
  by_cases e:i=j
  ·subst e;exact zao ..
  ·rw [zas _ _ e];exact h.out i hi
 ·by_cases e:i=0
  ·subst e;rw [zao] at hz;cases hz
   exact hb.imp (h.sub 0 z0 b h0) (h.sub j zj b hj)
  ·rw [zas _ _ e] at hz
   by_cases e2:i=j
   ·subst e2;rw [zao] at hz;cases hz
   ·rw [zas _ _ e2] at hz;exact h.sub i z b hz hb
 ·by_cases e:i=0
  ·subst e;rw [zao] at hz;cases hz
   exact hb.elim (h.low 0 z0 b h0) (h.low j zj b hj)
  ·rw [zas _ _ e] at hz
   by_cases e2:i=j
   ·subst e2;rw [zao] at hz;cases hz
   ·rw [zas _ _ e2] at hz;exact h.low i z b hz hb
 ·by_cases ea:a=0
  ·subst ea
   rw [zao] at hza
   cases hza
   rw [zas _ _ (Ne.symm hai)] at hzi
   by_cases e2:i=j
   ·subst e2;rw [zao] at hzi;cases hzi
   ·rw [zas _ _ e2] at hzi
    rcases hb with hb | hb
    ·exact h.dis 0 i z0 zi b hai h0 hzi hb hA
    ·exact h.dis j i zj zi b (Ne.symm e2) hj hzi hb hA
  ·rw [zas _ _ ea] at hza
   by_cases e2:a=j
   ·subst e2;rw [zao] at hza;cases hza
   ·rw [zas _ _ e2] at hza
    by_cases ei:i=0
    ·subst ei
     rw [zao] at hzi
     cases hzi
     rcases hA with hA | hA
     ·exact h.dis a 0 za z0 b ea hza h0 hb hA
     ·exact h.dis a j za zj b e2 hza hj hb hA
    ·rw [zas _ _ ei] at hzi
     by_cases e3:i=j
     ·subst e3;rw [zao] at hzi;cases hzi
     ·rw [zas _ _ e3] at hzi
      exact h.dis a i za zi b hai hza hzi hb hA
 ·exact h.ti.take h0 (fun l zl hl0 hlj hzl=>⟨fun b hb hA=>h.dis j l zj zl b (Ne.symm hlj) hj hzl hb hA,fun b hb hA=>h.dis l j zl zj b hlj hzl hj hb hA⟩) hp hxg hxa hq hyg hya hlast
theorem ZC.spawn {ph:Ph} {n:Nat} {W:World} {t:Trace} {Z:Nat→Option Zone} (h:ZC ph n W t Z) {z0:Zone} {Ac:Nat→Prop} (h0:Z 0=some z0) (hn:0<n) (hAc:∀ b,Ac b→z0.A b) {x y:MemOp}
  (hxg:x.g=0) (hxa:x.act=.go n) (hyg:y.g=n) (hya:y.act=.start) :
  ZC ph (n+1) W ((t.push x).push y) (setZ (setZ Z n (some ⟨fun _=>False,Ac⟩)) 0 (some ⟨fun b=>z0.own b∧¬ Ac b,z0.A⟩)):=by
 have mx:Mute x:=⟨by rw [hxa];rfl,fun m hm=>by rw [hxa] at hm;cases hm⟩
 have my:Mute y:=⟨by rw [hya];rfl,fun m hm=>by rw [hya] at hm;cases hm⟩
 have hpx:((t.push x).push y)[t.size]?=some x:=by simp [Array.getElem?_push]
 have hpy:((t.push x).push y)[t.size+1]?=some y:=by
  rw [Array.getElem?_push,if_pos (by simp)]
 have old:∀ (i:Nat) (op:MemOp),((t.push x).push y)[i]?=some op→t[i]?=some op∨(i=t.size∧op=x)∨(i=t.size+1∧op=y):=by
  intro i op hi
  rw [Array.getElem?_push] at hi
  split at hi
  ·rename_i e;cases hi;exact .inr (.inr ⟨by simpa using e,rfl⟩)
  ·rw [Array.getElem?_push] at hi
   split at hi
   ·rename_i e;cases hi;exact .inr (.inl ⟨e,rfl⟩)
   ·exact .inl hi
 have hnz:n≠0:=by omega
 refine⟨fun i hi=>?_,fun i z b hz hb=>?_,fun i z b hz hb=>?_,fun a i za zi b hai hza hzi hb hA=>?_,?_,fun i z b hi hb=>?_,fun i op hi=>?_,h.chan⟩
 ·rw [zas _ _ (by omega),zas _ _ (by omega)];exact h.out i (by omega)
 ·by_cases e:i=0
  ·subst e;rw [zao] at hz;cases hz
   exact h.sub 0 z0 b h0 hb.1
  ·rw [zas _ _ e] at hz
   by_cases e2:i=n
   ·subst e2;rw [zao] at hz;cases hz;exact hb.elim
   ·rw [zas _ _ e2] at hz;exact h.sub i z b hz hb
 ·by_cases e:i=0
  ·subst e;rw [zao] at hz;cases hz
   exact h.low 0 z0 b h0 hb
  ·rw [zas _ _ e] at hz
   by_cases e2:i=n
   ·subst e2;rw [zao] at hz;cases hz;exact h.low 0 z0 b h0 (hAc b hb)
   ·rw [zas _ _ e2] at hz;exact h.low i z b hz hb
 ·by_cases ea:a=0
  ·subst ea
   rw [zao] at hza
   cases hza
   rw [zas _ _ (Ne.symm hai)] at hzi
   by_cases e2:i=n
   ·subst e2;rw [zao] at hzi;cases hzi;exact hb.2 hA
   ·rw [zas _ _ e2] at hzi
    exact h.dis 0 i z0 zi b hai h0 hzi hb.1 hA
  ·rw [zas _ _ ea] at hza
   by_cases e2:a=n
   ·subst e2;rw [zao] at hza;cases hza;exact hb.elim
   ·rw [zas _ _ e2] at hza
    by_cases ei:i=0
    ·subst ei
     rw [zao] at hzi
     cases hzi
     exact h.dis a 0 za z0 b ea hza h0 hb hA
    ·rw [zas _ _ ei] at hzi
     by_cases e3:i=n
     ·subst e3;rw [zao] at hzi;cases hzi
      exact h.dis a 0 za z0 b ea hza h0 hb (hAc b hA)
     ·rw [zas _ _ e3] at hzi
      exact h.dis a i za zi b hai hza hzi hb hA
 ·refine ((h.ti.mute mx).mute my).start h0 hAc (fun l zl hl hzl b hb hA=>h.dis l 0 zl z0 b hl hzl h0 hb hA) hpx hxa hpy hyg hya (fun i op hi hg=>?_) (fun i op hi hs hk=>?_)
  ·rcases old i op hi with h1 | ⟨_,rfl⟩ | ⟨_,rfl⟩
   ·have:=h.new i op h1;omega
   ·exact mx.1
   ·exact my.1
  ·obtain⟨q,zq,hq,hqg,hb⟩:=hk
   have hqt:q<t.size∨q=t.size:=by
    rcases old q zq hq with h1 | ⟨rfl,_⟩ | ⟨_,rfl⟩
    ·exact .inl (Array.getElem?_eq_some_iff.1 h1).1
    ·exact .inr rfl
    ·omega
   have hit:i<t.size:=by
    rcases old i op hi with h1 | ⟨_,rfl⟩ | ⟨_,rfl⟩
    ·exact (Array.getElem?_eq_some_iff.1 h1).1
    ·rw [mx.1] at hs;cases hs
    ·rw [my.1] at hs;cases hs
   rcases hqt with hqt | rfl
   ·exact hb.hb (hb_po hqt hq hpx (hqg.trans hxg.symm))
   ·rcases hb with rfl | hb
    ·omega
    ·exact hb
 ·obtain⟨op,h1,h2⟩:=touch_of hi
  rcases old i op h1 with h3 | ⟨_,rfl⟩ | ⟨_,rfl⟩
  ·exact h.below i z b (by rw [touchAt_of h3];exact h2) hb
  ·rw [mx.1] at h2;cases h2
  ·rw [my.1] at h2;cases h2
 ·rcases old i op hi with h1 | ⟨_,rfl⟩ | ⟨_,rfl⟩
  ·have:=h.new i op h1;omega
  ·omega
  ·omega
theorem ZC.phase {ph ph' : Ph} {n:Nat} {W:World} {t:Trace} {Z:Nat→Option Zone} (h:ZC ph n W t Z) {z0:Zone} (h0:Z 0=some z0) (ho:z0.own ph'.c) (hnone:∀ j,j≠0→Z j=none) :
  ZC ph' n W t (setZ Z 0 (some ⟨fun b=>z0.own b∧b≠ph'.c,fun b=>z0.A b∧b≠ph'.c⟩)):=by
 have only:∀ j z,setZ Z 0 (some ⟨fun b=>z0.own b∧b≠ph'.c,fun b=>z0.A b∧b≠ph'.c⟩) j=some z→j=0∧z=⟨fun b=>z0.own b∧b≠ph'.c,fun b=>z0.A b∧b≠ph'.c⟩:=by
  intro j z hz
  by_cases e:j=0
  ·subst e;rw [zao] at hz;cases hz;exact⟨rfl,rfl⟩
  ·rw [zas _ _ e,hnone j e] at hz;cases hz
 have hn:0<n:=by
  rcases Nat.eq_zero_or_pos n with e | e
  ·have:=h.out 0 (by omega);rw [this] at h0;cases h0
  ·exact e
 refine⟨fun j hj=>?_,fun j z b hz hb=>?_,fun j z b hz hb=>?_,fun a j za zj b haj hza hzj=>?_,?_,h.below,h.new,fun _=>(h.low 0 z0 _ h0 (h.sub 0 z0 _ h0 ho)).1⟩
 ·rw [zas _ _ (by omega)];exact h.out j hj
 ·obtain⟨rfl,rfl⟩:=only j z hz;exact⟨h.sub 0 z0 b h0 hb.1,hb.2⟩
 ·obtain⟨rfl,rfl⟩:=only j z hz;exact⟨(h.low 0 z0 b h0 hb.1).1,fun _=>hb.2⟩
 ·obtain⟨rfl,_⟩:=only a za hza;obtain⟨rfl,_⟩:=only j zj hzj;exact (haj rfl).elim
 ·refine⟨h.ti.clean,h.ti.word,fun i x g z hx hm hz=>?_,fun i op x z hi hx hm hne hz=>?_,fun i op x hi hx hm hne hz=>?_⟩
  ·obtain⟨rfl,rfl⟩:=only g z hz
   exact (h.ti.sep i x 0 z0 hx hm h0).imp id fun hs b hb=>⟨fun ho=>(hs b hb).1 ho.1,fun hw hA=>(hs b hb).2 hw hA.1⟩
  ·exact (hne (only _ _ hz).1).elim
  ·rw [zas _ _ hne] at hz;exact h.ti.gone i op x hi hx hm hne hz
theorem ZC.reclaim {ph:Ph} {n:Nat} {W:World} {t:Trace} {Z:Nat→Option Zone} (h:ZC ph n W t Z) {z0:Zone} {own2:Nat→Prop} (h0:Z 0=some z0) (h2:∀ b,own2 b→z0.A b) (hnone:∀ j,j≠0→Z j=none) :
  ZC ph n W t (setZ Z 0 (some ⟨own2,z0.A⟩)):=by
 have only:∀ j z,setZ Z 0 (some ⟨own2,z0.A⟩) j=some z→j=0∧z=⟨own2,z0.A⟩:=by
  intro j z hz
  by_cases e:j=0
  ·subst e;rw [zao] at hz;cases hz;exact⟨rfl,rfl⟩
  ·rw [zas _ _ e,hnone j e] at hz;cases hz
 refine⟨fun j hj=>?_,fun j z b hz hb=>?_,fun j z b hz hb=>?_,fun a j za zj b haj hza hzj=>?_,?_,h.below,h.new,h.chan⟩
 ·have hn:j≠0:=by
   rintro rfl
   rw [h.out 0 hj] at h0;cases h0
  rw [zas _ _ hn];exact h.out j hj
 ·obtain⟨rfl,rfl⟩:=only j z hz;exact h2 b hb
 ·obtain⟨rfl,rfl⟩:=only j z hz;exact h.low 0 z0 b h0 hb
 ·obtain⟨rfl,_⟩:=only a za hza;obtain⟨rfl,_⟩:=only j zj hzj;exact (haj rfl).elim
 ·refine⟨h.ti.clean,h.ti.word,fun i x g z hx hm hz=>?_,fun i op x z hi hx hm hne hz=>?_,fun i op x hi hx hm hne hz=>?_⟩
  ·obtain⟨rfl,rfl⟩:=only g z hz
   obtain⟨op,ho,hox⟩:=touch_of hx
   by_cases e0:op.g=0
   ·have:=knows_own ho;rw [e0] at this;exact .inl this
   ·exact .inl (h.ti.gone i op x ho hox hm e0 (hnone _ e0))
  ·exact (hne (only _ _ hz).1).elim
  ·rw [zas _ _ hne] at hz;exact h.ti.gone i op x hi hx hm hne hz
end Go.Con
namespace Go.Con
open Go Go.Conc
variable [Lone]
inductive Ws
 | live (k:Nat) (own A:Nat→Prop) (g:Goroutine) (W:World)
 | parked (k:Nat) (own A:Nat→Prop) (v:Value) (W:World)
 | sent (n k:Nat) (own A:Nat→Prop) (v:Value) (W:World)
 | gone (n:Nat)
def Ws.key:Ws→Option Nat
 | .live k .. | .parked k .. | .sent _ k ..=>some k
 | .gone _=>none
def WOk (P:Program) (ph:Ph) (W:World) (x:Ws) (g:Goroutine) (z:Option Zone):Prop:=match x with
 | .live k own A g0 W0=>g=g0∧z=some ⟨own,A⟩∧Env A W0 W∧ph.on=true∧Wk P ph.c (ph.posts k) own A g0 W0
 | .parked k own A v W0=>z=some ⟨own,A⟩∧Env A W0 W∧ph.posts k own A v W0∧ph.on=true∧∃ g2 zz n,g=parked g2 #[scase ph.c v zz] .send∧QuitsIn P n (g2.finishComm P #[scase ph.c v zz] .send 0 undef false)
 | .sent n k own A v W0=>QuitsIn P n g∧z=some ⟨own,A⟩∧Env A W0 W∧ph.posts k own A v W0
 | .gone n=>QuitsIn P n g∧z=none
inductive WLt (P:Program):Ws→Ws→Prop
 | step {k:Nat} {own A:Nat→Prop} {g g' : Goroutine} {W W' W1:World} {es:Array Event} (he:Env A W W') (hs:stepG P false g W'=.go g' W1 es):WLt P (.live k (grow own W' W1) (grow A W' W1) g' W1) (.live k own A g W)
 | park {k k' : Nat} {own A own' A' : Nat→Prop} {g:Goroutine} {W W' : World} {v:Value}:WLt P (.parked k' own' A' v W') (.live k own A g W)
 | send {n k k' : Nat} {own A own' A' : Nat→Prop} {g:Goroutine} {W W' : World} {v:Value}:WLt P (.sent n k' own' A' v W') (.live k own A g W)
 | quitS {m n k:Nat} {own A:Nat→Prop} {W:World} {v:Value} (h:m<n):WLt P (.sent m k own A v W) (.sent n k own A v W)
 | quitG {m n:Nat} (h:m<n):WLt P (.gone m) (.gone n)
inductive LLt (P:Program):List Ws→List Ws→Prop
 | mk {l:List Ws} {j:Nat} {x y:Ws} (hx:l[j]?=some x) (h:WLt P y x):LLt P (l.set j y) l
section
variable {P:Program}
theorem zfa {k:Nat} {own A:Nat→Prop} {v:Value} {W:World}:Acc (WLt P) (.parked k own A v W):=.intro _ fun y hy=>by cases hy
theorem zkY (n:Nat):Acc (WLt P) (.gone n):=by
 induction n using Nat.strongRecOn with
 | _ n ih =>
  refine .intro _ fun y hy=>?_
  cases hy with
  | quitG h=>exact ih _ h
theorem zia {k:Nat} {own A:Nat→Prop} {v:Value} {W:World} (n:Nat):Acc (WLt P) (.sent n k own A v W):=by
 induction n using Nat.strongRecOn with
 | _ n ih =>
  refine .intro _ fun y hy=>?_
  cases hy with
  | quitS h=>exact ih _ h
theorem zok {c k:Nat} {Post:Hand} {own A:Nat→Prop} {g:Goroutine} {W:World} (h:Wk P c Post own A g W):Acc (WLt P) (.live k own A g W):=by
 induction h with
 | step hr h1 h2 ih =>
  refine .intro _ fun y hy=>?_
  cases hy with
  | step he hs=>exact ih _ _ _ _ he hs
  | park=>exact zfa
  | send=>exact zia _
 | send hr v z h =>
  refine .intro _ fun y hy=>?_
  cases hy with
  | step he hs =>
   obtain⟨_,g2,q,hst,_⟩:=h _ he
   rw [hst] at hs
   cases hs
  | park=>exact zfa
  | send=>exact zia _
theorem zoj {x:Ws} (hx:Acc (WLt P) x):∀ {l:List Ws},Acc (LLt P) l→Acc (LLt P) (x :: l):=by
 induction hx with
 | intro x hx ihx =>
  intro l hl
  induction hl with
  | intro l hl ihl =>
   refine .intro _ fun y hy=>?_
   generalize hl0:x :: l=l0 at hy
   cases hy with
   | @mk _ j x' y' hxj hlt =>
    subst hl0
    cases j with
    | zero =>
     simp only [List.getElem?_cons_zero,Option.some.injEq] at hxj
     subst hxj
     exact ihx _ hlt (.intro l hl)
    | succ j =>
     simp only [List.getElem?_cons_succ] at hxj
     exact ihl _ ⟨hxj,hlt⟩
theorem zkZ:∀ {l:List Ws},(∀ x∈l,Acc (WLt P) x)→Acc (LLt P) l
 | [],_=>.intro _ fun y hy=>by
  generalize hl0:([]:List Ws)=l0 at hy
  cases hy with
  | mk hx _=>subst hl0;cases hx
 | x :: l,h=>zoj (h x (List.mem_cons_self ..)) (zkZ fun y hy=>h y (List.mem_cons_of_mem _ hy))
theorem WOk.acc {ph:Ph} {W:World} {x:Ws} {g:Goroutine} {z:Option Zone} (h:WOk P ph W x g z):Acc (WLt P) x:=by
 cases x with
 | live k own A g0 W0=>exact zok h.2.2.2.2
 | parked=>exact zfa
 | sent n=>exact zia n
 | gone n=>exact zkY n
theorem WOk.env {ph:Ph} {W W1:World} {x:Ws} {g:Goroutine} {z:Option Zone} (h:WOk P ph W x g z) (he:∀ zz,z=some zz→Env zz.A W W1):WOk P ph W1 x g z:=by
 cases x with
 | live k own A g0 W0=>exact⟨h.1,h.2.1,h.2.2.1.trans (he _ h.2.1),h.2.2.2⟩
 | parked k own A v W0=>exact⟨h.1,h.2.1.trans (he _ h.1),h.2.2⟩
 | sent n k own A v W0=>exact⟨h.1,h.2.1,h.2.2.1.trans (he _ h.2.1),h.2.2.2⟩
 | gone n=>exact h
theorem WOk.status {ph:Ph} {W:World} {x:Ws} {g:Goroutine} {z:Option Zone} (h:WOk P ph W x g z):g.status=.running∨g.status=.blocked∨g.status=.finished:=by
 have q:∀ {n:Nat} {g:Goroutine},QuitsIn P n g→g.status=.running∨g.status=.blocked∨g.status=.finished:=by
  intro n g h
  cases n with
  | zero=>exact .inr (.inr h)
  | succ n=>exact h.elim (fun h=>.inr (.inr h)) fun h=>.inl h.1
 cases x with
 | live k own A g0 W0=>rw [h.1];exact .inl h.2.2.2.2.running
 | parked k own A v W0=>obtain⟨_,_,_,_,g2,zz,n,rfl,_⟩:=h;exact .inr (.inl rfl)
 | sent n k own A v W0=>exact q h.1
 | gone n=>exact q h.1
theorem WOk.woken {ph:Ph} {W W' : World} {x:Ws} {g a a' : Goroutine} {z:Option Zone} {cap s r:Nat} {buf:Array Value} {tm:Bool} (h:WOk P ph W x g z) (hc:ph.on=true→W'.heap[ph.c]?=some (.chan cap buf false s r tm)):Go.Conc.woken P a a' W' g=g:=by
 have q:∀ {n:Nat} {g:Goroutine},QuitsIn P n g→g.status=.running∨g.status=.finished:=by
  intro n g h
  cases n with
  | zero=>exact .inr h
  | succ n=>exact h.elim .inr fun h=>.inl h.1
 have w:∀ {g:Goroutine},g.status=.running∨g.status=.finished→Go.Conc.woken P a a' W' g=g:=by
  intro g hg
  unfold Go.Conc.woken
  split
  ·exact again_running _ hg
  ·rfl
 cases x with
 | live k own A g0 W0=>rw [h.1];exact w (.inl h.2.2.2.2.running)
 | parked k own A v W0=>obtain⟨_,_,_,hon,g2,zz,n,rfl,_⟩:=h;exact woken_send_open _ _ (hc hon)
 | sent n k own A v W0=>exact w (q h.1)
 | gone n=>exact w (q h.1)
end
end Go.Con
