import Derived.Test.YtedomogjmhommaaH38
import Derived.Conc.Quits
set_option linter.all false
set_option maxRecDepth 100000
set_option maxHeartbeats 8000000
namespace Go.Con
open Go Go.Conc
variable [Lone]
section
variable {P:Program} {maps:Bool} {E Fz Arg:Nat→Prop} {W0:World} {ρ:Rn} {D own A:Nat→Prop} {fr fr' : Frame} {cs:List Frame} {W W' W'' : World}
variable {Q:(Nat→Prop)→(Nat→Prop)→Goroutine→World→Prop} {φ:Ph} {pend:List Nat}
theorem ziP {ops:Array Oper} {i:Nat} {rest:List Nat} {k:List Item} {o:Oper} (hm:fr.mode=.run) (hr:fr.roundOf=none) (ht:fr.todo=.inRegion ops (i :: rest) :: k) (hw:Region.wanted o (yielded ops fr.tmps)=true) (σ:Rn) :
  Region.wanted o (yielded ops (⟨fr.tmps.map (ren σ),fr.defers.map (zaE σ)⟩:Go.Act).tmps)=true ∧
  (zab σ fr).at ⟨fr.tmps.map (ren σ),fr.defers.map (zaE σ)⟩ (.inRegion ops (i :: rest) :: k.map (zal σ))=zab σ fr:=by
 refine⟨?_,?_⟩
 ·show Region.wanted o (yielded ops (fr.tmps.map (ren σ)))=true
  rw [show yielded ops (fr.tmps.map (ren σ))=yielded ops fr.tmps from funext fun j=>zce j];exact hw
 ·have:=zmQ (b:=zab σ fr) hm (by simp [zab,hr])
  rw [show (zab σ fr).todo=.inRegion ops (i :: rest) :: k.map (zal σ) by simp [zab,ht,zal]] at this
  exact this
theorem zd8 {ops:Array Oper} {i:Nat} {rest:List Nat} {k:List Item} {o:Oper} (hm:fr.mode=.run) (hr:fr.roundOf=none) (ht:fr.todo=.inRegion ops (i :: rest) :: k) (ho:ops[i]?=some o) (v:Value) (σ:Rn) :
  (zab σ fr).at ((⟨fr.tmps.map (ren σ),fr.defers.map (zaE σ)⟩:Go.Act).put o.dst (ren σ v)) (.inRegion ops rest :: k.map (zal σ))=zab σ (fr.finish v):=by
 rw [← zaQ]
 have h1:=(ziP (fr:=fr) (o:={ (default:Oper) with guard:=none }) hm hr ht rfl σ).2
 have h2:=Frame.finish_at (zab σ fr) ⟨fr.tmps.map (ren σ),fr.defers.map (zaE σ)⟩ ops i rest (k.map (zal σ)) (ren σ v)
 rw [h1,ho] at h2
 exact h2.symm
theorem zdo {D:Nat→Prop} (h:supF P D E fr) {v:Value} (hv:supV (gd P) D E v):supF P D E (fr.finish v):=by
 show zab (RA (gd P)) _=zab (RB (gd P) D E) _
 rw [← zaQ,← zaQ,show ren (RA (gd P)) v=ren (RB (gd P) D E) v from hv,show zab (RA (gd P)) fr=zab (RB (gd P) D E) fr from h]
theorem GoM.mkchan {ops:Array Oper} {i:Nat} {rest:List Nat} {k:List Item} {o:Oper} {cap:Nat} {posts:Nat→Hand} (hm:fr.mode=.run) (hr:fr.roundOf=none) (hk:fr.kind=.normal) (ht:fr.todo=.inRegion ops (i :: rest) :: k) (ho:ops[i]?=some o)
  (hw:Region.wanted o (yielded ops fr.tmps)=true)
  (hrun:∀ (σ:Rn) (w:World),RenOk P σ→(execOp (⟨fr.tmps.map (ren σ),fr.defers.map (zaE σ)⟩:Go.Act).eval o).run P w=.ok (.value (.chan (some w.heap.size))) { w with heap:=w.heap.push (.chan cap #[] false 0 0 false) } ∧
   (execOp (⟨fr.tmps.map (ren σ),fr.defers.map (zaE σ)⟩:Go.Act).eval o).events P w #[]=#[])
  (hg:∀ c,GoM P maps E Fz Arg W0 Q ⟨true,c,cap,posts⟩ [] (fr.finish (.chan (some (2 * c)))) cs W):GoM P maps E Fz Arg W0 Q φ [] fr cs W:=by
 intro ρ D own A W' hh
 have key:∀ W2:World,stepG P true (gor ρ fr cs) W2=.go (gor ρ (fr.finish (.chan (some (2 * W2.heap.size)))) cs) { W2 with heap:=W2.heap.push (.chan cap #[] false 0 0 false) } #[]:=by
  intro W2
  obtain⟨h1,h2⟩:=hrun ρ W2 hh.sim.rok
  obtain⟨s1,s2⟩:=ziP hm hr ht hw ρ
  have hst:=stepG_value (P:=P) (main:=true) (b:=zab ρ fr) (a:=⟨fr.tmps.map (ren ρ),fr.defers.map (zaE ρ)⟩) (k:=k.map (zal ρ)) (cs:=cs.map (zab ρ)) (w:=W2) (rest:=rest) ho s1 (by show fr.kind≠.early;rw [hk];simp) h1
  rw [zbr hm hr ht]
  refine hst.trans ?_
  have hl:listed P (zab ρ fr).fn ⟨fr.tmps.map (ren ρ),fr.defers.map (zaE ρ)⟩ o W2=#[]:=by
   unfold listed
   rw [h2];rfl
  have hv:ren ρ (.chan (some (2 * W2.heap.size)))=.chan (some W2.heap.size):=by
   simp only [ren,hh.tok];rfl
  have hfin:=zd8 (fr:=fr) (o:=o) hm hr ht ho (.chan (some (2 * W2.heap.size))) ρ
  rw [hv] at hfin
  rw [hl,hfin]
  rfl
 refine .step rfl (fun W2 he=>⟨_,_,_,key W2,⟨fun e he=>(Array.not_mem_empty e he).elim,by simp,fun x hx _=>by simp [Array.getElem?_push,Nat.ne_of_lt hx],rfl,rfl⟩,rfl⟩) fun W2 g' W1 es he hs=>?_
 rw [key W2] at hs
 cases hs
 have h2:=hh.env he
 refine .phase rfl ⟨true,W2.heap.size,cap,posts⟩ rfl (.inr ⟨Nat.le_refl _,by simp⟩) (fun W3 h3=>?_) ?_
 ·rw [h3.heap _ (.inr ⟨Nat.le_refl _,by simp⟩)];simp
 ·have hlt:∀ b,D b→ρ.p b<W2.heap.size:=fun b hb=>h2.sim.bd b (h2.sim.lt b hb)
  refine hg W2.heap.size ρ D _ _ _ ⟨?_,fun b hb hz=>⟨.inl (h2.hown b hb hz),Nat.ne_of_lt (hlt b hb)⟩,fun b hb=>⟨.inl (h2.hA b hb),Nat.ne_of_lt (hlt b hb)⟩,fun x hx=>?_,h2.ed,h2.tok,fun x hx=>?_,Nat.le_trans h2.far.1 (by simp),h2.far.2⟩
  ·have hs0:=h2.sim.env (W'':={ W2 with heap:=W2.heap.push (.chan cap #[] false 0 0 false) }) (fun b hb=>by simp [Array.getElem?_push,Nat.ne_of_lt (hlt b hb)]) (by simp) rfl rfl
   exact⟨hs0.rok,hs0.hG,hs0.lt,hs0.bd,hs0.fz,zdo hs0.sup (by simp only [supV,ren];rfl),hs0.sups,hs0.os,hs0.output,hs0.obj,hs0.supo⟩
  ·obtain⟨k1,k2,k3,k4⟩:=h2.keep x hx
   refine⟨⟨.inl k1,Nat.ne_of_lt k3⟩,fun ho=>ho.1.elim k2 fun h=>by omega,by simp;omega,?_⟩
   rw [← k4]
   simp [Array.getElem?_push,Nat.ne_of_lt k3]
  ·exact (h2.junk x hx).imp (fun h=>⟨.inl h,Nat.ne_of_lt (h2.sim.bd x hx)⟩) id
open Classical in
noncomputable def zb9 (Ac:Nat→Prop) (W:World):World :=
 { W with heap:=W.heap.mapIdx fun b o=>if Ac b then (match o with | .cells c e _=>.cells c e (0,c.size) | o=>o) else o }
theorem zcP (Ac:Nat→Prop) (W:World):(zb9 Ac W).heap.size=W.heap.size:=by simp [zb9]
open Classical in
theorem zgI (Ac:Nat→Prop) (W:World) (b:Nat):(zb9 Ac W).heap[b]?=(W.heap[b]?).map fun o=>if Ac b then (match o with | .cells c e _=>.cells c e (0,c.size) | o=>o) else o:=by
 simp [zb9,Array.getElem?_mapIdx]
theorem zjZ {D:Nat→Prop} {c:Array Value} {e:TypeId} {fz fz' : Nat×Nat} (h:za8 (gd P) D E (.cells c e fz)):za8 (gd P) D E (.cells c e fz'):=by
 simp only [za8,zau,Obj.cells.injEq,and_true] at h ⊢
 exact h
theorem Here.freeze (h:Here P maps E Fz Arg W0 ρ D own A fr cs W W') {Ac:Nat→Prop} (hAc:∀ b,Ac b→D b) (hfree:∀ b o,Ac b→W.heap[b]?=some o→zdh (mdOf P maps) o=false) {own2:Nat→Prop} (ho2:∀ b,D b→¬ Fz b→¬ Ac b→own2 (ρ.p b)) (ho3:∀ x,own2 x→own x) :
  Here P maps E (fun b=>Fz b∨Ac b) Arg W0 ρ D own2 A fr cs (zb9 Ac W) W':=by
 have cases:∀ b o,(zb9 Ac W).heap[b]?=some o→∃ o1,W.heap[b]?=some o1∧((¬ Ac b∧o=o1)∨(Ac b∧((∃ c e fz,o1=.cells c e fz∧o=.cells c e (0,c.size))∨(isCells o1=false∧o=o1)))):=by
  intro b o ho
  rw [zgI] at ho
  cases hb:W.heap[b]? with
  | none=>rw [hb] at ho;cases ho
  | some o1 =>
   rw [hb] at ho
   simp only [Option.map_some,Option.some.injEq] at ho
   refine⟨o1,rfl,?_⟩
   by_cases hz:Ac b
   ·rw [if_pos hz] at ho
    refine .inr ⟨hz,?_⟩
    cases o1<;>first
     | exact .inl ⟨_,_,_,rfl,ho.symm⟩
     | exact .inr ⟨rfl,ho.symm⟩
   ·rw [if_neg hz] at ho
    exact .inl ⟨hz,ho.symm⟩
 refine⟨⟨h.sim.rok,h.sim.hG,fun b hb=>by rw [zcP];exact h.sim.lt b hb,fun b hb=>h.sim.bd b (by rw [zcP] at hb;exact hb),fun b hb=>hb.elim (h.sim.fz b) (hAc b),h.sim.sup,h.sim.sups,h.sim.os,h.sim.output,fun b o hb ho=>?_,fun b o hb ho=>?_⟩,
  fun b hb hz=>ho2 b hb (fun h=>hz (.inl h)) fun h=>hz (.inr h),h.hA,fun x hx=>?_,fun b o ho=>?_,h.tok,fun x hx=>h.junk x (by rw [zcP] at hx;exact hx),h.far⟩
 ·obtain⟨o1,h1,h2⟩:=cases b o ho
  obtain⟨o',ho',hr⟩:=h.sim.obj b o1 hb h1
  refine⟨o',ho',?_⟩
  rcases h2 with ⟨hn,rfl⟩ | ⟨hz,⟨c,e,fz,rfl,rfl⟩ | ⟨hc,rfl⟩⟩
  ·cases hr with
   | frozen hf c e fz=>exact .frozen (.inl hf) c e fz
   | still hf h1 h2=>exact .still (.inl hf) h1 h2
   | own hf=>exact .own fun hx=>hx.elim hf hn
  ·cases hr with
   | frozen hf c e fz=>exact .frozen (.inl hf) c e fz
   | still hf h1 h2=>cases h1
   | own hf=>exact .frozen (.inr hz) c e fz
  ·have hfr:=hfree b _ hz h1
   cases hr with
   | frozen hf c e fz=>cases hc
   | still hf h1 h2=>exact .still (.inl hf) h1 h2
   | own hf=>exact .still (.inr hz) hc hfr
 ·obtain⟨o1,h1,h2⟩:=cases b o ho
  obtain⟨a1,a2,a3⟩:=h.sim.supo b o1 hb h1
  rcases h2 with ⟨hn,rfl⟩ | ⟨hz,⟨c,e,fz,rfl,rfl⟩ | ⟨hc,rfl⟩⟩
  ·exact⟨a1,a2,a3⟩
  ·exact⟨zjZ a1,rfl,rfl⟩
  ·exact⟨a1,a2,a3⟩
 ·obtain⟨k1,k2,k3,k4⟩:=h.keep x hx
  exact⟨k1,fun ho=>k2 (ho3 x ho),k3,k4⟩
 ·obtain⟨o1,h1,h2⟩:=cases b o ho
  have:=h.ed b o1 h1
  rcases h2 with ⟨hn,rfl⟩ | ⟨hz,⟨c,e,fz,rfl,rfl⟩ | ⟨hc,rfl⟩⟩
  ·exact this
  ·rfl
  ·exact this
theorem GoM.spawn {ops:Array Oper} {i:Nat} {rest:List Nat} {k:List Item} {o:Oper} {c:Call} {x:Operand} {g:FuncId} {captured:Array Value} {Ac:Nat→Prop} (kk:Nat) (hm:fr.mode=.run) (hr:fr.roundOf=none) (hk:fr.kind=.normal) (ht:fr.todo=.inRegion ops (i :: rest) :: k) (ho:ops[i]?=some o)
  (hw:Region.wanted o (yielded ops fr.tmps)=true) (hop:o.op=.go c) (hc:c.callee=.value x) (hx:zaS P x=true) (hargs:c.args=#[]) (hev:fr.eval x=.func (.func g) #[] captured) (hon:φ.on=true) (hcap:φ.cap=0∨pend.length<φ.cap)
  (hAc:∀ ρ D own A W',Here P maps E Fz Arg W0 ρ D own A fr cs W W'→∀ b,Ac b→D b) (hfree:∀ b o,Ac b→W.heap[b]?=some o→zdh (mdOf P maps) o=false)
  (hwk:∀ ρ D own A W',Here P maps E Fz Arg W0 ρ D own A fr cs W W'→Wk P φ.c (φ.posts kk) (fun _=>False) (fun x=>∃ b,Ac b∧ρ.p b=x) (born P { target:=.fn (.func g) (captured.map (ren ρ)),args:=#[] }) W')
  (hg:GoM P maps E (fun b=>Fz b∨Ac b) Arg W0 Q φ (kk :: pend) (fr.finish undef) cs (zb9 Ac W)):GoM P maps E Fz Arg W0 Q φ pend fr cs W:=by
 intro ρ D own A W' hh
 have hgood:zaR P (.func g)=true:=by
  have hs:=zf7 hh.sim.sup x hx
  rw [hev] at hs
  have:=zdT hs
  exact this
 have hval:∀ σ:Rn,RenOk P σ→(⟨fr.tmps.map (ren σ),fr.defers.map (zaE σ)⟩:Go.Act).eval x=.func (.func g) #[] (captured.map (ren σ)):=by
  intro σ R
  have h1:=zcf R (fr:=fr) x hx
  rw [hev,zeZ σ (zhN hgood),zhW R hgood,zaD,zaD,Array.map_empty] at h1
  cases x<;>exact h1
 have key:∀ W2:World,stepG P true (gor ρ fr cs) W2=.spawn (gor ρ (fr.finish undef) cs) (born P { target:=.fn (.func g) (captured.map (ren ρ)),args:=#[] }) W2 #[]:=by
  intro W2
  obtain⟨s1,s2⟩:=ziP hm hr ht hw ρ
  have hex:(execOp (⟨fr.tmps.map (ren ρ),fr.defers.map (zaE ρ)⟩:Go.Act).eval o)=pure (.spawn { target:=.fn (.func g) (captured.map (ren ρ)),args:=#[] }):=by
   unfold execOp
   rw [hop]
   dsimp only
   unfold resolve
   rw [hc,hargs]
   dsimp only
   rw [hval ρ hh.sim.rok,Array.map_empty]
   rfl
  have hst:=stepG_spawn (P:=P) (main:=true) (b:=zab ρ fr) (a:=⟨fr.tmps.map (ren ρ),fr.defers.map (zaE ρ)⟩) (k:=k.map (zal ρ)) (cs:=cs.map (zab ρ)) (w:=W2) (rest:=rest) (w':=W2) (f:=.func g) (c:=captured.map (ren ρ)) ho s1 (by show fr.kind≠.early;rw [hk];simp) (by rw [hex];rfl) rfl
  rw [zbr hm hr ht]
  refine hst.trans ?_
  have hl:listed P (zab ρ fr).fn ⟨fr.tmps.map (ren ρ),fr.defers.map (zaE ρ)⟩ o W2=#[]:=by
   unfold listed
   rw [hex];rfl
  have hfin:=zd8 (fr:=fr) (o:=o) hm hr ht ho undef ρ
  rw [ren_undef] at hfin
  rw [hl,hfin]
  rfl
 refine .spawn rfl hon kk (fun x=>∃ b,Ac b∧ρ.p b=x) (fun x ⟨b,h1,h2⟩=>h2 ▸ hh.hA b (hAc _ _ _ _ _ hh b h1)) hcap (fun W2 he=>⟨_,_,key W2,rfl,hwk _ _ _ _ _ (hh.env he)⟩) fun W2 g' ch he hs=>?_
 rw [key W2] at hs
 cases hs
 have h2:=hh.env he
 have h3:=h2.freeze (Ac:=Ac) (own2:=fun b=>own b∧¬ ∃ b',Ac b'∧ρ.p b'=b) (fun b hb=>hAc _ _ _ _ _ hh b hb) hfree (fun b hb hz hc=>⟨h2.hown b hb hz,fun ⟨b',e1,e2⟩=>hc (h2.sim.rok.inj _ _ e2 ▸ e1)⟩) (fun x h=>h.1)
 exact hg ρ D _ _ _ (h3.frames (zdo h3.sim.sup (by simp only [supV,ren_undef])) h3.sim.sups)
end
end Go.Con
namespace Go.Con
open Go Go.Conc
variable [Lone]
section
variable {P:Program} {maps:Bool} {E Fz Arg:Nat→Prop} {W0:World} {ρ:Rn} {D own A:Nat→Prop} {fr fr' : Frame} {cs:List Frame} {W W' W'' : World}
variable {Q:(Nat→Prop)→(Nat→Prop)→Goroutine→World→Prop} {φ:Ph} {pend:List Nat}
def zdt (ρ:Rn) (N b n' : Nat):Rn:=⟨fun x=>if x<N then ρ.p x else if x=N then b else x-N-1+n',ρ.c,ρ.o⟩
theorem Here.argLow (h:Here P maps E Fz Arg W0 ρ D own A fr cs W W') {x:Nat} (hx:Arg x):x<W0.heap.size:=by
 obtain⟨_,_,h3,h4⟩:=h.keep x hx
 obtain⟨o,ho⟩:=zky h3
 rw [ho] at h4
 exact (Array.getElem?_eq_some_iff.1 h4.symm).1
theorem Here.take (h:Here P maps E Fz Arg W0 ρ D own A fr cs W W') {b:Nat} {cells:Array Value} {e:TypeId} {fz:Nat×Nat} (hb:b<W'.heap.size) (hbA:¬ A b) (hbB:W0.heap.size≤b) (hob:W'.heap[b]?=some (.cells cells e fz)) (hflat:∀ σ:Rn,cells.map (ren σ)=cells)
  {own2 A2:Nat→Prop} (ho2:∀ x,own x→own2 x) (hA2:∀ x,A x→A2 x) (hob2:own2 b) (hAb2:A2 b) (hnew:∀ x,own2 x→own x∨W0.heap.size≤x) :
  Here P maps E Fz Arg W0 (zdt ρ W.heap.size b W'.heap.size) (fun x=>D x∨x=W.heap.size) own2 A2 fr cs { W with heap:=W.heap.push (.cells cells e fz) } W':=by
 have hold:∀ x,x<W.heap.size→(zdt ρ W.heap.size b W'.heap.size).p x=ρ.p x:=fun x hx=>by simp [zdt,hx]
 have hN:(zdt ρ W.heap.size b W'.heap.size).p W.heap.size=b:=by simp [zdt]
 have hbig:∀ x,W.heap.size<x→(zdt ρ W.heap.size b W'.heap.size).p x=x-W.heap.size-1+W'.heap.size:=fun x hx=>by
  have h1:¬ x<W.heap.size:=by omega
  have h2:x≠W.heap.size:=by omega
  simp [zdt,h1,h2]
 have hne:∀ x,x<W.heap.size→ρ.p x≠b:=by
  intro x hx e
  rcases h.junk x hx with hj | hj
  ·exact hbA (e ▸ hj)
  ·omega
 generalize hρ:zdt ρ W.heap.size b W'.heap.size=ρ2 at hold hN hbig
 have hco:ρ2.c=ρ.c∧ρ2.o=ρ.o:=by subst hρ;exact⟨rfl,rfl⟩
 have inj:∀ x y,ρ2.p x=ρ2.p y→x=y:=by
  intro x y e
  rcases Nat.lt_trichotomy x W.heap.size with hx | hx | hx<;>rcases Nat.lt_trichotomy y W.heap.size with hy | hy | hy
  ·rw [hold x hx,hold y hy] at e;exact h.sim.rok.inj _ _ e
  ·rw [hold x hx,hy,hN] at e;exact (hne x hx e).elim
  ·rw [hold x hx,hbig y hy] at e;have:=h.sim.bd x hx;omega
  ·rw [hx,hN,hold y hy] at e;exact (hne y hy e.symm).elim
  ·rw [hx,hy]
  ·rw [hx,hN,hbig y hy] at e;omega
  ·rw [hbig x hx,hold y hy] at e;have:=h.sim.bd y hy;omega
  ·rw [hbig x hx,hy,hN] at e;omega
  ·rw [hbig x hx,hbig y hy] at e;omega
 have hDD:∀ x,D x→D x∨x=W.heap.size:=fun x hx=>.inl hx
 have same:∀ x,x<(gd P).n∨D x→ρ.p x=ρ2.p x:=fun x hx=>(hold x (h.sim.lt x (hx.elim (h.sim.hG x) id))).symm
 have sameE:∀ x,ρ.c x=ρ2.c x:=fun x=>by rw [hco.1]
 have sameF:∀ f,(gd P).good f=true→ρ.o f=ρ2.o f:=fun f _=>by rw [hco.2]
 have push_old:∀ x,x<W.heap.size→(W.heap.push (.cells cells e fz))[x]?=W.heap[x]?:=fun x hx=>by simp [Array.getElem?_push,Nat.ne_of_lt hx]
 have get:∀ x o,(D x∨x=W.heap.size)→(W.heap.push (.cells cells e fz))[x]?=some o→(D x∧W.heap[x]?=some o)∨(x=W.heap.size∧o=.cells cells e fz):=by
  intro x o hx ho
  rcases hx with hx | hx
  ·rw [push_old x (h.sim.lt x hx)] at ho;exact .inl ⟨hx,ho⟩
  ·subst hx;simp at ho;exact .inr ⟨rfl,ho.symm⟩
 refine⟨⟨⟨inj,fun x hx=>by rw [hold x (h.sim.lt x (h.sim.hG x hx))];exact h.sim.rok.fix x hx,by rw [hco.2];exact h.sim.rok.fixo⟩,fun x hx=>.inl (h.sim.hG x hx),fun x hx=>?_,fun x hx=>?_,fun x hx=>.inl (h.sim.fz x hx),
  zbB hDD h.sim.sup,fun c hc=>zbB hDD (h.sim.sups c hc),h.sim.os,h.sim.output,fun x o hx ho=>?_,fun x o hx ho=>?_⟩,fun x hx hz=>?_,fun x hx=>?_,fun x hx=>?_,?_,fun x=>by rw [hco.1];exact h.tok x,fun x hx=>?_,h.far.1,fun x hx=>?_⟩
 ·rcases hx with hx | hx
  ·have:=h.sim.lt x hx;simp;omega
  ·subst hx;simp
 ·have hx' : x<W.heap.size+1:=by simpa using hx
  rcases Nat.lt_or_ge x W.heap.size with hx2 | hx2
  ·rw [hold x hx2];exact h.sim.bd x hx2
  ·have:x=W.heap.size:=by omega
   subst this;rw [hN];exact hb
 ·rcases get x o hx ho with ⟨hx,ho⟩ | ⟨rfl,rfl⟩
  ·obtain⟨o',h1,h2⟩:=h.sim.obj x o hx ho
   rw [hold x (h.sim.lt x hx)]
   exact⟨o',h1,h2.ren (zft same sameE sameF (h.sim.supo x o hx ho).1)⟩
  ·rw [hN]
   refine⟨_,hob,?_⟩
   have:=ObjR.own (ρ:=ρ2) (Fz:=Fz) (mf:=mdOf P maps) (b:=W.heap.size) (o:=.cells cells e fz) (fun hz=>absurd (h.sim.lt _ (h.sim.fz _ hz)) (Nat.lt_irrefl _))
   simp only [zau,hflat] at this
   exact this
 ·rcases get x o hx ho with ⟨hx,ho⟩ | ⟨rfl,rfl⟩
  ·obtain⟨h1,h2⟩:=h.sim.supo x o hx ho
   exact⟨zcc hDD h1,h2⟩
  ·exact⟨by simp only [za8,zau,hflat],rfl,rfl⟩
 ·rcases hx with hx | hx
  ·rw [hold x (h.sim.lt x hx)];exact ho2 _ (h.hown x hx hz)
  ·subst hx;rw [hN];exact hob2
 ·rcases hx with hx | hx
  ·rw [hold x (h.sim.lt x hx)];exact hA2 _ (h.hA x hx)
  ·subst hx;rw [hN];exact hAb2
 ·obtain⟨k1,k2,k3,k4⟩:=h.keep x hx
  exact⟨hA2 x k1,fun ho=>(hnew x ho).elim k2 fun hw=>absurd (h.argLow hx) (Nat.not_lt.2 hw),k3,k4⟩
 ·exact h.ed.push rfl
 ·have hx' : x<W.heap.size+1:=by simpa using hx
  rcases Nat.lt_or_ge x W.heap.size with hx2 | hx2
  ·rw [hold x hx2];exact (h.junk x hx2).imp (hA2 _) id
  ·have:x=W.heap.size:=by omega
   subst this;rw [hN];exact .inl hAb2
 ·rcases hx with hx | hx
  ·rw [hold x (h.sim.lt x hx)];exact h.far.2 x hx
  ·subst hx;rw [hN];exact .inr hbB
def zdR (B:Nat) (K:(Nat→Value)→Option (Array Value×TypeId×(Nat×Nat))→Prop):Hand:=fun own A v W=>(∀ x,own x→B≤x) ∧
 ((∃ h:Nat→Value,(∀ n,h n=v)∧(∀ σ:Rn,ren σ v=v)∧K h none) ∨
  ∃ (h:Nat→Value) (b:Nat) (cells:Array Value) (e:TypeId) (fz:Nat×Nat),v=h b∧(∀ (σ:Rn) (n:Nat),ren σ (h n)=h (σ.p n))∧(∀ σ:Rn,cells.map (ren σ)=cells)∧own b∧A b∧W.heap[b]?=some (.cells cells e fz)∧K h (some (cells,e,fz)))
theorem GoM.recv {ops:Array Oper} {i:Nat} {rest:List Nat} {k:List Item} {o:Oper} {x:Operand} {z:Value} {K:Nat→(Nat→Value)→Option (Array Value×TypeId×(Nat×Nat))→Prop} (hm:fr.mode=.run) (hr:fr.roundOf=none) (hk:fr.kind=.normal) (ht:fr.todo=.inRegion ops (i :: rest) :: k) (ho:ops[i]?=some o)
  (hw:Region.wanted o (yielded ops fr.tmps)=true) (hx:zaS P x=true) (hev:fr.eval x=.chan (some (2 * φ.c))) (hon:φ.on=true) (hpend:pend≠[])
  (hrun:∀ (e:Operand→Value) (w:World),e x=.chan (some φ.c)→(execOp e o).run P w=.ok (.comm #[rcase φ.c z] true (.recv false)) w∧(execOp e o).events P w #[]=#[])
  (hposts:∀ kk own A v W,φ.posts kk own A v W→zdR W0.heap.size (K kk) own A v W)
  (hg1:∀ kk,kk∈pend→∀ h:Nat→Value,K kk h none→(∀ n m,h n=h m)→GoM P maps E Fz Arg W0 Q φ (pend.erase kk) (fr.finish (h 0)) cs W)
  (hg2:∀ kk,kk∈pend→∀ (h:Nat→Value) (cells:Array Value) (e:TypeId) (fz:Nat×Nat),K kk h (some (cells,e,fz))→GoM P maps E Fz Arg W0 Q φ (pend.erase kk) (fr.finish (h W.heap.size)) cs { W with heap:=W.heap.push (.cells cells e fz) }) :
  GoM P maps E Fz Arg W0 Q φ pend fr cs W:=by
 intro ρ D own A W' hh
 have hchan:(⟨fr.tmps.map (ren ρ),fr.defers.map (zaE ρ)⟩:Go.Act).eval x=.chan (some φ.c):=by
  have h1:=zcf hh.sim.rok (fr:=fr) x hx
  rw [hev] at h1
  have h2:ren ρ (.chan (some (2 * φ.c)))=.chan (some φ.c):=by simp only [ren,hh.tok];rfl
  rw [h2] at h1
  cases x<;>exact h1
 have key:∀ W2:World,stepG P true (gor ρ fr cs) W2=.comm (gor ρ fr cs) #[rcase φ.c z] true (.recv false) W2 #[]:=by
  intro W2
  obtain⟨s1,s2⟩:=ziP hm hr ht hw ρ
  obtain⟨r1,r2⟩:=hrun _ W2 hchan
  have hst:=stepG_comm (P:=P) (main:=true) (b:=zab ρ fr) (a:=⟨fr.tmps.map (ren ρ),fr.defers.map (zaE ρ)⟩) (k:=k.map (zal ρ)) (cs:=cs.map (zab ρ)) (w:=W2) (rest:=rest) ho s1 (by show fr.kind≠.early;rw [hk];simp) r1
  rw [zbr hm hr ht]
  refine hst.trans ?_
  have hl:listed P (zab ρ fr).fn ⟨fr.tmps.map (ren ρ),fr.defers.map (zaE ρ)⟩ o W2=#[]:=by
   unfold listed
   rw [r2];rfl
  rw [hl]
  rfl
 refine .recv rfl hon hpend z false (fun W2 _=>⟨_,key W2⟩) fun W2 W3 g2 kk ownk Ak v Wk he hs he3 hkk hpost hek hdis=>?_
 rw [key W2] at hs
 cases hs
 have h3:=(hh.env he).env he3
 obtain⟨hB,hp⟩:=hposts kk ownk Ak v Wk hpost
 have hfin:∀ (σ:Rn) (u:Value),ren σ u=v→σ.c=ρ.c→(gor ρ fr cs).finishComm P #[rcase φ.c z] (.recv false) 0 v true={ frame:=(zab ρ fr).finish v,callers:=cs.map (zab ρ),status:=.running,dying:=none }:=fun _ _ _ _=>rfl
 rcases hp with ⟨h,hv,hfl,hK⟩ | ⟨h,b,cells,e,fz,rfl,hh1,hfl,hob,hAb,hcell,hK⟩
 ·obtain rfl:=hv 0
  have hgor:(gor ρ fr cs).finishComm P #[rcase φ.c z] (.recv false) 0 (h 0) true=gor ρ (fr.finish (h 0)) cs:=by
   show ({ frame:=(zab ρ fr).finish (h 0),callers:=cs.map (zab ρ),status:=.running,dying:=none }:Goroutine)=_
   have:=zaQ (ρ:=ρ) (fr:=fr) (v:=h 0)
   rw [hfl] at this
   rw [this];rfl
  rw [hgor]
  refine hg1 kk hkk h hK (fun n m=>(hv n).trans (hv m).symm) ρ D _ _ _ ⟨?_,fun b hb hz=>.inl (h3.hown b hb hz),fun b hb=>.inl (h3.hA b hb),fun y hy=>?_,h3.ed,h3.tok,fun y hy=>(h3.junk y hy).imp .inl id,h3.far⟩
  ·exact (h3.frames (zdo h3.sim.sup (by simp only [supV,hfl])) h3.sim.sups).sim
  ·obtain⟨k1,k2,k3,k4⟩:=h3.keep y hy
   exact⟨.inl k1,fun hoo=>hoo.elim k2 fun hoo=>absurd (h3.argLow hy) (Nat.not_lt.2 (hB y hoo)),k3,k4⟩
 ·have hcell3:W3.heap[b]?=some (.cells cells e fz):=(hek.heap b hAb).trans hcell
  have hb3:b<W3.heap.size:=(Array.getElem?_eq_some_iff.1 hcell3).1
  have h4:=h3.take hb3 (hdis b hob) (hB b hob) hcell3 hfl (own2:=fun x=>own x∨ownk x) (A2:=fun x=>A x∨Ak x) (fun _ h=>.inl h) (fun _ h=>.inl h) (.inr hob) (.inr hAb) (fun x hx=>hx.imp id (hB x))
  have hval:ren (zdt ρ W.heap.size b W3.heap.size) (h W.heap.size)=h b:=by rw [hh1];simp [zdt]
  have hfr:zab ρ fr=zab (zdt ρ W.heap.size b W3.heap.size) fr:=zbC (ρ:=ρ) (σ:=zdt ρ W.heap.size b W3.heap.size) (D:=D) (E:=E) (fun y hy=>by
   have:=h3.sim.lt y (hy.elim (h3.sim.hG y) id)
   simp [zdt,this]) (fun _=>rfl) (fun _ _=>rfl) h3.sim.sup
  have hcs:cs.map (zab ρ)=cs.map (zab (zdt ρ W.heap.size b W3.heap.size)):=List.map_congr_left fun c hc=>zbC (ρ:=ρ) (σ:=zdt ρ W.heap.size b W3.heap.size) (D:=D) (E:=E) (fun y hy=>by
   have:=h3.sim.lt y (hy.elim (h3.sim.hG y) id)
   simp [zdt,this]) (fun _=>rfl) (fun _ _=>rfl) (h3.sim.sups c hc)
  have hgor:(gor ρ fr cs).finishComm P #[rcase φ.c z] (.recv false) 0 (h b) true=gor (zdt ρ W.heap.size b W3.heap.size) (fr.finish (h W.heap.size)) cs:=by
   show ({ frame:=(zab ρ fr).finish (h b),callers:=cs.map (zab ρ),status:=.running,dying:=none }:Goroutine)=_
   have:=zaQ (ρ:=zdt ρ W.heap.size b W3.heap.size) (fr:=fr) (v:=h W.heap.size)
   rw [hval,← hfr] at this
   rw [this,hcs];rfl
  rw [hgor]
  refine hg2 kk hkk h cells e fz hK _ _ _ _ _ (h4.frames (zdo h4.sim.sup ?_) h4.sim.sups)
  show ren (RA (gd P)) (h W.heap.size)=ren (RB (gd P) _ E) (h W.heap.size)
  rw [hh1,hh1]
  exact congrArg h ((dbl_eq (G:=(gd P).n) (D:=fun y=>D y∨y=W.heap.size) (b:=W.heap.size)).2 (Or.inr (Or.inr rfl)))
end
end Go.Con
namespace Go.Con
open Go Go.Conc
variable [Lone]
section
variable {P:Program} {maps:Bool} {E Fz Arg:Nat→Prop} {W0:World} {ρ:Rn} {D own A:Nat→Prop} {fr fr' : Frame} {cs:List Frame} {W W' W'' : World}
variable {Q:(Nat→Prop)→(Nat→Prop)→Goroutine→World→Prop} {φ:Ph} {pend:List Nat}
theorem zoR (hlm:Lone.lm=false) (m m' : Bool):(mdOf P m).okc=(mdOf P m').okc:=by simp [mdOf,hlm]
theorem zmd (hlm:Lone.lm=false) (m m' : Bool) (o:Obj):zaG (mdOf P m) o=zaG (mdOf P m') o:=by
 cases o<;>first
  | rfl
  | (simp only [zaG,Md.okl,zoR hlm m m'];done)
  | (simp only [zaG,mdOf,hlm,Bool.and_false,Md.okl];done)
def cellsIn (W:World) (b:Nat):Prop:=∃ c e fz,W.heap[b]?=some (.cells c e fz)
theorem GoM.reclaim (hlm:Lone.lm=false) (hArg:∀ x,Arg x↔x<W0.heap.size) (hg:GoM P true E (fun b=>Fz b∧cellsIn W b) Arg W0 Q φ [] fr cs W):GoM P false E Fz Arg W0 Q φ [] fr cs W:=by
 intro ρ D own A W' h
 refine .reclaim rfl (fun x=>A x∧W0.heap.size≤x) (fun b hb=>hb.1) (hg ρ D _ A W' ⟨⟨h.sim.rok,h.sim.hG,h.sim.lt,h.sim.bd,fun b hb=>h.sim.fz b hb.1,h.sim.sup,h.sim.sups,h.sim.os,h.sim.output,fun b o hb ho=>?_,fun b o hb ho=>?_⟩,fun b hb hz=>⟨h.hA b hb,?_⟩,h.hA,fun x hx=>?_,h.ed,h.tok,h.junk,h.far⟩)
 ·obtain⟨o',h1,h2⟩:=h.sim.obj b o hb ho
  refine⟨o',h1,?_⟩
  cases h2 with
  | frozen hf c e fz=>exact .frozen ⟨hf,_,_,_,ho⟩ c e fz
  | still hf h3 h4 =>
   refine .own fun hx=>?_
   obtain⟨_,c,e,fz,hc⟩:=hx
   rw [ho] at hc
   cases hc
   cases h3
  | own hf=>exact .own fun hx=>hf hx.1
 ·obtain⟨h1,h2,h3⟩:=h.sim.supo b o hb ho
  exact⟨h1,by rw [zmd hlm true false];exact h2,h3⟩
 ·rcases h.far.2 b hb with ⟨c,e,fz,hc⟩ | hx
  ·obtain⟨o,ho⟩:=zky (h.sim.lt b hb)
   have hlt:ρ.p b<W0.heap.size:=(Array.getElem?_eq_some_iff.1 hc).1
   obtain⟨k1,k2,k3,k4⟩:=h.keep (ρ.p b) ((hArg _).2 hlt)
   by_cases hf:Fz b
   ·obtain⟨o',h1,h2⟩:=h.sim.obj b o hb ho
    have hi:isCells o'=isCells o:=by
     cases h2 with
     | frozen hf c e fz=>rfl
     | own hf=>cases o<;>rfl
     | still hf h3 h4=>cases o<;>rfl
    rw [h1,hc] at k4
    have ho':=Option.some.inj k4
    exfalso
    refine hz ⟨hf,?_⟩
    rw [ho'] at hi
    cases o with
    | cells c e fz=>exact⟨c,e,fz,ho⟩
    | _=>cases hi
   ·exact (k2 (h.hown b hb hf)).elim
  ·exact hx
 ·obtain⟨k1,k2,k3,k4⟩:=h.keep x hx
  exact⟨k1,fun ho=>absurd ((hArg x).1 hx) (Nat.not_lt.2 ho.2),k3,k4⟩
theorem GoM.done {fn:Func} {v:Value} {Post:Value→World→Prop} (hm:fr.mode=.returning) (hd:fr.defers=[]) (hk:fr.kind=.normal) (hro:fr.roundOf=none) (hin:P.inits.idxOf? fr.fn=none) (hf:P.funcs[fr.fn]?=some fn) (hv:∀ σ:Rn,ResultsC P fn (fr.tmps.map (ren σ)) (ren σ v))
  (hp:∀ ρ D own A W',Here P maps E Fz Arg W0 ρ D own A fr [] W W'→Post (ren ρ v) W'):GoM P maps E Fz Arg W0 (AtEnd P Post) φ [] fr [] W:=by
 intro ρ D own A W' hh
 refine .done rfl fun W2 he=>?_
 refine⟨ren ρ v,#[],?_,fun e he=>(Array.not_mem_empty e he).elim,hp _ _ _ _ _ (hh.env he)⟩
 have hr:=hv ρ W2
 obtain⟨fn',tmps,todo,defers,mode,kind,roundOf⟩:=fr
 dsimp only at hm hd hk hro hin hf hr
 subst hm hd hk hro
 simp [gor,zab,stepG,unwind,doReturn,hin,hf,hr.1,hr.2,seen,GStep.after]
theorem GoM.start {D:Nat→Prop} {c:Nat→Value} {Post:Value→World→Prop} {fr:Frame} {W:World} (hG:∀ b,b<P.globals.size→D b) (hD:∀ b,D b→∃ cs e fz,W.heap[b]?=some (.cells cs e fz))
  (hc:∀ v∈zcX W,∃ x,c x=v) (htok:∀ x,c (2 * x)=.chan (some x)) (hs:supF P D E fr) (hfr:zab (zcw c) fr=fr) (hed:EmptyDef (zb6 P c D W))
  (hg:GoM P true E D (fun x=>x<W.heap.size) W (AtEnd P Post) ⟨false,0,0,fun _ _ _ _ _=>False⟩ [] fr [] (zb6 P c D W)):Fin P Post (solo (G fr []) W) #[]:=by
 have hsim:=zjH (maps:=true) (E:=E) hG hD hc hs
 have hm:=hg (zcw c) D (fun _=>False) (fun x=>x<W.heap.size) W ⟨hsim,fun b hb hz=>(hz hb).elim,fun b hb=>?_,fun x hx=>⟨hx,id,hx,rfl⟩,hed,htok,fun x hx=>?_,Nat.le_refl _,fun b hb=>?_⟩
 ·have e:gor (zcw c) fr []=G fr []:=by unfold gor;rw [hfr];rfl
  rw [e] at hm
  exact zgv hm (fun _ h=>h.elim) fun b hb=>hb
 ·have:=hsim.bd b (hsim.lt b hb)
  exact this
 ·exact .inr (by rw [zcZ] at hx;exact hx)
 ·obtain⟨cs,e,fz,h⟩:=hD b hb
  exact .inl ⟨cs,e,fz,h⟩
end
end Go.Con
namespace Go.Con
open Go Go.Conc
variable [Lone]
section
variable {P:Program} {main:Bool}
def root (P:Program):Frame:={ (default:Frame) with fn:=P.funcs.size,defers:=[],mode:=.panicking [goexitEntry] }
theorem zmF {g:FuncId} {fn:Func} {cap:Array Value} {w:World} (hf:P.funcs[g]?=some fn) (hb:fn.body.isNone=false) (hn:(fn.name == "runtime.NumGoroutine")=false) :
  stepG P main (born P { target:=.fn (.func g) cap,args:=#[] }) w=.go { frame:=Frame.enter P g cap .deferred,callers:=[root P],status:=.running,dying:=none } w #[]:=by
 have h1:¬ fn.name = "runtime.NumGoroutine" := by simpa using hn
 have hb' : ¬ fn.body=none:=by intro h;rw [h] at hb;cases hb
 simp [stepG,born,unwind,callDeferred,GStep.after,root,goexitEntry,invoke,callFunc,hf,h1,hb',seen]
theorem znK {b:Frame} {a:Go.Act} {fn:Func} {ops:Array Oper} (hm:b.mode=.run) (hro:b.roundOf=none) (hk:b.kind=.deferred) (hd:a.defers=[]) (hf:P.funcs[b.fn]?=some fn) (hr:fn.results=#[]) :
  QuitsIn P 4 (G (b.at a [.inRegion ops []]) [root P]):=by
 refine QuitsIn.ctl rfl (fun w=>stepG_region_end) (QuitsIn.ctl rfl (fun w=>stepG_end) (QuitsIn.ctl (g':=G (root P) []) rfl (fun w=>?_) ?_))
 ·simp [G,stepG,unwind,doReturn,Frame.at,hk,hd,hf,results_none hr,events_results_none hr,root,seen,GStep.after]
  rfl
 ·refine .inr ⟨rfl,{ frame:=root P,callers:=[],status:=.finished,dying:=none },fun w=>?_,rfl⟩
  have hc:P.funcs[P.funcs.size]?=none:=by simp
  simp [G,stepG,unwind,root,goexitEntry,Frame.catches,hc]
  rfl
end
end Go.Con
