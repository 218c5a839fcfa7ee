import Derived.Test.YtedomogjmhommaaH37
import Derived.Conc.CompanyCalls
set_option linter.all false
set_option maxRecDepth 100000
set_option maxHeartbeats 8000000
namespace Go.Con
open Go Go.Conc
variable [Lone]
theorem EvA.mono {own A own' A' : Nat→Prop} {e:Event} (h:EvA own A e) (ho:∀ x,own x→own' x) (hA:∀ x,A x→A' x):EvA own' A' e:=by
 rcases h with ⟨a,h1,h2,h3,h4⟩ | ⟨b,h1,h2,h3,h4⟩ | h
 ·exact .inl ⟨a,h1,h2,hA _ h3,fun hw=>ho _ (h4 hw)⟩
 ·exact .inr (.inl ⟨b,h1,h2,hA _ h3,fun hw=>ho _ (h4 hw)⟩)
 ·exact .inr (.inr h)
theorem zeP {S S' : Nat→Prop} {W W' : World} (h:∀ x,S x→S' x):∀ x,grow S W W' x→grow S' W W' x:=fun x hx=>hx.imp (h x) id
theorem Does.mono {own A own' A' : Nat→Prop} {W W1:World} {es:Array Event} (h:Does own A W W1 es) (ho:∀ x,own x→own' x) (hA:∀ x,A x→A' x):Does own' A' W W1 es :=
 ⟨fun e he=>(h.ev e he).mono (zeP ho) (zeP hA),h.size,fun x hx hn=>h.keep x hx fun hc=>hn (ho x hc),h.os,h.output⟩
theorem Env.mono {A A' : Nat→Prop} {W W' : World} (h:Env A' W W') (hA:∀ x,A x→A' x):Env A W W':=⟨fun x hx=>h.heap x (hA x hx),h.size,h.os,h.output⟩
theorem Act.mono {P:Program} {Q Q' : (Nat→Prop)→(Nat→Prop)→Frame→List Frame→World→Prop} {own A:Nat→Prop} {fr:Frame} {cs:List Frame} {W:World} (h:Act P Q own A fr cs W) (hq:∀ own A fr cs W,Q own A fr cs W→Q' own A fr cs W):Act P Q' own A fr cs W:=by
 induction h with
 | done h=>exact .done (hq _ _ _ _ _ h)
 | step h1 _ ih=>exact .step h1 ih
structure zqk (own A own' A' : Nat→Prop) (W:World) (o a o' a' : Nat→Prop) (W2:World):Prop where
 oo:∀ x,o x→o' x
 aa:∀ x,a x→a' x
 oo' : ∀ x,own' x→o' x
 aa' : ∀ x,A' x→a' x
 ob:∀ x,o x→own x∨W.heap.size≤x
 ob' : ∀ x,o' x→own' x∨W.heap.size≤x
 keep:∀ x,A' x→x<W.heap.size→¬ own x→W2.heap[x]?=W.heap[x]?
 size:W.heap.size≤W2.heap.size
theorem Act.frame {P:Program} {Q:(Nat→Prop)→(Nat→Prop)→Frame→List Frame→World→Prop} {own A:Nat→Prop} {fr:Frame} {cs:List Frame} {W:World} (h:Act P Q own A fr cs W) :
  ∀ {own' A' : Nat→Prop},(∀ x,own x→own' x)→(∀ x,A x→A' x)→Act P (fun o' a' fr' cs' W2=>∃ o a,Q o a fr' cs' W2∧zqk own A own' A' W o a o' a' W2) own' A' fr cs W:=by
 induction h with
 | done h=>exact fun ho hA=>.done ⟨_,_,h,ho,hA,fun _ h=>h,fun _ h=>h,fun _ h=>.inl h,fun _ h=>.inl h,fun _ _ _ _=>rfl,Nat.le_refl _⟩
 | @step own A fr cs W h1 _ ih =>
  intro own' A' ho hA
  refine .step (fun W' main st off he=>?_) fun W' main st off fr' cs' W1 es he hs=>?_
  ·obtain⟨fr',cs',W1,es,h,hd⟩:=h1 W' main st off (he.mono hA)
   exact⟨fr',cs',W1,es,h,hd.mono ho hA⟩
  ·obtain⟨fr1,cs1,W1',es',h,hd⟩:=h1 W' main st off (he.mono hA)
   have e:=h.symm.trans hs
   simp only [GStep.go.injEq,Goroutine.mk.injEq,and_true] at e
   obtain⟨⟨rfl,rfl⟩,rfl,rfl⟩:=e
   have:=ih W' main st off fr1 cs1 W1' es' (he.mono hA) h (zeP (W:=W') (W':=W1') ho) (zeP (W:=W') (W':=W1') hA)
   refine this.mono fun o' a' fr2 cs2 W2 hq=>?_
   obtain⟨o,a,hq,hf⟩:=hq
   refine⟨o,a,hq,hf.oo,hf.aa,fun x hx=>hf.oo' x (.inl hx),fun x hx=>hf.aa' x (.inl hx),fun x hx=>?_,fun x hx=>?_,fun x hx hlt hn=>?_,Nat.le_trans he.size (Nat.le_trans hd.size hf.size)⟩
   ·rcases hf.ob x hx with (h | h) | h
    ·exact .inl h
    ·exact .inr (Nat.le_trans he.size h.1)
    ·exact .inr (Nat.le_trans he.size (Nat.le_trans hd.size h))
   ·rcases hf.ob' x hx with (h | h) | h
    ·exact .inl h
    ·exact .inr (Nat.le_trans he.size h.1)
    ·exact .inr (Nat.le_trans he.size (Nat.le_trans hd.size h))
   ·have hlt' : x<W'.heap.size:=Nat.lt_of_lt_of_le hlt he.size
    rw [hf.keep x (.inl hx) (Nat.lt_of_lt_of_le hlt' hd.size) (fun h=>h.elim hn fun h=>by omega),hd.keep x hlt' hn,he.heap x hx]
def gor (ρ:Rn) (fr:Frame) (cs:List Frame):Goroutine:={ frame:=zab ρ fr,callers:=cs.map (zab ρ),status:=.running,dying:=none }
def ze9 (W:World) (x:Nat):Prop:=∃ c e fz,W.heap[x]?=some (.cells c e fz)
structure Here (P:Program) (maps:Bool) (E Fz Arg:Nat→Prop) (W0:World) (ρ:Rn) (D own A:Nat→Prop) (fr:Frame) (cs:List Frame) (W W' : World):Prop where
 sim:Sim P maps E ρ D Fz fr cs W W'
 hown:∀ b,D b→¬ Fz b→own (ρ.p b)
 hA:∀ b,D b→A (ρ.p b)
 keep:∀ x,Arg x→A x∧¬ own x∧x<W'.heap.size∧W'.heap[x]?=W0.heap[x]?
 ed:EmptyDef W
 tok:∀ x,ρ.c (2 * x)=.chan (some x)
 junk:∀ x,x<W.heap.size→A (ρ.p x)∨ρ.p x<W0.heap.size
 far:W0.heap.size≤W'.heap.size∧∀ b,D b→ze9 W0 (ρ.p b)∨W0.heap.size≤ρ.p b
section
variable {P:Program} {maps:Bool} {E Fz Arg:Nat→Prop} {W0:World} {ρ:Rn} {D own A:Nat→Prop} {fr:Frame} {cs:List Frame} {W W' W'' : World}
theorem Here.env (h:Here P maps E Fz Arg W0 ρ D own A fr cs W W') (he:Env A W' W''):Here P maps E Fz Arg W0 ρ D own A fr cs W W'' :=
 ⟨h.sim.env (fun b hb=>he.heap _ (h.hA b hb)) he.size he.os he.output,h.hown,h.hA,fun x hx=>⟨(h.keep x hx).1,(h.keep x hx).2.1,Nat.lt_of_lt_of_le (h.keep x hx).2.2.1 he.size,(he.heap x (h.keep x hx).1).trans (h.keep x hx).2.2.2⟩,h.ed,h.tok,h.junk,Nat.le_trans h.far.1 he.size,h.far.2⟩
def GoM (P:Program) (maps:Bool) (E Fz Arg:Nat→Prop) (W0:World) (Q:(Nat→Prop)→(Nat→Prop)→Goroutine→World→Prop) (φ:Ph) (pend:List Nat) (fr:Frame) (cs:List Frame) (W:World):Prop :=
 ∀ ρ D own A W',Here P maps E Fz Arg W0 ρ D own A fr cs W W'→Mn P Q φ pend own A (gor ρ fr cs) W'
variable {Q:(Nat→Prop)→(Nat→Prop)→Goroutine→World→Prop} {φ:Ph} {pend:List Nat}
theorem Here.tape (h:Here P maps E Fz Arg W0 ρ D own A fr cs W W') (τ:Tape):Here P maps E Fz Arg W0 ρ D own A fr cs { W with tape:=τ } W' :=
 ⟨⟨h.sim.rok,h.sim.hG,h.sim.lt,h.sim.bd,h.sim.fz,h.sim.sup,h.sim.sups,h.sim.os,h.sim.output,h.sim.obj,h.sim.supo⟩,h.hown,h.hA,h.keep,h.ed,h.tok,h.junk,h.far⟩
theorem Here.step (h:Here P maps E Fz Arg W0 ρ D own A fr cs W W') (hsr:SRH P maps fr cs) (hh:zgh P maps fr) :
  ∃ τ:Tape,Agree W.drawn τ W.tape∧∀ {fr' : Frame} {cs' : List Frame} {Wf:World},(zan P fr cs).run P { W with tape:=τ }=.ok (fr',cs') Wf→EmptyDef Wf →
  ∃ W1 es,stepG P true (gor ρ fr cs) W'=.go (gor (ext ρ W.heap.size W'.heap.size) fr' cs') W1 es∧Does own A W' W1 es ∧
   Here P maps E Fz Arg W0 (ext ρ W.heap.size W'.heap.size) (fun b=>D b∨(W.heap.size≤b∧b<Wf.heap.size)) (grow own W' W1) (grow A W' W1) fr' cs' Wf W1:=by
 obtain⟨τ,hτ,hstep⟩:=h.sim.stepS hsr
 refine⟨τ,hτ,fun {fr' cs' Wf} hr hed=>?_⟩
 obtain⟨W1,g1,g2,g3,g4,g5⟩:=hstep hr
 have hle:W.heap.size≤Wf.heap.size:=za2 (W:={ W with tape:=τ }) hr
 have hold:∀ b,b<W.heap.size→(ext ρ W.heap.size W'.heap.size).p b=ρ.p b:=fun b hb=>by simp [ext,hb]
 have hnew:∀ b,W.heap.size≤b→(ext ρ W.heap.size W'.heap.size).p b=b-W.heap.size+W'.heap.size:=fun b hb=>by simp [ext,Nat.not_lt.2 hb]
 have hos:Wf.os=W.os∧Wf.output=W.output:=by
  have hw:Sup P (mdOf P maps) (gd P) (fun b=>D b∨W.heap.size≤b) E (fun _=>True) (zan P fr cs):=by
   have hA:=hsr _ zmf
   have hB:=hsr _ (zmg (D:=fun b=>D b∨W.heap.size≤b) (E:=E))
   have hDD:∀ b,D b→(fun b=>D b∨W.heap.size≤b) b:=fun b hb=>.inl hb
   rw [← sups_map.1 fun c hcm=>zbB hDD (h.sim.sups c hcm),← show zab (RA (gd P)) fr=zab (RB (gd P) (fun b=>D b∨W.heap.size≤b) E) fr from zbB hDD h.sim.sup] at hB
   exact (zlE (mf:=mdOf P maps) (G:=gd P) (D:=fun b=>D b∨W.heap.size≤b) (E:=E) (fun b hb=>.inl (h.sim.hG b hb)) hA hB).mono fun _ _=>trivial
  have hlw:LW (gd P) (fun b=>D b∨W.heap.size≤b) E (mdOf P maps) { W with tape:=τ }:=by
   intro b o hb ho
   have hlt:b<W.heap.size:=by
    rcases Nat.lt_or_ge b W.heap.size with h | h
    ·exact h
    ·rw [show ({ W with tape:=τ }:World).heap=W.heap from rfl,Array.getElem?_eq_none h] at ho;cases ho
   obtain⟨h1,h2⟩:=h.sim.supo b o (hb.resolve_right (Nat.not_le.2 hlt)) ho
   exact⟨zcc (fun b hb=>.inl hb) h1,h2⟩
  have:=hw.run1 hlw h.ed (fun b hb=>.inr hb)
  unfold Run1 at this
  rw [hr] at this
  exact⟨this.2.2.2.2.2.2.1,this.2.2.2.2.2.2.2.1⟩
 obtain⟨es,hgo,hes⟩:=zdM (main:=true) (st:=.running) (off:=none) (P:=P) (maps:=maps) (fr:=zab ρ fr) (cs:=cs.map (zab ρ)) ⟨fun it t e=>by
   have e' : fr.todo.map (zal ρ)=it :: t:=e
   cases hf:fr.todo with
   | nil=>rw [hf] at e';cases e'
   | cons it0 t0 =>
    rw [hf] at e'
    simp only [List.map_cons,List.cons.injEq] at e'
    obtain⟨rfl,_⟩:=e'
    have:=hh.todo it0 t0 hf
    cases it0 with
    | code c=>exact this
    | inRegion ops l=>cases l<;>exact this
    | _=>exact this,hh.mode,fun d hd=>by
   obtain⟨d0,h0,rfl⟩:=List.mem_map.1 hd
   obtain⟨r,rfl⟩:=hh.defers d0 h0
   exact⟨ρ.p r,by simp [zaE,zbw]⟩,hh.kind.imp id fun h=>⟨h.1,h.2.1,by simp [zab,h.2.2]⟩⟩ g1
 have hdoes:Does own A W' W1 es:=by
  refine⟨fun e he=>?_,g3.1,fun x hx hn=>g3.2 x hx fun b hb hz hx2=>?_,?_,?_⟩
  ·have hA:∀ b,(D b∨(W.heap.size≤b∧b<Wf.heap.size))→grow A W' W1 ((ext ρ W.heap.size W'.heap.size).p b):=by
    intro b hb
    rcases hb with hb | hb
    ·rw [hold b (h.sim.lt b hb)];exact .inl (h.hA b hb)
    ·rw [hnew b hb.1];exact .inr ⟨by omega,by omega⟩
   have hO:∀ b,(D b∨(W.heap.size≤b∧b<Wf.heap.size))→¬ Fz b→grow own W' W1 ((ext ρ W.heap.size W'.heap.size).p b):=by
    intro b hb hz
    rcases hb with hb | hb
    ·rw [hold b (h.sim.lt b hb)];exact .inl (h.hown b hb hz)
    ·rw [hnew b hb.1];exact .inr ⟨by omega,by omega⟩
   rcases g5 e (hes e he) with ⟨a,b,e1,e2,e3,e4,e5⟩ | ⟨b,e1,e2,e3,e5⟩ | he2
   ·exact .inl ⟨a,e1,e2,by rw [e4];exact hA b e3,fun hw=>by rw [e4];exact hO b e3 (e5 hw)⟩
   ·exact .inr (.inl ⟨_,e1,e2,hA b e3,fun hw=>hO b e3 (e5 hw)⟩)
   ·exact .inr (.inr he2)
  ·rcases hb with hb | hb
   ·rw [hold b (h.sim.lt b hb)] at hx2
    exact hn (hx2 ▸ h.hown b hb hz)
   ·rw [hnew b hb.1] at hx2;omega
  ·rw [g2.os,h.sim.os,hos.1]
  ·rw [g2.output,h.sim.output,hos.2]
 refine⟨W1,es,hgo,hdoes,g2,fun b hb hz=>?_,fun b hb=>?_,fun x hx=>?_,hed,h.tok,fun x hx=>?_,Nat.le_trans h.far.1 g3.1,fun b hb=>?_⟩
 ·rcases hb with hb | hb
  ·rw [hold b (h.sim.lt b hb)];exact .inl (h.hown b hb hz)
  ·rw [hnew b hb.1];exact .inr ⟨by omega,by omega⟩
 ·rcases hb with hb | hb
  ·rw [hold b (h.sim.lt b hb)];exact .inl (h.hA b hb)
  ·rw [hnew b hb.1];exact .inr ⟨by omega,by omega⟩
 ·obtain⟨k1,k2,k3,k4⟩:=h.keep x hx
  exact⟨.inl k1,fun ho=>ho.elim k2 fun ho=>by omega,Nat.lt_of_lt_of_le k3 g3.1,(hdoes.keep x k3 k2).trans k4⟩
 ·rcases Nat.lt_or_ge x W.heap.size with hlt | hge
  ·rw [hold x hlt]
   exact (h.junk x hlt).imp .inl id
  ·rw [hnew x hge]
   exact .inl (.inr ⟨by omega,by omega⟩)
 ·rcases hb with hb | hb
  ·rw [hold b (h.sim.lt b hb)];exact h.far.2 b hb
  ·rw [hnew b hb.1];have:=h.far.1;exact .inr (by omega)
theorem GoM.step (hsr:SRH P maps fr cs) (hh:zgh P maps fr)
  (hrun:∀ τ:Tape,Agree W.drawn τ W.tape→∃ fr' cs' W1,(zan P fr cs).run P { W with tape:=τ }=.ok (fr',cs') W1∧(EmptyDef W→EmptyDef W1)∧GoM P maps E Fz Arg W0 Q φ pend fr' cs' W1) :
  GoM P maps E Fz Arg W0 Q φ pend fr cs W:=by
 intro ρ D own A W' h
 have key:∀ W'',Env A W' W''→∃ fr' cs' Wf W1 es,stepG P true (gor ρ fr cs) W''=.go (gor (ext ρ W.heap.size W''.heap.size) fr' cs') W1 es∧Does own A W'' W1 es∧GoM P maps E Fz Arg W0 Q φ pend fr' cs' Wf ∧
   Here P maps E Fz Arg W0 (ext ρ W.heap.size W''.heap.size) (fun b=>D b∨(W.heap.size≤b∧b<Wf.heap.size)) (grow own W'' W1) (grow A W'' W1) fr' cs' Wf W1:=by
  intro W'' he
  have h':=h.env he
  obtain⟨τ,hτ,hst⟩:=h'.step hsr hh
  obtain⟨fr',cs',Wf,hr,hed,hg⟩:=hrun τ hτ
  obtain⟨W1,es,a,b,c⟩:=hst hr (hed h.ed)
  exact⟨fr',cs',Wf,W1,es,a,b,hg,c⟩
 refine .step rfl (fun W'' he=>?_) fun W'' g' W1 es he hs=>?_
 ·obtain⟨fr',cs',Wf,W1,es,a,b,_⟩:=key W'' he
  exact⟨_,W1,es,a,b,rfl⟩
 ·obtain⟨fr',cs',Wf,W1',es',a,b,c,d⟩:=key W'' he
  rw [a] at hs
  cases hs
  exact c _ _ _ _ _ d
end
end Go.Con
namespace Go.Con
open Go Go.Conc
variable [Lone]
section
variable {P:Program} {maps:Bool} {E Fz Arg:Nat→Prop} {W0:World} {ρ:Rn} {D own A:Nat→Prop} {fr:Frame} {cs:List Frame} {W W' W'' : World}
variable {Q:(Nat→Prop)→(Nat→Prop)→Goroutine→World→Prop} {φ:Ph} {pend:List Nat}
theorem zhe {D:Nat→Prop} (h:supF P D E fr) {t0 k:List Item} (ht:fr.todo=t0++k):supF P D E { fr with todo:=t0 }∧k.map (zal (RA (gd P)))=k.map (zal (RB (gd P) D E)):=by
 obtain⟨fn,tmps,todo,defers,mode,kind,roundOf⟩:=fr
 dsimp only at ht
 subst ht
 simp only [supF,zab,Frame.mk.injEq,List.map_append,true_and] at h ⊢
 have:=List.append_inj h.2.1 (by simp)
 exact⟨⟨h.1,this.1,h.2.2⟩,this.2⟩
theorem zjY {D:Nat→Prop} {k:List Item} (h:supF P D E fr) (hk:k.map (zal (RA (gd P)))=k.map (zal (RB (gd P) D E))):supF P D E { fr with todo:=fr.todo++k }:=by
 obtain⟨fn,tmps,todo,defers,mode,kind,roundOf⟩:=fr
 simp only [supF,zab,Frame.mk.injEq,List.map_append,true_and] at h ⊢
 exact⟨h.1,by rw [h.2.1,hk],h.2.2⟩
theorem Here.inv (h:Here P maps E Fz Arg W0 ρ D own A fr cs W W') {fr0:Frame} (hok:OkFrame P maps fr0) (hs:supF P D E fr0) (hb:fr0.roundOf=none∧P.inits.idxOf? fr0.fn=none):Inv P maps (fun b=>D b∨W.heap.size≤b) E fr0 [] W:=by
 refine⟨hok,fun c hc=>(List.not_mem_nil hc).elim,zbB (fun b hb=>.inl hb) hs,fun c hc=>(List.not_mem_nil hc).elim,fun b o hb ho=>?_,h.ed,fun b hb=>.inr hb,hb,fun c hc=>(List.not_mem_nil hc).elim⟩
 have hlt:b<W.heap.size:=by
  rcases Nat.lt_or_ge b W.heap.size with h | h
  ·exact h
  ·rw [Array.getElem?_eq_none h] at ho;cases ho
 obtain⟨h1,h2⟩:=h.sim.supo b o (hb.resolve_right (Nat.not_le.2 hlt)) ho
 exact⟨zcc (fun b hb=>.inl hb) h1,h2⟩
theorem Here.frames (h:Here P maps E Fz Arg W0 ρ D own A fr cs W W') {fr1:Frame} {cs1:List Frame} (hs:supF P D E fr1) (hss:∀ c∈cs1,supF P D E c):Here P maps E Fz Arg W0 ρ D own A fr1 cs1 W W' :=
 ⟨⟨h.sim.rok,h.sim.hG,h.sim.lt,h.sim.bd,h.sim.fz,hs,hss,h.sim.os,h.sim.output,h.sim.obj,h.sim.supo⟩,h.hown,h.hA,h.keep,h.ed,h.tok,h.junk,h.far⟩
theorem GoM.seg {F:Fence} (hF:∀ f,F.fn f→zaR P (.func f)=true→okFn P maps f) {t0 k:List Item} (ht:fr.todo=t0++k) (hok:OkFrame P maps { fr with todo:=t0 })
  (hb:fr.roundOf=none∧P.inits.idxOf? fr.fn=none) {R:Frame→World→Prop} (hR:∀ fr W,R fr W→fr.mode=.run)
  (hp:∀ τ:Tape,Agree W.drawn τ W.tape→Ends P F zcS R { fr with todo:=t0 } [] { W with tape:=τ })
  (hq:∀ fr1 W1,R fr1 W1→zcS fr1 []→GoM P maps E Fz Arg W0 Q φ pend { fr1 with todo:=fr1.todo++k } cs W1):GoM P maps E Fz Arg W0 Q φ pend fr cs W:=by
 intro ρ D own A W' h
 obtain⟨hs0,hk0⟩:=zhe h.sim.sup ht
 have hinv:=h.inv hok hs0 hb
 have hGl:∀ b,b<P.globals.size→D b∨W.heap.size≤b:=fun b hb=>.inl (h.sim.hG b hb)
 have hfut:=zne hF hGl zfO (ze3 hR) hinv hp
 have hact:=zmN hGl (zlG (κ:=.normal) (fun b=>D b∨W.heap.size≤b) E (.inl rfl) (k.map (zal ρ)) (cs.map (zab ρ))) hfut W.heap.size ρ D Fz (h.frames hs0 (fun c hc=>(List.not_mem_nil hc).elim)).sim (own:=fun x=>∃ b,D b∧¬ Fz b∧ρ.p b=x) (A:=fun x=>∃ b,D b∧ρ.p b=x)
  (fun _=>Iff.rfl) (fun _=>Iff.rfl) (fun b hb=>⟨hb,rfl⟩) rfl (Nat.le_refl _) (fun _ _=>⟨rfl,id⟩) (fun b h1 h2=>absurd h1 (Nat.not_le.2 h2))
 have hfrm:=hact.frame (own':=own) (A':=A) (fun x ⟨b,h1,h2,h3⟩=>h3 ▸ h.hown b h1 h2) (fun x ⟨b,h1,h3⟩=>h3 ▸ h.hA b h1)
 have hkd:fr.kind=.normal:=hok.kind
 have e1:up .normal (k.map (zal ρ)) (cs.map (zab ρ)) (zab ρ { fr with todo:=t0 }) (([]:List Frame).map (zab ρ))=(zab ρ fr,cs.map (zab ρ)):=by
  simp only [up,List.map_nil,Prod.mk.injEq,and_true]
  obtain⟨fn,tmps,todo,defers,mode,kind,roundOf⟩:=fr
  dsimp only at ht hkd
  subst ht hkd
  simp [zab]
 rw [e1] at hfrm
 refine Mn.of_act hfrm fun o' a' fr' cs' W2 hc=>?_
 obtain⟨o,a,⟨ρ1,D1,fr1,W1,hsim,hst,hR1,heq,ho1,hA1,h01,hed1,hcc,hkd1,hn1,hn2⟩,hf⟩:=hc
 have same:∀ b,b<(gd P).n∨D b→ρ.p b=ρ1.p b:=fun b hb=>((h01 b (hb.elim (h.sim.hG b) id)).2).symm
 have key:∀ {x:Frame},supF P D E x→zab ρ x=zab ρ1 x:=fun hx=>zbC same (fun b=>by rw [hcc]) (fun f hf=>by rw [h.sim.rok.fixo f hf,hsim.rok.fixo f hf]) hx
 have hD:∀ b,D b→D1 b:=fun b hb=>(h01 b hb).1
 have hbs:cs.map (zab ρ)=cs.map (zab ρ1):=List.map_congr_left fun c hc=>key (h.sim.sups c hc)
 have hks:k.map (zal ρ)=k.map (zal ρ1):=zcQ (fun it hi=>zcJ same (fun b=>by rw [hcc]) (fun f hf=>by rw [h.sim.rok.fixo f hf,hsim.rok.fixo f hf]) hi) hk0
 have hk1:k.map (zal (RA (gd P)))=k.map (zal (RB (gd P) D1 E)) :=
  let ⟨a,b,c⟩:=rarb (P:=P) (E:=E) hD
  zcQ (fun it hi=>zcJ a b c hi) hk0
 have hk1' : fr1.kind=.normal:=hkd1
 have e2:({ frame:=fr',callers:=cs',status:=.running,dying:=none }:Goroutine)=gor ρ1 { fr1 with todo:=fr1.todo++k } cs:=by
  simp only [up,Prod.mk.injEq] at heq
  obtain⟨rfl,rfl⟩:=heq
  unfold gor
  rw [hbs,hks]
  simp [zab,hk1']
 rw [e2]
 refine hq fr1 W1 hR1 hst ρ1 D1 o' a' W2 ⟨⟨hsim.rok,hsim.hG,hsim.lt,hsim.bd,hsim.fz,zjY hsim.sup hk1,fun c hc=>zbB hD (h.sim.sups c hc),hsim.os,hsim.output,hsim.obj,hsim.supo⟩,fun b hb hz=>hf.oo _ ((ho1 _).2 ⟨b,hb,hz,rfl⟩),fun b hb=>hf.aa _ ((hA1 _).2 ⟨b,hb,rfl⟩),fun x hx=>?_,hed1,fun x=>by rw [hcc];exact h.tok x,fun x hx=>(Nat.lt_or_ge x W.heap.size).elim (fun hlt=>by rw [(hn1 x hlt).1];exact (h.junk x hlt).imp (hf.aa' _) id) fun hge=>.inl (hf.aa _ ((hA1 _).2 ⟨x,hn2 x hge hx,rfl⟩)),Nat.le_trans h.far.1 hf.size,fun b hb=>?_⟩
 ·obtain⟨c1,c2,c3,c4⟩:=h.keep x hx
  refine⟨hf.aa' x c1,fun ho=>(hf.ob' x ho).elim c2 fun hx2=>by omega,Nat.lt_of_lt_of_le c3 hf.size,(hf.keep x c1 c3 fun ⟨b,d1,d2,d3⟩=>c2 (d3 ▸ h.hown b d1 d2)).trans c4⟩
 ·rcases Nat.lt_or_ge b W.heap.size with hlt | hge
  ·rw [(hn1 b hlt).1];exact h.far.2 b ((hn1 b hlt).2 hb)
  ·have hz:¬ Fz b:=fun hz=>by have:=h.sim.lt _ (h.sim.fz _ hz);omega
   rcases hf.ob _ ((ho1 _).2 ⟨b,hb,hz,rfl⟩) with ⟨b0,d1,d2,d3⟩ | hx
   ·have h1:=h.sim.lt _ d1
    rw [← (hn1 b0 h1).1] at d3
    have:=hsim.rok.inj b0 b d3
    omega
   ·exact .inr (Nat.le_trans h.far.1 hx)
end
end Go.Con
namespace Go.Con
open Go Go.Conc
variable [Lone]
section
variable {P:Program} {maps:Bool} {E Fz Arg:Nat→Prop} {W0:World} {ρ:Rn} {D own A:Nat→Prop} {fr fr' : Frame} {cs:List Frame} {W W' W'' : World}
variable {Q:(Nat→Prop)→(Nat→Prop)→Goroutine→World→Prop} {φ:Ph} {pend:List Nat}
theorem zmQ {b:Frame} (hm:b.mode=.run) (hr:b.roundOf=none):b.at ⟨b.tmps,b.defers⟩ b.todo=b:=by
 obtain⟨fn,tmps,todo,defers,mode,kind,roundOf⟩:=b
 dsimp only at hm hr
 subst hm hr
 rfl
def zjU:Item→Bool
 | .code _ | .inBlock _ | .inLoop _ | .inRegion _ _ | .beginRound | .inScope _=>true
 | _=>false
theorem znR {σ:Rn} {it:Item} (h:zjU it=true):zal σ it=it:=by
 cases it<;>first | rfl | cases h
theorem zbN {D:Nat→Prop} (h:supF P D E fr) {t0 t1 k:List Item} (ht:fr.todo=t0++k) (h1:t1.all zjU=true):supF P D E { fr with todo:=t1++k }:=by
 obtain⟨_,hk⟩:=zhe h ht
 have h2:∀ σ:Rn,t1.map (zal σ)=t1:=fun σ=>by
  rw [List.all_eq_true] at h1
  conv=>rhs;rw [← List.map_id t1]
  exact List.map_congr_left fun it hit=>znR (h1 it hit)
 obtain⟨fn,tmps,todo,defers,mode,kind,roundOf⟩:=fr
 simp only [supF,zab,Frame.mk.injEq,List.map_append,true_and,h2] at h ⊢
 exact⟨h.1,by rw [hk],h.2.2⟩
theorem GoM.ctl (hs:∀ D,supF P D E fr→supF P D E fr') (h:∀ (ρ:Rn) (W' : World),stepG P true (gor ρ fr cs) W'=.go (gor ρ fr' cs) W' #[]) (hg:GoM P maps E Fz Arg W0 Q φ pend fr' cs W):GoM P maps E Fz Arg W0 Q φ pend fr cs W:=by
 intro ρ D own A W' hh
 exact .ctl rfl rfl (h ρ) (hg ρ D own A W' (hh.frames (hs D hh.sim.sup) hh.sim.sups))
section
variable {k:List Item} (hm:fr.mode=.run) (hr:fr.roundOf=none)
include hm hr
theorem zbr {todo:List Item} (ht:fr.todo=todo) (σ:Rn):gor σ fr cs=G ((zab σ fr).at ⟨fr.tmps.map (ren σ),fr.defers.map (zaE σ)⟩ (todo.map (zal σ))) (cs.map (zab σ)):=by
 obtain⟨fn,tmps,todo,defers,mode,kind,roundOf⟩:=fr
 dsimp only at hm hr ht
 subst hm hr ht
 rfl
theorem GoM.seq {x y:Code} (ht:fr.todo=.code (.seq x y) :: k) (hg:GoM P maps E Fz Arg W0 Q φ pend { fr with todo:=.code x :: .code y :: k } cs W):GoM P maps E Fz Arg W0 Q φ pend fr cs W:=by
 refine .ctl (fr':={ fr with todo:=.code x :: .code y :: k }) (fun D h=>zbN h (t0:=[.code (.seq x y)]) (t1:=[.code x,.code y]) ht rfl) (fun σ W'=>?_) hg
 rw [zbr hm hr ht,zbr (fr:={ fr with todo:=.code x :: .code y :: k }) hm hr rfl]
 exact stepG_seq
theorem GoM.cond {c:Operand} {x y:Code} {t:Bool} (ht:fr.todo=.code (.cond c x y) :: k) (hc:zaS P c=true) (he:fr.eval c=.bool t) (hg:GoM P maps E Fz Arg W0 Q φ pend { fr with todo:=.code (if t then x else y) :: k } cs W):GoM P maps E Fz Arg W0 Q φ pend fr cs W:=by
 intro ρ D own A W' hh
 have hev:(zab ρ fr).eval c=.bool t:=by rw [zcf hh.sim.rok c hc,he];simp [ren]
 refine .ctl rfl rfl (fun W2=>?_) (hg ρ D own A W' (hh.frames (zbN hh.sim.sup (t0:=[.code (.cond c x y)]) (t1:=[.code (if t then x else y)]) ht rfl) hh.sim.sups))
 rw [zbr hm hr ht,zbr (fr:={ fr with todo:=.code (if t then x else y) :: k }) hm hr rfl]
 exact stepG_cond (by cases c<;>exact hev)
theorem GoM.block {id:Nat} {x:Code} (ht:fr.todo=.code (.block id x) :: k) (hg:GoM P maps E Fz Arg W0 Q φ pend { fr with todo:=.code x :: .inBlock id :: k } cs W):GoM P maps E Fz Arg W0 Q φ pend fr cs W:=by
 refine .ctl (fr':={ fr with todo:=.code x :: .inBlock id :: k }) (fun D h=>zbN h (t0:=[.code (.block id x)]) (t1:=[.code x,.inBlock id]) ht rfl) (fun σ W'=>?_) hg
 rw [zbr hm hr ht,zbr (fr:={ fr with todo:=.code x :: .inBlock id :: k }) hm hr rfl]
 exact stepG_block
theorem GoM.loop {x:Code} (ht:fr.todo=.code (.loop x) :: k) (hg:GoM P maps E Fz Arg W0 Q φ pend { fr with todo:=.code x :: .inLoop x :: k } cs W):GoM P maps E Fz Arg W0 Q φ pend fr cs W:=by
 refine .ctl (fr':={ fr with todo:=.code x :: .inLoop x :: k }) (fun D h=>zbN h (t0:=[.code (.loop x)]) (t1:=[.code x,.inLoop x]) ht rfl) (fun σ W'=>?_) hg
 rw [zbr hm hr ht,zbr (fr:={ fr with todo:=.code x :: .inLoop x :: k }) hm hr rfl]
 exact stepG_loop
theorem GoM.inLoop {x:Code} (ht:fr.todo=.inLoop x :: k) (hg:GoM P maps E Fz Arg W0 Q φ pend { fr with todo:=.code x :: .inLoop x :: k } cs W):GoM P maps E Fz Arg W0 Q φ pend fr cs W:=by
 refine .ctl (fr':={ fr with todo:=.code x :: .inLoop x :: k }) (fun D h=>zbN h (t0:=[.inLoop x]) (t1:=[.code x,.inLoop x]) ht rfl) (fun σ W'=>?_) hg
 rw [zbr hm hr ht,zbr (fr:={ fr with todo:=.code x :: .inLoop x :: k }) hm hr rfl]
 exact stepG_inLoop
theorem GoM.inBlock {id:Nat} (ht:fr.todo=.inBlock id :: k) (hg:GoM P maps E Fz Arg W0 Q φ pend { fr with todo:=k } cs W):GoM P maps E Fz Arg W0 Q φ pend fr cs W:=by
 refine .ctl (fr':={ fr with todo:=k }) (fun D h=>zbN h (t0:=[.inBlock id]) (t1:=[]) ht rfl) (fun σ W'=>?_) hg
 rw [zbr hm hr ht,zbr (fr:={ fr with todo:=k }) hm hr rfl]
 exact stepG_inBlock
theorem GoM.skip (ht:fr.todo=.code .skip :: k) (hg:GoM P maps E Fz Arg W0 Q φ pend { fr with todo:=k } cs W):GoM P maps E Fz Arg W0 Q φ pend fr cs W:=by
 refine .ctl (fr':={ fr with todo:=k }) (fun D h=>zbN h (t0:=[.code .skip]) (t1:=[]) ht rfl) (fun σ W'=>?_) hg
 rw [zbr hm hr ht,zbr (fr:={ fr with todo:=k }) hm hr rfl]
 exact stepG_skip
theorem GoM.region {id:Nat} {ops:Array Oper} (ht:fr.todo=.code (.region id ops false) :: k) (hg:GoM P maps E Fz Arg W0 Q φ pend { fr with todo:=.inRegion ops (List.range ops.size) :: k } cs W):GoM P maps E Fz Arg W0 Q φ pend fr cs W:=by
 refine .ctl (fr':={ fr with todo:=.inRegion ops (List.range ops.size) :: k }) (fun D h=>zbN h (t0:=[.code (.region id ops false)]) (t1:=[.inRegion ops (List.range ops.size)]) ht rfl) (fun σ W'=>?_) hg
 rw [zbr hm hr ht,zbr (fr:={ fr with todo:=.inRegion ops (List.range ops.size) :: k }) hm hr rfl]
 exact stepG_region
theorem GoM.regionEnd {ops:Array Oper} (ht:fr.todo=.inRegion ops [] :: k) (hg:GoM P maps E Fz Arg W0 Q φ pend { fr with todo:=k } cs W):GoM P maps E Fz Arg W0 Q φ pend fr cs W:=by
 refine .ctl (fr':={ fr with todo:=k }) (fun D h=>zbN h (t0:=[.inRegion ops []]) (t1:=[]) ht rfl) (fun σ W'=>?_) hg
 rw [zbr hm hr ht,zbr (fr:={ fr with todo:=k }) hm hr rfl]
 exact stepG_region_end
theorem GoM.exit {id:Nat} {k0 k' : List Item} (ht:fr.todo=.code (.exit id) :: (k0++k')) (hx:exitTo id (k0++k')=some k') (hg:GoM P maps E Fz Arg W0 Q φ pend { fr with todo:=k' } cs W):GoM P maps E Fz Arg W0 Q φ pend fr cs W:=by
 refine .ctl (fr':={ fr with todo:=k' }) (fun D h=>zbN h (t0:=.code (.exit id) :: k0) (t1:=[]) (by rw [ht];rfl) rfl) (fun σ W'=>?_) hg
 rw [zbr hm hr ht,zbr (fr:={ fr with todo:=k' }) hm hr rfl]
 refine stepG_exit ?_
 rw [zfi,hx];rfl
end
end
end Go.Con
namespace Go.Con
open Go Go.Conc
variable [Lone]
section
variable {P:Program} {maps:Bool} {E Fz Arg:Nat→Prop} {W0:World} {ρ:Rn} {D own A:Nat→Prop} {fr fr' : Frame} {cs:List Frame} {W W' W'' : World}
variable {Q:(Nat→Prop)→(Nat→Prop)→Goroutine→World→Prop} {φ:Ph} {pend:List Nat}
theorem zkP {σ:Rn} {K:Nat→Prop} {n n' : Next} (h:NextR P (mdOf P maps) σ n n') :
  SR P (mdOf P maps) false σ (fun a b=>b=(zab σ a.1,a.2.map (zab σ))) K (zbO P fr cs n) (zbO P (zab σ fr) (cs.map (zab σ)) n'):=by
 cases h with
 | value v=>exact zaf (by rw [← zaQ])
 | skip=>exact zaf (by rw [← zaQ,ren_undef])
 | enter f args hg =>
  refine zaf ?_
  simp only [List.map_cons,Prod.mk.injEq,and_true]
  unfold Frame.enter zab
  simp only [Array.map_append,Array.size_map,List.map_cons,List.map_nil,zal,Option.map_none,Frame.mk.injEq,and_true,true_and]
  congr 1
  apply Array.ext
  ·simp
  ·intro i h1 h2;simp [ren_undef]
 | round l f tmps a b hr=>exact zaf rfl
theorem zn5 {ops:Array Oper} {i:Nat} {rest:List Nat} {k:List Item} {o:Oper} (hm:fr.mode=.run) (ht:fr.todo=.inRegion ops (i :: rest) :: k) (ho:ops[i]?=some o) (hop:okOp P maps o.op=true) (hv:zhp P fr.eval o.op=true):SRH P maps fr cs:=by
 intro σ R
 have hev:∀ x,zaS P x=true→(zab σ fr).eval x=ren σ (fr.eval x):=fun x h=>zcf R x h
 obtain⟨fn,tmps,todo,defers,mode,kind,roundOf⟩:=fr
 dsimp only at hm ht
 subst hm ht
 unfold zan zb3 zab
 dsimp only
 simp only [List.map_cons,zal]
 have hy:(yielded ops (tmps.map (ren σ)))=yielded ops tmps:=funext fun j=>zce j
 rw [hy]
 split
 ·rw [ho]
  refine zad (zjO R (fun x hx=>hev x hx) hop hv) fun n n' hn=>?_
  exact zkP hn
 ·have e:=zaQ (ρ:=σ) (fr:={ fn:=fn,tmps:=tmps,todo:=.inRegion ops (i :: rest) :: k,defers:=defers,mode:=.run,kind:=kind,roundOf:=roundOf }) (v:=undef)
  rw [ren_undef] at e
  exact zaf (Prod.ext e rfl)
theorem GoM.op {ops:Array Oper} {i:Nat} {rest:List Nat} {k:List Item} {o:Oper} (hm:fr.mode=.run) (hk:fr.kind=.normal) (hd:fr.defers=[]) (ht:fr.todo=.inRegion ops (i :: rest) :: k) (ho:ops[i]?=some o)
  (hw:Region.wanted o (yielded ops fr.tmps)=true) (hop:okOp P maps o.op=true) (hv:zhp P fr.eval o.op=true)
  (hrun:∀ τ:Tape,Agree W.drawn τ W.tape→∃ v W1,(execOp fr.eval o).run P { W with tape:=τ }=.ok (.value v) W1∧(EmptyDef W→EmptyDef W1)∧GoM P maps E Fz Arg W0 Q φ pend (fr.finish v) cs W1) :
  GoM P maps E Fz Arg W0 Q φ pend fr cs W:=by
 refine .step (zn5 hm ht ho hop hv) ⟨fun it t e=>?_,.inl hm,fun d hdm=>?_,.inl hk⟩ fun τ hτ=>?_
 ·rw [ht] at e
  cases e
  simp only [zeq,ho,Option.all_some]
  exact hop
 ·rw [hd] at hdm;cases hdm
 ·obtain⟨v,W1,h1,h2,h3⟩:=hrun τ hτ
  refine⟨fr.finish v,cs,W1,?_,h2,h3⟩
  unfold zan
  rw [hm]
  dsimp only
  unfold zb3
  rw [ht]
  dsimp only
  rw [ho]
  simp only [Option.map_some,Option.getD_some,hw,if_true]
  rw [Sem.run_bind,h1]
  rfl
theorem GoM.enter {ops:Array Oper} {i:Nat} {rest:List Nat} {k:List Item} {o:Oper} {c:Call} {f:FuncId} {fn:Func} (hm:fr.mode=.run) (hr:fr.roundOf=none) (hk:fr.kind≠.early) (ht:fr.todo=.inRegion ops (i :: rest) :: k) (ho:ops[i]?=some o)
  (hw:Region.wanted o (yielded ops fr.tmps)=true) (hop:o.op=.call c) (hc:c.callee=.value (.func f)) (has:c.args.all (zaS P)=true) (hf:P.funcs[f]?=some fn) (hb:fn.body.isNone=false) (hn:(fn.name == "runtime.NumGoroutine")=false)
  (hg:GoM P maps E Fz Arg W0 Q φ pend (Frame.enter P f (c.args.map fr.eval) .normal) (fr :: cs) W):GoM P maps E Fz Arg W0 Q φ pend fr cs W:=by
 intro ρ D own A W' hh
 have hargs:∀ σ,RenOk P σ→c.args.map (zab σ fr).eval=(c.args.map fr.eval).map (ren σ):=fun σ R=>zf8 (fun x hx=>zcf R x hx) has
 have hent:∀ σ:Rn,zab σ (Frame.enter P f (c.args.map fr.eval) .normal)=Frame.enter P f ((c.args.map fr.eval).map (ren σ)) .normal:=by
  intro σ
  unfold Frame.enter zab
  simp only [Array.map_append,Array.size_map,List.map_cons,List.map_nil,zal,Option.map_none,Frame.mk.injEq,and_true,true_and]
  congr 1
  apply Array.ext
  ·simp
  ·intro i h1 h2;simp [ren_undef]
 have hexec:∀ (e:Operand→Value) (w:World),e (.func f)=.func (.func f) #[] #[]→(execOp e o).run P w=.ok (.enter f (c.args.map e)) w∧(execOp e o).events P w #[]=#[]:=by
  intro e w he
  unfold execOp
  rw [hop]
  have hres:resolve e c o.type=pure { target:=.fn (.func f) #[],args:=#[]++c.args.map e }:=by
   unfold resolve
   rw [hc]
   show Deferred.ofValue (e (.func f)) (c.args.map e)=_
   rw [he];rfl
  dsimp only
  rw [hres]
  show (callFunc f ((#[]++c.args.map e)++#[])).run P w=_∧(callFunc f ((#[]++c.args.map e)++#[])).events P w #[]=#[]
  rw [Array.empty_append,Array.append_empty]
  unfold callFunc
  constructor
  ·show Sem.run P (match P.funcs[f]? with | none=>_ | some fn=>_) w=_
   rw [hf]
   simp only [hn,hb,Bool.false_eq_true,if_false]
   rfl
  ·show Sem.events P (match P.funcs[f]? with | none=>_ | some fn=>_) w #[]=_
   rw [hf]
   simp only [hn,hb,Bool.false_eq_true,if_false]
   rfl
 refine .ctl rfl rfl (g':=gor ρ (Frame.enter P f (c.args.map fr.eval) .normal) (fr :: cs)) (fun W2=>?_) (hg ρ D own A W' (hh.frames ?_ fun x hx=>?_))
 ·have hx:=hexec ((⟨fr.tmps.map (ren ρ),fr.defers.map (zaE ρ)⟩:Go.Act).eval) W2 rfl
  have hst:=stepG_enter (P:=P) (main:=true) (b:=zab ρ fr) (a:=⟨fr.tmps.map (ren ρ),fr.defers.map (zaE ρ)⟩) (k:=k.map (zal ρ)) (cs:=cs.map (zab ρ)) (w:=W2) (rest:=rest) ho (by
   show Region.wanted o (yielded ops (fr.tmps.map (ren ρ)))=true
   rw [show yielded ops (fr.tmps.map (ren ρ))=yielded ops fr.tmps from funext fun j=>zce j];exact hw) hk hx.1
  rw [zbr hm hr ht]
  refine hst.trans ?_
  have hl:listed P (zab ρ fr).fn ⟨fr.tmps.map (ren ρ),fr.defers.map (zaE ρ)⟩ o W2=#[]:=by
   unfold listed
   rw [hx.2];rfl
  rw [hl]
  have hself:(zab ρ fr).at ⟨fr.tmps.map (ren ρ),fr.defers.map (zaE ρ)⟩ (.inRegion ops (i :: rest) :: k.map (zal ρ))=zab ρ fr:=by
   have:=zmQ (b:=zab ρ fr) hm (by simp [zab,hr])
   rw [show (zab ρ fr).todo=.inRegion ops (i :: rest) :: k.map (zal ρ) by simp [zab,ht,zal]] at this
   exact this
  rw [hself]
  unfold gor G
  rw [hent,← hargs ρ hh.sim.rok]
  congr 2
 ·show zab (RA (gd P)) _=zab (RB (gd P) D E) _
  rw [hent,hent,← hargs _ zmf,← hargs _ (zmg (D:=D) (E:=E)),show zab (RA (gd P)) fr=zab (RB (gd P) D E) fr from hh.sim.sup]
 ·rcases List.mem_cons.1 hx with rfl | hx
  ·exact hh.sim.sup
  ·exact hh.sim.sups x hx
theorem GoM.leave {c:Frame} {rest:List Frame} {fn:Func} {v:Value} (hm:fr.mode=.returning) (hd:fr.defers=[]) (hk:fr.kind=.normal) (hro:fr.roundOf=none) (hf:P.funcs[fr.fn]?=some fn) (hv:∀ σ:Rn,ResultsC P fn (fr.tmps.map (ren σ)) (ren σ v))
  (hg:GoM P maps E Fz Arg W0 Q φ pend (c.finish v) rest W):GoM P maps E Fz Arg W0 Q φ pend fr (c :: rest) W:=by
 intro ρ D own A W' hh
 have hsv:ren (RA (gd P)) v=ren (RB (gd P) D E) v:=by
  have h1:=(hv (RA (gd P)) W').1
  have h2:=(hv (RB (gd P) D E) W').1
  have ht:fr.tmps.map (ren (RA (gd P)))=fr.tmps.map (ren (RB (gd P) D E)):=congrArg Frame.tmps (show zab (RA (gd P)) fr=zab (RB (gd P) D E) fr from hh.sim.sup)
  rw [ht] at h1
  have h3:=h1.symm.trans h2
  simp only [Result.ok.injEq,and_true] at h3
  exact h3
 refine .ctl rfl rfl (g':=gor ρ (c.finish v) rest) (fun W2=>?_) (hg ρ D own A W' (hh.frames ?_ fun x hx=>hh.sim.sups x (List.mem_cons_of_mem _ hx)))
 ·have hst:=stepG_leave (P:=P) (main:=true) (b:=zab ρ fr) (a:=⟨fr.tmps.map (ren ρ),[]⟩) (cs:=rest.map (zab ρ)) (w:=W2) (todo:=fr.todo.map (zal ρ)) (c:=zab ρ c) hk rfl hf (hv ρ W2).1 (hv ρ W2).2
  have e:gor ρ fr (c :: rest)=G { (zab ρ fr).at ⟨fr.tmps.map (ren ρ),[]⟩ (fr.todo.map (zal ρ)) with mode:=.returning } (zab ρ c :: rest.map (zab ρ)):=by
   obtain⟨fn,tmps,todo,defers,mode,kind,roundOf⟩:=fr
   dsimp only at hm hd hro
   subst hm hd hro
   rfl
  rw [e,hst,zaQ]
  rfl
 ·show zab (RA (gd P)) _=zab (RB (gd P) D E) _
  rw [← zaQ,← zaQ,hsv,show zab (RA (gd P)) c=zab (RB (gd P) D E) c from hh.sim.sups c (List.mem_cons_self ..)]
end
end Go.Con
