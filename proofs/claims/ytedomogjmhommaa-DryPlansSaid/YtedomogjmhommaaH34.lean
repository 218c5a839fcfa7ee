import Derived.Test.YtedomogjmhommaaH33
import Derived.Conc.Beside
set_option linter.all false
set_option maxRecDepth 100000
set_option maxHeartbeats 8000000
namespace Go.Con
open Go
variable [Lone]
section
variable {P:Program} {maps:Bool} {D D' E Fz:Nat→Prop} {ρ σ:Rn}
theorem zmb (it:Item):za3 P maps (zal ρ it)=za3 P maps it:=by cases it<;>rfl
theorem zgS {fr:Frame} (h:OkFrame P maps fr):OkFrame P maps (zab ρ fr):=by
 refine⟨?_,h.mode,fun d hd=>?_,h.kind⟩
 ·have:=h.todo
  simp only [zab,List.all_map]
  have e:(za3 P maps ∘ zal ρ)=za3 P maps:=funext fun it=>zmb it
  rw [e];exact this
 ·obtain⟨d0,h0,rfl⟩:=List.mem_map.1 hd
  obtain⟨r,rfl⟩:=h.defers d0 h0
  exact⟨ρ.p r,by simp [zaE,zbw]⟩
structure Env (A:Nat→Prop) (W W' : World):Prop where
 heap:∀ x,A x→W'.heap[x]?=W.heap[x]?
 size:W.heap.size≤W'.heap.size
 os:W'.os=W.os
 output:W'.output=W.output
theorem Env.refl {A:Nat→Prop} {W:World}:Env A W W:=⟨fun _ _=>rfl,Nat.le_refl _,rfl,rfl⟩
theorem Env.trans {A:Nat→Prop} {W W' W'' : World} (h:Env A W W') (h' : Env A W' W''):Env A W W'' :=
 ⟨fun x hx=>(h'.heap x hx).trans (h.heap x hx),Nat.le_trans h.size h'.size,h'.os.trans h.os,h'.output.trans h.output⟩
def grow (S:Nat→Prop) (W W' : World):Nat→Prop:=fun x=>S x∨(W.heap.size≤x∧x<W'.heap.size)
def EvA (own A:Nat→Prop) (e:Event):Prop :=
 (∃ a,e.loc=.cell a∧e.sync=false∧A a.block∧(e.write=true→own a.block)) ∨
 (∃ b,e.loc=.obj b∧e.sync=false∧A b∧(e.write=true→own b))∨e=⟨.mark .noRoom,false,true⟩
structure Does (own A:Nat→Prop) (W W1:World) (es:Array Event):Prop where
 ev:∀ e∈es,EvA (grow own W W1) (grow A W W1) e
 size:W.heap.size≤W1.heap.size
 keep:∀ x,x<W.heap.size→¬ own x→W1.heap[x]?=W.heap[x]?
 os:W1.os=W.os
 output:W1.output=W.output
inductive Act (P:Program) (Q:(Nat→Prop)→(Nat→Prop)→Frame→List Frame→World→Prop):(Nat→Prop)→(Nat→Prop)→Frame→List Frame→World→Prop
 | done {own A:Nat→Prop} {fr:Frame} {cs:List Frame} {W:World} (h:Q own A fr cs W):Act P Q own A fr cs W
 | step {own A:Nat→Prop} {fr:Frame} {cs:List Frame} {W:World}
   (h1:∀ W' main st off,Env A W W'→∃ fr' cs' W1 es,stepG P main { frame:=fr,callers:=cs,status:=st,dying:=none,offers:=off } W' true =
    .go { frame:=fr',callers:=cs',status:=.running,dying:=none } W1 es∧Does own A W' W1 es)
   (h2:∀ W' main st off fr' cs' W1 es,Env A W W'→stepG P main { frame:=fr,callers:=cs,status:=st,dying:=none,offers:=off } W' true =
    .go { frame:=fr',callers:=cs',status:=.running,dying:=none } W1 es→Act P Q (grow own W' W1) (grow A W' W1) fr' cs' W1):Act P Q own A fr cs W
structure UpOk (P:Program) (maps:Bool) (Dl E:Nat→Prop) (Stop:Frame→List Frame→Prop) (upf:Frame→List Frame→Frame×List Frame):Prop where
 eq:∀ fr cs W,Inv P maps Dl E fr cs W→¬ Stop fr cs→∀ (ρ:Rn) W1 W2 x,(zan P (zab ρ fr) (cs.map (zab ρ))).run P W1=.ok x W2 →
  zan P (upf (zab ρ fr) (cs.map (zab ρ))).1 (upf (zab ρ fr) (cs.map (zab ρ))).2=(do let x ← zan P (zab ρ fr) (cs.map (zab ρ));pure (upf x.1 x.2))
 head:∀ fr cs W,Inv P maps Dl E fr cs W→¬ Stop fr cs→∀ ρ:Rn,zgh P maps (upf (zab ρ fr) (cs.map (zab ρ))).1
theorem zpt (Dl E:Nat→Prop) (bs:List Frame):UpOk P maps Dl E zgi (fun fr cs=>(fr,cs++bs)):=by
 refine⟨fun fr cs W hi hn ρ W1 W2 x _=>zbV ?_ ?_,fun fr cs W hi hn ρ=>(zgS hi.ok).head⟩
 ·rcases hi.base.or with h | h
  ·exact .inl (by simp [zab,h])
  ·exact .inr (by simpa using h)
 ·intro a b c
  exact hn ⟨a,List.map_eq_nil_iff.1 b,List.map_eq_nil_iff.1 c⟩
theorem zlG (Dl E:Nat→Prop) {κ:CallKind} (hκ:κ=.normal∨κ=.deferred) (k:List Item) (bs:List Frame):UpOk P maps Dl E zcS (up κ k bs):=by
 have hb:∀ {fr:Frame} {cs:List Frame} {W:World},Inv P maps Dl E fr cs W→¬ zcS fr cs→cs=[]→fr.mode=.run∧fr.todo≠[]:=by
  rintro fr cs W hi hn rfl
  refine⟨hi.ok.mode.resolve_right fun h=>hn ⟨rfl,.inl h⟩,fun h=>hn ⟨rfl,.inr h⟩⟩
 refine⟨fun fr cs W hi hn ρ W1 W2 x hr=>zgG ?_ ?_ ?_ hr,fun fr cs W hi hn ρ=>?_⟩
 ·rcases hi.base.or with h | h
  ·exact .inl (by simp [zab,h])
  ·exact .inr (by simpa using h)
 ·intro c hc
  obtain⟨c0,h0,rfl⟩:=List.mem_map.1 hc
  simpa [zab] using hi.ne c0 h0
 ·intro e
  obtain⟨h1,h2⟩:=hb hi hn (List.map_eq_nil_iff.1 e)
  exact⟨h1,by simpa [zab] using h2⟩
 ·have ho:=zgS (ρ:=ρ) hi.ok
  cases cs with
  | cons c rest=>exact ho.head
  | nil =>
   obtain⟨h1,h2⟩:=hb hi hn rfl
   have hne:(zab ρ fr).todo≠[]:=by simpa [zab] using h2
   refine⟨fun it t e=>?_,ho.mode,ho.defers,hκ.imp id fun h=>⟨h,h1,by show (zab ρ fr).roundOf=none;simp [zab,hi.base.1]⟩⟩
   change (zab ρ fr).todo++k=it :: t at e
   cases htd:(zab ρ fr).todo with
   | nil=>exact (hne htd).elim
   | cons it2 t2 =>
    rw [htd] at e
    cases e
    exact ho.head.todo it t2 htd
variable (P maps E) in
def Came (n0:Nat) (Stop:Frame→List Frame→Prop) (Q:Frame→World→Prop) (ρ0:Rn) (D0 Fz:Nat→Prop) (upf:Frame→List Frame→Frame×List Frame) (own A:Nat→Prop) (fr' : Frame) (cs' : List Frame) (W' : World):Prop :=
 ∃ ρ D fr W,Sim P maps E ρ D Fz fr [] W W'∧Stop fr []∧Q fr W∧(fr',cs')=upf (zab ρ fr) [] ∧
  (∀ x,own x↔∃ b,D b∧¬ Fz b∧ρ.p b=x)∧(∀ x,A x↔∃ b,D b∧ρ.p b=x)∧(∀ b,D0 b→D b∧ρ.p b=ρ0.p b)∧EmptyDef W∧ρ.c=ρ0.c∧fr.kind=.normal∧(∀ b,b<n0→ρ.p b=ρ0.p b∧(D b→D0 b))∧(∀ b,n0≤b→b<W.heap.size→D b)
theorem zmN {Dl:Nat→Prop} (hGl:∀ b,b<P.globals.size→Dl b) {Stop:Frame→List Frame→Prop} {upf:Frame→List Frame→Frame×List Frame} (hup:UpOk P maps Dl E Stop upf) {Q:Frame→World→Prop} {fr:Frame} {cs:List Frame} {W:World} (hfut:Fut P maps Dl E Stop Q fr cs W) (n0:Nat) (ρ0:Rn) (D0 Fz:Nat→Prop) :
  ∀ {ρ:Rn} {D own A:Nat→Prop} {W' : World},Sim P maps E ρ D Fz fr cs W W'→(∀ x,own x↔∃ b,D b∧¬ Fz b∧ρ.p b=x)→(∀ x,A x↔∃ b,D b∧ρ.p b=x) →
   (∀ b,D0 b→D b∧ρ.p b=ρ0.p b)→ρ.c=ρ0.c→n0≤W.heap.size→(∀ b,b<n0→ρ.p b=ρ0.p b∧(D b→D0 b))→(∀ b,n0≤b→b<W.heap.size→D b)→Act P (Came P maps E n0 Stop Q ρ0 D0 Fz upf) own A (upf (zab ρ fr) (cs.map (zab ρ))).1 (upf (zab ρ fr) (cs.map (zab ρ))).2 W':=by
 induction hfut with
 | done hi hst hq =>
  intro ρ D own A W' hs ho hA h0 hc0 hn0 hn1 hn2
  exact .done ⟨ρ,D,_,_,hs,hst,hq,rfl,ho,hA,h0,hi.ed,hc0,hi.ok.kind,hn1,hn2⟩
 | @step fr cs W hi hn h1 h2 ih =>
  intro ρ D own A W' hs ho hA h0 hc0 hn0 hn1 hn2
  have key:∀ W'' main st off,Env A W' W''→∃ τ fr' cs' Wf W1 es ρ',(zan P fr cs).run P { W with tape:=τ }=.ok (fr',cs') Wf∧Agree W.drawn τ W.tape ∧
    stepG P main { frame:=(upf (zab ρ fr) (cs.map (zab ρ))).1,callers:=(upf (zab ρ fr) (cs.map (zab ρ))).2,status:=st,dying:=none,offers:=off } W'' true =
     .go { frame:=(upf (zab ρ' fr') (cs'.map (zab ρ'))).1,callers:=(upf (zab ρ' fr') (cs'.map (zab ρ'))).2,status:=.running,dying:=none } W1 es∧Does own A W'' W1 es ∧
    Sim P maps E ρ' (fun b=>D b∨(W.heap.size≤b∧b<Wf.heap.size)) Fz fr' cs' Wf W1 ∧
    (∀ x,grow own W'' W1 x↔∃ b,(D b∨(W.heap.size≤b∧b<Wf.heap.size))∧¬ Fz b∧ρ'.p b=x) ∧
    (∀ x,grow A W'' W1 x↔∃ b,(D b∨(W.heap.size≤b∧b<Wf.heap.size))∧ρ'.p b=x)∧(∀ b,b<W.heap.size→ρ'.p b=ρ.p b)∧ρ'.c=ρ.c∧W.heap.size≤Wf.heap.size:=by
   intro W'' main st off henv
   have hs2:Sim P maps E ρ D Fz fr cs W W'':=hs.env (fun b hb=>henv.heap _ ((hA _).2 ⟨b,hb,rfl⟩)) henv.size henv.os henv.output
   obtain⟨τ,hτ,hstep⟩:=hs2.step hi.ok hi.oks hi.callee
   obtain⟨⟨fr',cs'⟩,Wf,hr⟩:=h1 τ hτ
   obtain⟨W1,g1,g2,g3,g4,g5⟩:=hstep hr
   have hle:W.heap.size≤Wf.heap.size:=za2 (W:={ W with tape:=τ }) hr
   have hrun1:Wf.os=W.os∧Wf.output=W.output:=by
    have hi':=hi.tape τ
    have h:=(hi'.sup_step hGl).run1 hi'.lw hi'.ed hi'.fresh
    unfold Run1 at h
    rw [hr] at h
    exact⟨h.2.2.2.2.2.2.1,h.2.2.2.2.2.2.2.1⟩
   have hold:∀ b,b<W.heap.size→(ext ρ W.heap.size W''.heap.size).p b=ρ.p b:=fun b hb=>by simp [ext,hb]
   have hnew:∀ b,W.heap.size≤b→(ext ρ W.heap.size W''.heap.size).p b=b-W.heap.size+W''.heap.size:=fun b hb=>by simp [ext,Nat.not_lt.2 hb]
   have hcc:(ext ρ W.heap.size W''.heap.size).c=ρ.c:=rfl
   generalize hρ:ext ρ W.heap.size W''.heap.size=ρ' at g1 g2 g3 g5 hold hnew hcc
   have hg:∀ x,grow own W'' W1 x↔∃ b,(D b∨(W.heap.size≤b∧b<Wf.heap.size))∧¬ Fz b∧ρ'.p b=x:=by
    intro x
    unfold grow
    rw [ho]
    constructor
    ·rintro (⟨b,hb,hz,rfl⟩ | ⟨hx1,hx2⟩)
     ·exact⟨b,.inl hb,hz,hold b (hs.lt b hb)⟩
     ·refine⟨x-W''.heap.size+W.heap.size,.inr ⟨by omega,by omega⟩,fun hz=>?_,?_⟩
      ·have:=hs.lt _ (hs.fz _ hz);omega
      ·rw [hnew _ (by omega)];omega
    ·rintro ⟨b,hb | hb,hz,rfl⟩
     ·exact .inl ⟨b,hb,hz,(hold b (hs.lt b hb)).symm⟩
     ·rw [hnew b hb.1];exact .inr ⟨by omega,by omega⟩
   have hgA:∀ x,grow A W'' W1 x↔∃ b,(D b∨(W.heap.size≤b∧b<Wf.heap.size))∧ρ'.p b=x:=by
    intro x
    unfold grow
    rw [hA]
    constructor
    ·rintro (⟨b,hb,rfl⟩ | ⟨hx1,hx2⟩)
     ·exact⟨b,.inl hb,hold b (hs.lt b hb)⟩
     ·refine⟨x-W''.heap.size+W.heap.size,.inr ⟨by omega,by omega⟩,?_⟩
      rw [hnew _ (by omega)];omega
    ·rintro ⟨b,hb | hb,rfl⟩
     ·exact .inl ⟨b,hb,(hold b (hs.lt b hb)).symm⟩
     ·rw [hnew b hb.1];exact .inr ⟨by omega,by omega⟩
   have happ:=hup.eq fr cs W hi hn ρ _ _ _ g1
   have hrun:(zan P (upf (zab ρ fr) (cs.map (zab ρ))).1 (upf (zab ρ fr) (cs.map (zab ρ))).2).run P W''=.ok ((upf (zab ρ' fr') (cs'.map (zab ρ'))).1,(upf (zab ρ' fr') (cs'.map (zab ρ'))).2) W1:=by
    rw [happ,Sem.run_bind,g1];rfl
   have hev:(zan P (upf (zab ρ fr) (cs.map (zab ρ))).1 (upf (zab ρ fr) (cs.map (zab ρ))).2).events P W'' #[]=(zan P (zab ρ fr) (cs.map (zab ρ))).events P W'' #[]:=by
    rw [happ,Sem.events_bind,g1];rfl
   obtain⟨es,hgo,hes⟩:=zdM (main:=main) (st:=st) (off:=off) (hup.head fr cs W hi hn ρ) hrun
   rw [hev] at hes
   refine⟨τ,fr',cs',Wf,W1,es,ρ',hr,hτ,hgo,⟨fun e he=>?_,g3.1,fun x hx hnx=>?_,?_,?_⟩,g2,hg,hgA,hold,hcc,hle⟩
   ·rcases g5 e (hes e he) with ⟨a,b,e1,e2,e3,e4,e5⟩ | ⟨b,e1,e2,e3,e5⟩ | h
    ·exact .inl ⟨a,e1,e2,(hgA _).2 ⟨b,e3,e4.symm⟩,fun hw=>(hg _).2 ⟨b,e3,e5 hw,e4.symm⟩⟩
    ·exact .inr (.inl ⟨_,e1,e2,(hgA _).2 ⟨b,e3,rfl⟩,fun hw=>(hg _).2 ⟨b,e3,e5 hw,rfl⟩⟩)
    ·exact .inr (.inr h)
   ·refine g3.2 x hx fun b hb hz e=>?_
    have:grow own W'' W1 x:=(hg x).2 ⟨b,hb,hz,e⟩
    rcases this with h | h
    ·exact hnx h
    ·omega
   ·rw [g2.os,hs2.os,hrun1.1]
   ·rw [g2.output,hs2.output,hrun1.2]
  refine .step (fun W'' main st off henv=>?_) fun W'' main st off fr1 cs1 W1 es henv hgo=>?_
  ·obtain⟨τ,fr',cs',Wf,W1,es,ρ',k1,k2,k3,k4,_⟩:=key W'' main st off henv
   exact⟨_,_,W1,es,k3,k4⟩
  ·obtain⟨τ,fr',cs',Wf,W1',es',ρ',k1,k2,k3,k4,k5,k6,k7,k8,k9,k10⟩:=key W'' main st off henv
   rw [k3] at hgo
   cases hgo
   exact ih _ _ _ _ k2 k1 k5 k6 k7 (fun b hb=>⟨.inl (h0 b hb).1,(k8 b (hs.lt b (h0 b hb).1)).trans (h0 b hb).2⟩) (k9.trans hc0) (Nat.le_trans hn0 k10) (fun b hb=>⟨(k8 b (Nat.lt_of_lt_of_le hb hn0)).trans (hn1 b hb).1,fun hd=>hd.elim (hn1 b hb).2 fun hd=>absurd hd.1 (by omega)⟩) fun b h1 h2=>(Nat.lt_or_ge b W.heap.size).elim (fun h=>.inl (hn2 b h1 h)) fun h=>.inr ⟨h,h2⟩
end
end Go.Con
namespace Go.Con
open Go
variable [Lone]
section
variable {P:Program} {maps:Bool} {D E:Nat→Prop}
theorem ends_of_calls {F:Fence} (hdep:F.depth=none) {n:Nat} {f:FuncId} {args:Array Value} {w:World} {R:Value→World→Prop}
  (h:CallsIn F n P f args w fun e w'=>match e with | .returned v=>R v w' | _=>False) :
  Ends P F zgi (fun fr W=>fr.fn=f∧∃ v fn,P.funcs[f]?=some fn∧(results fn fr.tmps).run P W=.ok v W∧R v W) (Frame.enter P f args .normal) [] w:=by
 obtain⟨e,w',fr,hR,hc,hfn,hl⟩:=h.2 [bot P] (fun d hd=>by rw [hdep] at hd;cases hd)
 cases e with
 | returned v =>
  obtain⟨hm,hd,hk,fn,hf,hres⟩:=hl
  exact⟨fr,w',hc,⟨hm,hd,rfl⟩,.inr hm,hfn,v,fn,hfn ▸ hf,hres,hR⟩
 | panicked=>exact hR.elim
 | outgrown=>exact hR.elim
theorem zdy {F:Fence} {fr:Frame} {b:Frame} {a:Go.Act} {w w' : World} {Q:Go.Act→World→Prop} (h:ArrivesIn (Machine.fenced P F) P (lone fr [bot P] w) b [] [bot P] .normal a w') (hq:Q a w') :
  Ends P F zcS (fun fr W=>∃ a,fr=b.atR a []∧Q a W) fr [] w:=by
 have hm:(b.atR a []).mode=.run:=rfl
 exact⟨b.atR a [],w',h,⟨rfl,.inr rfl⟩,.inl hm,a,rfl,hq⟩
end
mutual
def inv (P:Program) (ix:Value→Nat):Value→Value
 | .pointer (some a)=>.chan (some (ix (.pointer (some a))))
 | .slice (some a) n c=>.chan (some (ix (.slice (some a) n c)))
 | .map (some r)=>.chan (some (ix (.map (some r))))
 | .chan (some r)=>.chan (some (ix (.chan (some r))))
 | .func fn a b=>if zaR P fn && a.isEmpty && b.isEmpty then .func fn a b else match fn with
  | .method s=>.func (.method "") #[.nilIface] #[.chan (some (ix (.func (.method s) a b)))]
  | fn=>.chan (some (ix (.func fn a b)))
 | .iface t v=>.iface t (inv P ix v)
 | .agg cs=>.agg (invA P ix cs)
 | .tuple vs=>.tuple (invA P ix vs)
 | v=>v
def invA (P:Program) (ix:Value→Nat):Array Value→Array Value
 | ⟨l⟩=>⟨invL P ix l⟩
def invL (P:Program) (ix:Value→Nat):List Value→List Value
 | []=>[]
 | v :: l=>inv P ix v :: invL P ix l
end
theorem znl (P:Program) (ix:Value→Nat):∀ l,invL P ix l=l.map (inv P ix)
 | []=>by simp [invL]
 | v :: l=>by simp [invL,znl P ix l]
theorem znk (P:Program) (ix:Value→Nat) (a:Array Value):invA P ix a=a.map (inv P ix):=by
 obtain⟨l⟩:=a
 simp [invA,znl]
mutual
def leaves:Value→List Value
 | .iface _ v=>leaves v
 | .agg cs=>zdj cs
 | .tuple vs=>zdj vs
 | v=>[v]
def zdj:Array Value→List Value
 | ⟨l⟩=>zdC l
def zdC:List Value→List Value
 | []=>[]
 | v :: l=>leaves v++zdC l
end
def zcw (c:Nat→Value):Rn:=⟨id,c,id⟩
section
variable {P:Program} {D E:Nat→Prop} {c:Nat→Value} {ix:Value→Nat}
mutual
theorem znP:∀ v,(∀ x∈leaves v,c (ix x)=x)→ren (zcw c) (inv P ix v)=v∧supV (gd P) D E (inv P ix v)
 | .pointer none,_ | .slice none _ _,_ | .map none,_ | .chan none,_=>by simp [inv,ren,supV]
 | .pointer (some a),h=>by
  have:=h (.pointer (some a)) (by simp [leaves])
  simp [inv,ren,supV,zcw,this,cellV,RA,RB]
 | .slice (some a) n k,h=>by
  have:=h (.slice (some a) n k) (by simp [leaves])
  simp [inv,ren,supV,zcw,this,cellV,RA,RB]
 | .map (some a),h=>by
  have:=h (.map (some a)) (by simp [leaves])
  simp [inv,ren,supV,zcw,this,cellV,RA,RB]
 | .chan (some a),h=>by
  have:=h (.chan (some a)) (by simp [leaves])
  simp [inv,ren,supV,zcw,this,cellV,RA,RB]
 | .func fn a b,h=>by
  have hh:=h (.func fn a b) (by simp [leaves])
  simp only [inv]
  split
  ·rename_i hg
   simp only [Bool.and_eq_true,Array.isEmpty_iff] at hg
   obtain⟨⟨hg,rfl⟩,rfl⟩:=hg
   cases fn<;>first | (cases hg;done) | skip
   rename_i g
   refine⟨by simp [ren,zem,zd6,zcw,renA,renL],?_⟩
   simp only [supV,ren,zem,zd6,RA,RB,gd,renA,renL,id,ziY,hg,if_true]
  ·split
   ·simp [ren,zem,supV,zcw,hh,zl6,RA,RB]
   ·rename_i hm
    have hcv:cellV (.func fn a b)=.func fn a b:=by
     cases fn<;>first | rfl | exact (hm _ rfl).elim
    simp [ren,supV,zcw,hh,hcv,RA,RB]
 | .iface t v,h=>by
  have:=znP v (fun x hx=>h x (by simpa [leaves] using hx))
  simp only [inv,ren,supV,this.1,true_and]
  exact congrArg _ this.2
 | .agg cs,h=>by
  have:=ziC cs (fun x hx=>h x (by simpa [leaves] using hx))
  simp only [inv,ren,supV,this.1,true_and]
  exact congrArg _ this.2
 | .tuple cs,h=>by
  have:=ziC cs (fun x hx=>h x (by simpa [leaves] using hx))
  simp only [inv,ren,supV,this.1,true_and]
  exact congrArg _ this.2
 | .bool _,_ | .int ..,_ | .float ..,_ | .complex ..,_ | .string _,_ | .nilFunc,_ | .nilIface,_=>by simp [inv,ren,supV]
theorem ziC:∀ a,(∀ x∈zdj a,c (ix x)=x)→renA (zcw c) (invA P ix a)=a∧renA (RA (gd P)) (invA P ix a)=renA (RB (gd P) D E) (invA P ix a)
 | ⟨l⟩,h=>by
  have:=zlt l (fun x hx=>h x (by simpa [zdj] using hx))
  simp only [invA,renA,this.1,this.2,and_self]
theorem zlt:∀ l,(∀ x∈zdC l,c (ix x)=x)→renL (zcw c) (invL P ix l)=l∧renL (RA (gd P)) (invL P ix l)=renL (RB (gd P) D E) (invL P ix l)
 | [],_=>by simp [invL,renL]
 | v :: l,h=>by
  have h1:=znP v (fun x hx=>h x (by simp [zdC,hx]))
  have h2:=zlt l (fun x hx=>h x (by simp [zdC,hx]))
  simp only [invL,renL,h1.1,h2.1,h2.2,true_and]
  rw [show ren (RA (gd P)) (inv P ix v)=ren (RB (gd P) D E) (inv P ix v) from h1.2]
end
end
theorem zj4 (l:List Value):∃ c:Nat→Value,(∀ x,c (2 * x)=.chan (some x))∧∀ v∈l,∃ x,c x=v:=by
 refine⟨fun n=>if n % 2=0 then .chan (some (n / 2)) else l.getD (n / 2) (.chan none),fun x=>?_,fun v hv=>?_⟩
 ·simp
 ·obtain⟨i,hi⟩:=List.getElem?_of_mem hv
  refine⟨2 * i+1,?_⟩
  have h1:¬ (2 * i+1) % 2=0:=by omega
  have h2:(2 * i+1) / 2=i:=by omega
  simp only [h1,if_false,h2]
  rw [List.getD_eq_getElem?_getD,hi];rfl
def zcX (W:World):List Value:=W.heap.toList.flatMap fun o=>match o with | .cells c _ _=>zdj c | _=>[]
open Classical in
noncomputable def ixOf (c:Nat→Value) (v:Value):Nat:=if h:∃ x,c x=v then h.choose else 0
theorem znm {c:Nat→Value} {v:Value} (h:∃ x,c x=v):c (ixOf c v)=v:=by
 unfold ixOf
 rw [dif_pos h]
 exact h.choose_spec
open Classical in
noncomputable def zb6 (P:Program) (c:Nat→Value) (D:Nat→Prop) (W:World):World :=
 { W with heap:=W.heap.mapIdx fun b o=>if D b then (match o with | .cells cs e _=>.cells (invA P (ixOf c) cs) e (0,cs.size) | o=>o) else .cells #[] 0 (0,0) }
theorem zcZ (P:Program) (c:Nat→Value) (D:Nat→Prop) (W:World):(zb6 P c D W).heap.size=W.heap.size:=by simp [zb6]
open Classical in
theorem zgz (P:Program) (c:Nat→Value) (D:Nat→Prop) (W:World) (b:Nat):(zb6 P c D W).heap[b]?=(W.heap[b]?).map fun o=>if D b then (match o with | .cells cs e _=>.cells (invA P (ixOf c) cs) e (0,cs.size) | o=>o) else .cells #[] 0 (0,0):=by
 simp [zb6,Array.getElem?_mapIdx]
section
variable {P:Program} {maps:Bool} {D E:Nat→Prop} {c:Nat→Value}
theorem zl4 {W:World} {b:Nat} {cs:Array Value} {e:TypeId} {fz:Nat×Nat} (h:W.heap[b]?=some (.cells cs e fz)):∀ x∈zdj cs,x∈zcX W:=by
 intro x hx
 unfold zcX
 rw [List.mem_flatMap]
 exact⟨_,Array.mem_toList_iff.2 (Array.mem_of_getElem? h),hx⟩
theorem zjH {fr:Frame} {W:World} (hG:∀ b,b<P.globals.size→D b) (hD:∀ b,D b→∃ cs e fz,W.heap[b]?=some (.cells cs e fz))
  (hc:∀ v∈zcX W,∃ x,c x=v) (hs:supF P D E fr):Sim P maps E (zcw c) D D fr [] (zb6 P c D W) W:=by
 have hinv:∀ (b:Nat) (cs:Array Value) (e:TypeId) (fz:Nat×Nat),W.heap[b]?=some (Obj.cells cs e fz)→renA (zcw c) (invA P (ixOf c) cs)=cs∧renA (RA (gd P)) (invA P (ixOf c) cs)=renA (RB (gd P) D E) (invA P (ixOf c) cs) :=
  fun b cs e fz h=>ziC cs fun x hx=>znm (hc x (zl4 h x hx))
 have key:∀ b o,D b→(zb6 P c D W).heap[b]?=some o→∃ cs e fz,W.heap[b]?=some (Obj.cells cs e fz)∧o=Obj.cells (invA P (ixOf c) cs) e (0,cs.size):=by
  intro b o hb ho
  obtain⟨cs,e,fz,h⟩:=hD b hb
  rw [zgz,h] at ho
  simp only [Option.map_some,Option.some.injEq,if_pos hb] at ho
  exact⟨cs,e,fz,h,ho.symm⟩
 refine⟨⟨fun _ _ h=>h,fun _ _=>rfl,fun _ _=>rfl⟩,hG,fun b hb=>?_,fun b hb=>?_,fun _ h=>h,hs,fun x hx=>(List.not_mem_nil hx).elim,rfl,rfl,fun b o hb ho=>?_,fun b o hb ho=>?_⟩
 ·obtain⟨cs,e,fz,h⟩:=hD b hb
  rw [zcZ]
  exact (Array.getElem?_eq_some_iff.1 h).1
 ·rw [zcZ] at hb;exact hb
 ·obtain⟨cs,e,fz,h,rfl⟩:=key b o hb ho
  refine⟨_,h,?_⟩
  have h1:=(hinv b cs e fz h).1
  have:=ObjR.frozen (ρ:=zcw c) (Fz:=D) (mf:=mdOf P maps) hb (invA P (ixOf c) cs) e fz
  rw [← zaD,h1] at this
  have hsz:(invA P (ixOf c) cs).size=cs.size:=by simp [znk]
  rw [hsz] at this
  exact this
 ·obtain⟨cs,e,fz,h,rfl⟩:=key b o hb ho
  refine⟨?_,rfl,rfl⟩
  have h2:=(hinv b cs e fz h).2
  rw [zaD,zaD] at h2
  simp only [za8,zau,h2]
end
end Go.Con
namespace Go.Con
open Go Go.Conc
variable [Lone]
def zfg:Loc→Option Nat
 | .cell a=>some a.block
 | .obj b=>some b
 | _=>none
structure Zone where
 own:Nat→Prop
 A:Nat→Prop
def Sep (z:Zone) (x:Touch):Prop:=∀ b,zfg x.loc=some b→¬ z.own b∧(x.write=true→¬ z.A b)
def Lets (z:Zone) (x:Touch):Prop:=∃ b,zfg x.loc=some b∧z.A b∧(x.write=true→z.own b)
structure TI (t:Trace) (Z:Nat→Option Zone):Prop where
 clean:∀ said,¬ Race said t
 word:Wordless t
 sep:∀ i x g z,touchAt t i=some x→x.loc.isMemory=true→Z g=some z→Knows t g i∨Sep z x
 mine:∀ i op x z,t[i]?=some op→op.act.touch?=some x→x.loc.isMemory=true→op.g≠0→Z op.g=some z→Lets z x∨Knows t 0 i
 gone:∀ i op x,t[i]?=some op→op.act.touch?=some x→x.loc.isMemory=true→op.g≠0→Z op.g=none→Knows t 0 i
def Below (t:Trace) (B:Nat):Prop:=∀ (i:Nat) (x:Touch) (b:Nat),touchAt t i=some x→zfg x.loc=some b→b<B
def setZ (Z:Nat→Option Zone) (g:Nat) (z:Option Zone):Nat→Option Zone:=fun h=>if h=g then z else Z h
theorem zao (Z:Nat→Option Zone) (g:Nat) (z:Option Zone):setZ Z g z g=z:=by simp [setZ]
theorem zas (Z:Nat→Option Zone) {g h:Nat} (z:Option Zone) (hn:h≠g):setZ Z g z h=Z h:=by simp [setZ,hn]
theorem zm7 {own A:Nat→Prop} {e:Event} (h:EvA own A e) {x:Touch} (hx:(MemAct.ofEvent e).touch?=some x):∃ b,zfg x.loc=some b∧A b∧(x.write=true→own b):=by
 rcases h with ⟨a,h1,h2,h3,h4⟩ | ⟨b,h1,h2,h3,h4⟩ | rfl
 ·obtain⟨loc,wr,sy⟩:=e
  dsimp only at h1 h2 h4
  subst h1 h2
  simp only [MemAct.ofEvent,MemAct.touch?,Option.some.injEq] at hx
  subst hx
  exact⟨a.block,rfl,h3,h4⟩
 ·obtain⟨loc,wr,sy⟩:=e
  dsimp only at h1 h2 h4
  subst h1 h2
  simp only [MemAct.ofEvent,MemAct.touch?,Option.some.injEq] at hx
  subst hx
  exact⟨b,rfl,h3,h4⟩
 ·simp [MemAct.ofEvent,MemAct.touch?] at hx
theorem zoB {own A:Nat→Prop} {e:Event} (h:EvA own A e) (m:Mark) (hm:MemAct.ofEvent e=.mark m):m=.noRoom:=by
 obtain⟨loc,wr,sy⟩:=e
 rcases h with ⟨a,h1,h2,_⟩ | ⟨b,h1,h2,_⟩ | h
 ·dsimp only at h1 h2;subst h1 h2;simp [MemAct.ofEvent] at hm
 ·dsimp only at h1 h2;subst h1 h2;simp [MemAct.ofEvent] at hm
 ·cases h;simp [MemAct.ofEvent] at hm;exact hm.symm
theorem zng:Neutral .noRoom:=by
 unfold Neutral
 simp
theorem zeJ {own A:Nat→Prop} {g:Nat} {fn:FuncId} {pos:String} {es:Array Event} (hev:∀ e∈es,EvA own A e) {op:MemOp} (ho:op∈MemOp.ofEvents g fn pos es) {x:Touch} (hx:op.act.touch?=some x) :
  ∃ b,zfg x.loc=some b∧A b∧(x.write=true→own b):=by
 obtain⟨e,he,rfl⟩:=Go.Conc.mem_ofEvents ho
 exact zm7 (hev e he) hx
theorem TI.go {t:Trace} {Z:Nat→Option Zone} (h:TI t Z) {g:Nat} {z:Zone} (hz:Z g=some z) {W W1:World} (hlow:Below t W.heap.size)
  (hoth:∀ g' z2,g'≠g→Z g'=some z2→(∀ b,grow z.own W W1 b→¬ z2.A b)∧(∀ b,grow z.A W W1 b→¬ z2.own b)) {fn:FuncId} {pos:String} {es:Array Event}
  (hev:∀ e∈es,EvA (grow z.own W W1) (grow z.A W W1) e):TI (t++MemOp.ofEvents g fn pos es) (setZ Z g (some ⟨grow z.own W W1,grow z.A W W1⟩)):=by
 have hg:∀ op∈MemOp.ofEvents g fn pos es,op.g=g:=fun op hop=>by obtain⟨e,_,rfl⟩:=Go.Conc.mem_ofEvents hop;rfl
 have grown:∀ {x:Touch} {i:Nat},touchAt t i=some x→Sep z x→Sep ⟨grow z.own W W1,grow z.A W W1⟩ x:=by
  intro x i hx hs b hb
  have hlt:=hlow i x b hx hb
  obtain⟨h1,h2⟩:=hs b hb
  refine⟨fun ho=>ho.elim h1 fun hf=>by omega,fun hw hA=>hA.elim (h2 hw) fun hf=>by omega⟩
 refine⟨fun said=>noRace_append (h.clean said) hg fun i a ha op hop b hb hc=>?_,h.word.append fun op hop m hm=>?_,fun i x g' z2 hx hm hz2=>?_,fun i op x z2 ho hx hm hne hz2=>?_,fun i op x ho hx hm hne hz2=>?_⟩
 ·
  rcases h.sep i a g z ha hc.2.1 hz with hk | hs
  ·exact hk
  ·exfalso
   obtain⟨bb,hbb,hA,hw⟩:=zeJ hev hop hb
   have hba:zfg a.loc=some bb:=by rw [hc.1];exact hbb
   have hlt:=hlow i a bb ha hba
   obtain⟨h1,h2⟩:=hs bb hba
   rcases hc.2.2.1 with hwa | hwb
   ·exact hA.elim (h2 hwa) fun hf=>by omega
   ·exact (hw hwb).elim h1 fun hf=>by omega
 ·obtain⟨e,he,rfl⟩:=Go.Conc.mem_ofEvents hop
  rw [zoB (hev e he) m hm]
  exact zng
 ·obtain⟨op,ho,hox⟩:=touch_of hx
  rcases getElem?_append_cases ho with ⟨hi,ho'⟩ | ⟨hi,hou⟩
  ·have hx' : touchAt t i=some x:=by rw [touchAt_of ho'];exact hox
   by_cases e:g'=g
   ·subst e
    rw [zao] at hz2
    cases hz2
    rcases h.sep i x g' z hx' hm hz with hk | hs
    ·exact .inl (hk.app _)
    ·exact .inr (grown hx' hs)
   ·rw [zas _ _ e] at hz2
    rcases h.sep i x g' z2 hx' hm hz2 with hk | hs
    ·exact .inl (hk.app _)
    ·exact .inr hs
  ·by_cases e:g'=g
   ·subst e
    have:=knows_own ho
    rw [hg op hou] at this
    exact .inl this
   ·rw [zas _ _ e] at hz2
    obtain⟨h1,h2⟩:=hoth g' z2 e hz2
    obtain⟨bb,hbb,hA,hw⟩:=zeJ hev hou hox
    refine .inr fun b hb=>?_
    rw [hbb] at hb
    cases hb
    exact⟨h2 _ hA,fun hwx=>h1 _ (hw hwx)⟩
 ·rcases getElem?_append_cases ho with ⟨hi,ho'⟩ | ⟨hi,hou⟩
  ·by_cases e:op.g=g
   ·rw [e,zao] at hz2
    cases hz2
    rcases h.mine i op x z ho' hx hm hne (by rw [e];exact hz) with ⟨b,hb,hA,hw⟩ | hk
    ·exact .inl ⟨b,hb,.inl hA,fun hwx=>.inl (hw hwx)⟩
    ·exact .inr (hk.app _)
   ·rw [zas _ _ e] at hz2
    exact (h.mine i op x z2 ho' hx hm hne hz2).imp id fun hk=>hk.app _
  ·rw [hg op hou,zao] at hz2
   cases hz2
   exact .inl (zeJ hev hou hx)
 ·rcases getElem?_append_cases ho with ⟨hi,ho'⟩ | ⟨hi,hou⟩
  ·have e:op.g≠g:=by
    intro e
    rw [e,zao] at hz2
    cases hz2
   rw [zas _ _ e] at hz2
   exact (h.gone i op x ho' hx hm hne hz2).app _
  ·rw [hg op hou,zao] at hz2
   cases hz2
end Go.Con
namespace Go.Con
open Go Go.Conc
variable [Lone]
def Mute (op:MemOp):Prop:=op.act.touch?=none∧∀ m,op.act=.mark m→Neutral m
theorem TI.mute {t:Trace} {Z:Nat→Option Zone} (h:TI t Z) {op:MemOp} (ho:Mute op):TI (t.push op) Z:=by
 have e:t.push op=t++#[op]:=by simp
 rw [e]
 have hu:∀ o∈(#[op]:Trace),o=op:=fun o ho=>by simpa using ho
 refine⟨fun said=>noRace_append (g:=op.g) (h.clean said) (fun o hm=>by rw [hu o hm]) fun i a ha o hm b hb hc=>?_,h.word.append fun o hm m hmm=>?_,fun i x g z hx hm hz=>?_,fun i o x z ho2 hx hm hne hz=>?_,fun i o x ho2 hx hm hne hz=>?_⟩
 ·rw [hu o hm,ho.1] at hb;cases hb
 ·rw [hu o hm] at hmm;exact ho.2 m hmm
 ·obtain⟨o,ho2,hox⟩:=touch_of hx
  rcases getElem?_append_cases ho2 with ⟨_,ho'⟩ | ⟨_,hou⟩
  ·exact (h.sep i x g z (by rw [touchAt_of ho'];exact hox) hm hz).imp (fun hk=>hk.app _) id
  ·rw [hu o hou,ho.1] at hox;cases hox
 ·rcases getElem?_append_cases ho2 with ⟨_,ho'⟩ | ⟨_,hou⟩
  ·exact (h.mine i o x z ho' hx hm hne hz).imp id fun hk=>hk.app _
  ·rw [hu o hou,ho.1] at hx;cases hx
 ·rcases getElem?_append_cases ho2 with ⟨_,ho'⟩ | ⟨_,hou⟩
  ·exact (h.gone i o x ho' hx hm hne hz).app _
  ·rw [hu o hou,ho.1] at hx;cases hx
theorem zhL {t:Trace} (hw:Wordless t) {i j:Nat} {x y:MemOp} (hx:t[i]?=some x) (hy:t[j]?=some y) (h:Notices t i j):HappensBefore t i j :=
 Relation.TransGen.single (.inr ⟨h,hw.heard hx,hw.heard hy⟩)
theorem TI.take {t:Trace} {Z:Nat→Option Zone} (h:TI t Z) {z0 zj:Zone} {j p q c k:Nat} (h0:Z 0=some z0)
  (hoth:∀ l zl,l≠0→l≠j→Z l=some zl→(∀ b,zj.own b→¬ zl.A b)∧(∀ b,zl.own b→¬ zj.A b))
  {x y:MemOp} (hp:t[p]?=some x) (hxg:x.g=j) (hxa:x.act=.send c k) (hq:t[q]?=some y) (hyg:y.g=0) (hya:y.act=.recvDone c k)
  (hlast:∀ (i:Nat) (op:MemOp),t[i]?=some op→op.g=j→op.act.touch?.isSome=true→i<p) :
  TI t (setZ (setZ Z j none) 0 (some ⟨fun b=>z0.own b∨zj.own b,fun b=>z0.A b∨zj.A b⟩)):=by
 have hpq:HappensBefore t p q:=zhL h.word hp hq (.handOver (c:=c) (k:=k) (by simp [Trace.act?,hp,hxa]) (by simp [Trace.act?,hq,hya]))
 have known:∀ i op tx,t[i]?=some op→op.act.touch?=some tx→op.g=j→Knows t 0 i:=by
  intro i op tx ho hx hg
  have hlt:=hlast i op ho hg (by rw [hx];rfl)
  exact⟨q,y,hq,hyg,.inr ((hb_po hlt ho hp (hg.trans hxg.symm)).trans hpq)⟩
 refine⟨h.clean,h.word,fun i tx g z hx hm hz=>?_,fun i op tx z ho hx hm hne hz=>?_,fun i op tx ho hx hm hne hz=>?_⟩
 ·by_cases e:g=0
  ·subst e
   rw [zao] at hz
   cases hz
   rcases h.sep i tx 0 z0 hx hm h0 with hk | hs
   ·exact .inl hk
   ·obtain⟨op,ho,hox⟩:=touch_of hx
    by_cases e0:op.g=0
    ·have:=knows_own ho;rw [e0] at this;exact .inl this
    by_cases ej:op.g=j
    ·exact .inl (known i op tx ho hox ej)
    cases hzl:Z op.g with
    | none=>exact .inl (h.gone i op tx ho hox hm e0 hzl)
    | some zl =>
     rcases h.mine i op tx zl ho hox hm e0 hzl with ⟨b,hb,hA,hw⟩ | hk
     ·obtain⟨g1,g2⟩:=hoth op.g zl e0 ej hzl
      refine .inr fun b' hb'=>?_
      obtain⟨s1,s2⟩:=hs b' hb'
      rw [hb] at hb'
      cases hb'
      exact⟨fun ho=>ho.elim s1 fun ho=>g1 b ho hA,fun hwx hA'=>hA'.elim (s2 hwx) (g2 b (hw hwx))⟩
     ·exact .inl hk
  ·rw [zas _ _ e] at hz
   by_cases ej:g=j
   ·subst ej;rw [zao] at hz;cases hz
   ·rw [zas _ _ ej] at hz
    exact h.sep i tx g z hx hm hz
 ·rw [zas _ _ hne] at hz
  by_cases ej:op.g=j
  ·rw [ej,zao] at hz;cases hz
  ·rw [zas _ _ ej] at hz
   exact h.mine i op tx z ho hx hm hne hz
 ·rw [zas _ _ hne] at hz
  by_cases ej:op.g=j
  ·exact known i op tx ho hx ej
  ·rw [zas _ _ ej] at hz
   exact h.gone i op tx ho hx hm hne hz
theorem TI.start {t:Trace} {Z:Nat→Option Zone} (h:TI t Z) {z0:Zone} {n p q:Nat} {Ac:Nat→Prop} (h0:Z 0=some z0) (hAc:∀ b,Ac b→z0.A b)
  (hoth:∀ l zl,l≠0→Z l=some zl→∀ b,zl.own b→¬ z0.A b)
  {x y:MemOp} (hp:t[p]?=some x) (hxa:x.act=.go n) (hq:t[q]?=some y) (hyg:y.g=n) (hya:y.act=.start)
  (hnone:∀ (i:Nat) (op:MemOp),t[i]?=some op→op.g=n→op.act.touch?=none)
  (hknow:∀ (i:Nat) (op:MemOp),t[i]?=some op→op.act.touch?.isSome=true→Knows t 0 i→HappensBefore t i p) :
  TI t (setZ (setZ Z n (some ⟨fun _=>False,Ac⟩)) 0 (some ⟨fun b=>z0.own b∧¬ Ac b,z0.A⟩)):=by
 have hb:HappensBefore t p q:=zhL h.word hp hq (.spawn (child:=n) (by simp [Trace.act?,hp,hxa]) (by simp [Trace.act?,hq,hya]) (by simp [Trace.g?,hq,hyg]))
 refine⟨h.clean,h.word,fun i tx g z hx hm hz=>?_,fun i op tx z ho hx hm hne hz=>?_,fun i op tx ho hx hm hne hz=>?_⟩
 ·by_cases e:g=0
  ·subst e
   rw [zao] at hz
   cases hz
   exact (h.sep i tx 0 z0 hx hm h0).imp id fun hs b hb=>⟨fun ho=>(hs b hb).1 ho.1,(hs b hb).2⟩
  ·rw [zas _ _ e] at hz
   by_cases en:g=n
   ·subst en
    rw [zao] at hz
    cases hz
    obtain⟨op,ho,hox⟩:=touch_of hx
    have hs0:op.act.touch?.isSome=true:=by rw [hox];rfl
    have viaMain:Knows t 0 i→Knows t g i:=fun hk=>⟨q,y,hq,hyg,.inr ((hknow i op ho hs0 hk).trans hb)⟩
    by_cases e0:op.g=0
    ·have:=knows_own ho;rw [e0] at this;exact .inl (viaMain this)
    cases hzl:Z op.g with
    | none=>exact .inl (viaMain (h.gone i op tx ho hox hm e0 hzl))
    | some zl =>
     rcases h.mine i op tx zl ho hox hm e0 hzl with ⟨b,hb2,hA,hw⟩ | hk
     ·refine .inr fun b' hb'=>⟨id,fun hwx hA'=>?_⟩
      rw [hb2] at hb'
      cases hb'
      exact hoth op.g zl e0 hzl b (hw hwx) (hAc b hA')
     ·exact .inl (viaMain hk)
   ·rw [zas _ _ en] at hz
    exact h.sep i tx g z hx hm hz
 ·rw [zas _ _ hne] at hz
  by_cases en:op.g=n
  ·rw [hnone i op ho en] at hx;cases hx
  ·rw [zas _ _ en] at hz
   exact h.mine i op tx z ho hx hm hne hz
 ·rw [zas _ _ hne] at hz
  by_cases en:op.g=n
  ·rw [en,zao] at hz;cases hz
  ·rw [zas _ _ en] at hz
   exact h.gone i op tx ho hx hm hne hz
end Go.Con
