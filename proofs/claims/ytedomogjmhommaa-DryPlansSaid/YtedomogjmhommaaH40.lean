import Derived.Test.YtedomogjmhommaaH39
set_option linter.all false
set_option maxRecDepth 100000
set_option maxHeartbeats 8000000
namespace Go.Con
open Go Go.Conc
variable [Lone]
def wgor (P:Program) (ρ:Rn) (fr:Frame):Goroutine:={ frame:={ zab ρ fr with kind:=.deferred },callers:=[root P],status:=.running,dying:=none }
structure HereW (P:Program) (maps:Bool) (E Fz:Nat→Prop) (B:Nat) (ρ:Rn) (D own A:Nat→Prop) (fr:Frame) (W W' : World):Prop where
 sim:Sim P maps E ρ D Fz fr [] W W'
 hown:∀ b,D b→¬ Fz b→own (ρ.p b)
 hA:∀ b,D b→A (ρ.p b)
 low:∀ x,own x→B≤x
 size:B≤W'.heap.size
 ed:EmptyDef W
 tok:∀ x,ρ.c (2 * x)=.chan (some x)
section
variable {P:Program} {maps:Bool} {E Fz:Nat→Prop} {B:Nat} {ρ:Rn} {D own A:Nat→Prop} {fr fr' : Frame} {W W' W'' : World} {c:Nat} {Post:Hand}
theorem HereW.env (h:HereW P maps E Fz B ρ D own A fr W W') (he:Env A W' W''):HereW P maps E Fz B ρ D own A fr W W'' :=
 ⟨h.sim.env (fun b hb=>he.heap _ (h.hA b hb)) he.size he.os he.output,h.hown,h.hA,h.low,Nat.le_trans h.size he.size,h.ed,h.tok⟩
theorem HereW.frame (h:HereW P maps E Fz B ρ D own A fr W W') {fr1:Frame} (hs:supF P D E fr1):HereW P maps E Fz B ρ D own A fr1 W W' :=
 ⟨⟨h.sim.rok,h.sim.hG,h.sim.lt,h.sim.bd,h.sim.fz,hs,(fun _ hc=>(List.not_mem_nil hc).elim),h.sim.os,h.sim.output,h.sim.obj,h.sim.supo⟩,h.hown,h.hA,h.low,h.size,h.ed,h.tok⟩
def GoW (P:Program) (maps:Bool) (E Fz:Nat→Prop) (B:Nat) (c:Nat) (Post:Hand) (fr:Frame) (W:World):Prop :=
 ∀ ρ D own A W',HereW P maps E Fz B ρ D own A fr W W'→Wk P c Post own A (wgor P ρ fr) W'
theorem Wk.ctl {own A:Nat→Prop} {g g' : Goroutine} {W:World} (hr:g.status=.running) (hr' : g'.status=.running) (h:∀ W',stepG P false g W'=.go g' W' #[]) (hm:Wk P c Post own A g' W):Wk P c Post own A g W:=by
 refine .step hr (fun W' _=>⟨g',W',#[],h W',⟨fun e he=>(Array.not_mem_empty e he).elim,Nat.le_refl _,fun _ _ _=>rfl,rfl,rfl⟩,hr'⟩) fun W' g2 W1 es he hs=>?_
 rw [h W'] at hs
 cases hs
 rw [zeQ,zeQ]
 exact hm.env he
theorem GoW.ctl (hs:∀ D,supF P D E fr→supF P D E fr') (h:∀ (ρ:Rn) (W' : World),stepG P false (wgor P ρ fr) W'=.go (wgor P ρ fr') W' #[]) (hg:GoW P maps E Fz B c Post fr' W):GoW P maps E Fz B c Post fr W:=by
 intro ρ D own A W' hh
 exact Wk.ctl rfl rfl (h ρ) (hg ρ D own A W' (hh.frame (hs D hh.sim.sup)))
theorem HereW.step (h:HereW P maps E Fz B ρ D own A fr W W') (hsr:SRH P maps fr []) (hh:zgh P maps fr) (hm:fr.mode=.run) (hro:fr.roundOf=none) (hne:fr.todo≠[]) :
  ∃ τ:Tape,Agree W.drawn τ W.tape∧∀ {fr' : Frame} {Wf:World},(zan P fr []).run P { W with tape:=τ }=.ok (fr',[]) Wf→EmptyDef Wf →
  ∃ W1 es,stepG P false (wgor P ρ fr) W'=.go (wgor P (ext ρ W.heap.size W'.heap.size) fr') W1 es∧Does own A W' W1 es ∧
   HereW P maps E Fz B (ext ρ W.heap.size W'.heap.size) (fun b=>D b∨(W.heap.size≤b∧b<Wf.heap.size)) (grow own W' W1) (grow A W' W1) fr' Wf W1:=by
 obtain⟨τ,hτ,hstep⟩:=h.sim.stepS hsr
 refine⟨τ,hτ,fun {fr' Wf} hr hed=>?_⟩
 obtain⟨W1,g1,g2,g3,g4,g5⟩:=hstep hr
 simp only [List.map_nil] at g1 g5
 have hle:W.heap.size≤Wf.heap.size:=za2 (W:={ W with tape:=τ }) hr
 have hold:∀ b,b<W.heap.size→(ext ρ W.heap.size W'.heap.size).p b=ρ.p b:=fun b hb=>by simp [ext,hb]
 have hnew:∀ b,W.heap.size≤b→(ext ρ W.heap.size W'.heap.size).p b=b-W.heap.size+W'.heap.size:=fun b hb=>by simp [ext,Nat.not_lt.2 hb]
 have hos:Wf.os=W.os∧Wf.output=W.output:=by
  have hw:Sup P (mdOf P maps) (gd P) (fun b=>D b∨W.heap.size≤b) E (fun _=>True) (zan P fr []):=by
   have hA:=hsr _ zmf
   have hB:=hsr _ (zmg (D:=fun b=>D b∨W.heap.size≤b) (E:=E))
   have hDD:∀ b,D b→(fun b=>D b∨W.heap.size≤b) b:=fun b hb=>.inl hb
   rw [← show zab (RA (gd P)) fr=zab (RB (gd P) (fun b=>D b∨W.heap.size≤b) E) fr from zbB hDD h.sim.sup] at hB
   exact (zlE (mf:=mdOf P maps) (G:=gd P) (D:=fun b=>D b∨W.heap.size≤b) (E:=E) (fun b hb=>.inl (h.sim.hG b hb)) hA hB).mono fun _ _=>trivial
  have hlw:LW (gd P) (fun b=>D b∨W.heap.size≤b) E (mdOf P maps) { W with tape:=τ }:=by
   intro b o hb ho
   have hlt:b<W.heap.size:=by
    rcases Nat.lt_or_ge b W.heap.size with h | h
    ·exact h
    ·rw [show ({ W with tape:=τ }:World).heap=W.heap from rfl,Array.getElem?_eq_none h] at ho;cases ho
   obtain⟨h1,h2⟩:=h.sim.supo b o (hb.resolve_right (Nat.not_le.2 hlt)) ho
   exact⟨zcc (fun b hb=>.inl hb) h1,h2⟩
  have:=hw.run1 hlw h.ed (fun b hb=>.inr hb)
  unfold Run1 at this
  rw [hr] at this
  exact⟨this.2.2.2.2.2.2.1,this.2.2.2.2.2.2.2.1⟩
 have hup:=zgG (κ:=.deferred) (k:=[]) (bs:=[root P]) (fr:=zab ρ fr) (cs:=[]) (.inl (by simp [zab,hro])) (fun _ hc=>(List.not_mem_nil hc).elim) (fun _=>⟨hm,by simpa [zab] using hne⟩) g1
 have e1:up .deferred [] [root P] (zab ρ fr) []=({ zab ρ fr with kind:=.deferred },[root P]):=by simp [up]
 rw [e1] at hup
 have g1' : (zan P { zab ρ fr with kind:=.deferred } [root P]).run P W'=.ok ({ zab (ext ρ W.heap.size W'.heap.size) fr' with kind:=.deferred },[root P]) W1:=by
  rw [hup]
  unfold lift
  rw [Sem.run_bind,g1]
  simp [up,Sem.run_pure]
 have hev:(zan P { zab ρ fr with kind:=.deferred } [root P]).events P W' #[]=(zan P (zab ρ fr) []).events P W' #[]:=by
  rw [hup]
  unfold lift
  rw [Sem.events_bind]
  rw [g1]
  rfl
 obtain⟨es,hgo,hes⟩:=zdM (main:=false) (st:=.running) (off:=none) (P:=P) (maps:=maps) (fr:={ zab ρ fr with kind:=.deferred }) (cs:=[root P]) ⟨fun it t e=>by
   have e' : fr.todo.map (zal ρ)=it :: t:=e
   cases hf:fr.todo with
   | nil=>rw [hf] at e';cases e'
   | cons it0 t0 =>
    rw [hf] at e'
    simp only [List.map_cons,List.cons.injEq] at e'
    obtain⟨rfl,_⟩:=e'
    have:=hh.todo it0 t0 hf
    cases it0 with
    | code c=>exact this
    | inRegion ops l=>cases l<;>exact this
    | _=>exact this,.inl hm,fun d hd=>by
   obtain⟨d0,h0,rfl⟩:=List.mem_map.1 hd
   obtain⟨r,rfl⟩:=hh.defers d0 h0
   exact⟨ρ.p r,by simp [zaE,zbw]⟩,.inr ⟨rfl,hm,by simp [zab,hro]⟩⟩ g1'
 rw [hev] at hes
 have hdoes:Does own A W' W1 es:=by
  refine⟨fun e he=>?_,g3.1,fun x hx hn=>g3.2 x hx fun b hb hz hx2=>?_,?_,?_⟩
  ·have hA:∀ b,(D b∨(W.heap.size≤b∧b<Wf.heap.size))→grow A W' W1 ((ext ρ W.heap.size W'.heap.size).p b):=by
    intro b hb
    rcases hb with hb | hb
    ·rw [hold b (h.sim.lt b hb)];exact .inl (h.hA b hb)
    ·rw [hnew b hb.1];exact .inr ⟨by omega,by omega⟩
   have hO:∀ b,(D b∨(W.heap.size≤b∧b<Wf.heap.size))→¬ Fz b→grow own W' W1 ((ext ρ W.heap.size W'.heap.size).p b):=by
    intro b hb hz
    rcases hb with hb | hb
    ·rw [hold b (h.sim.lt b hb)];exact .inl (h.hown b hb hz)
    ·rw [hnew b hb.1];exact .inr ⟨by omega,by omega⟩
   rcases g5 e (hes e he) with ⟨a,b,e1,e2,e3,e4,e5⟩ | ⟨b,e1,e2,e3,e5⟩ | he2
   ·exact .inl ⟨a,e1,e2,by rw [e4];exact hA b e3,fun hw=>by rw [e4];exact hO b e3 (e5 hw)⟩
   ·exact .inr (.inl ⟨_,e1,e2,hA b e3,fun hw=>hO b e3 (e5 hw)⟩)
   ·exact .inr (.inr he2)
  ·rcases hb with hb | hb
   ·rw [hold b (h.sim.lt b hb)] at hx2
    exact hn (hx2 ▸ h.hown b hb hz)
   ·rw [hnew b hb.1] at hx2;omega
  ·rw [g2.os,h.sim.os,hos.1]
  ·rw [g2.output,h.sim.output,hos.2]
 refine⟨W1,es,hgo,hdoes,g2,fun b hb hz=>?_,fun b hb=>?_,fun x hx=>?_,Nat.le_trans h.size g3.1,hed,h.tok⟩
 ·rcases hb with hb | hb
  ·rw [hold b (h.sim.lt b hb)];exact .inl (h.hown b hb hz)
  ·rw [hnew b hb.1];exact .inr ⟨by omega,by omega⟩
 ·rcases hb with hb | hb
  ·rw [hold b (h.sim.lt b hb)];exact .inl (h.hA b hb)
  ·rw [hnew b hb.1];exact .inr ⟨by omega,by omega⟩
 ·rcases hx with hx | hx
  ·exact h.low x hx
  ·exact Nat.le_trans h.size hx.1
theorem GoW.step (hsr:SRH P maps fr []) (hh:zgh P maps fr) (hm:fr.mode=.run) (hro:fr.roundOf=none) (hne:fr.todo≠[])
  (hrun:∀ τ:Tape,Agree W.drawn τ W.tape→∃ fr' W1,(zan P fr []).run P { W with tape:=τ }=.ok (fr',[]) W1∧(EmptyDef W→EmptyDef W1)∧GoW P maps E Fz B c Post fr' W1) :
  GoW P maps E Fz B c Post fr W:=by
 intro ρ D own A W' h
 have key:∀ W'',Env A W' W''→∃ fr' Wf W1 es,stepG P false (wgor P ρ fr) W''=.go (wgor P (ext ρ W.heap.size W''.heap.size) fr') W1 es∧Does own A W'' W1 es∧GoW P maps E Fz B c Post fr' Wf ∧
   HereW P maps E Fz B (ext ρ W.heap.size W''.heap.size) (fun b=>D b∨(W.heap.size≤b∧b<Wf.heap.size)) (grow own W'' W1) (grow A W'' W1) fr' Wf W1:=by
  intro W'' he
  have h':=h.env he
  obtain⟨τ,hτ,hst⟩:=h'.step hsr hh hm hro hne
  obtain⟨fr',Wf,hr,hed,hg⟩:=hrun τ hτ
  obtain⟨W1,es,a,b,c⟩:=hst hr (hed h.ed)
  exact⟨fr',Wf,W1,es,a,b,hg,c⟩
 refine .step rfl (fun W'' he=>?_) fun W'' g' W1 es he hs=>?_
 ·obtain⟨fr',Wf,W1,es,a,b,_⟩:=key W'' he
  exact⟨_,W1,es,a,b,rfl⟩
 ·obtain⟨fr',Wf,W1',es',a,b,c,d⟩:=key W'' he
  rw [a] at hs
  cases hs
  exact c _ _ _ _ _ d
theorem GoW.op {ops:Array Oper} {i:Nat} {rest:List Nat} {k:List Item} {o:Oper} (hm:fr.mode=.run) (hro:fr.roundOf=none) (hk:fr.kind=.normal) (hd:fr.defers=[]) (ht:fr.todo=.inRegion ops (i :: rest) :: k) (ho:ops[i]?=some o)
  (hw:Region.wanted o (yielded ops fr.tmps)=true) (hop:okOp P maps o.op=true) (hv:zhp P fr.eval o.op=true)
  (hrun:∀ τ:Tape,Agree W.drawn τ W.tape→∃ v W1,(execOp fr.eval o).run P { W with tape:=τ }=.ok (.value v) W1∧(EmptyDef W→EmptyDef W1)∧GoW P maps E Fz B c Post (fr.finish v) W1) :
  GoW P maps E Fz B c Post fr W:=by
 refine .step (zn5 hm ht ho hop hv) ⟨fun it t e=>?_,.inl hm,fun d hdm=>?_,.inl hk⟩ hm hro (by rw [ht];simp) fun τ hτ=>?_
 ·rw [ht] at e
  cases e
  simp only [zeq,ho,Option.all_some]
  exact hop
 ·rw [hd] at hdm;cases hdm
 ·obtain⟨v,W1,h1,h2,h3⟩:=hrun τ hτ
  refine⟨fr.finish v,W1,?_,h2,h3⟩
  unfold zan
  rw [hm]
  dsimp only
  unfold zb3
  rw [ht]
  dsimp only
  rw [ho]
  simp only [Option.map_some,Option.getD_some,hw,if_true]
  rw [Sem.run_bind,h1]
  rfl
end
end Go.Con
namespace Go.Con
open Go Go.Conc
variable [Lone]
section
variable {P:Program} {maps:Bool} {E Fz:Nat→Prop} {B:Nat} {ρ:Rn} {D own A:Nat→Prop} {fr fr' : Frame} {W W' W'' : World} {c:Nat} {Post:Hand}
theorem HereW.inv (h:HereW P maps E Fz B ρ D own A fr W W') {fr0:Frame} (hok:OkFrame P maps fr0) (hs:supF P D E fr0) (hb:fr0.roundOf=none∧P.inits.idxOf? fr0.fn=none):Inv P maps (fun b=>D b∨W.heap.size≤b) E fr0 [] W:=by
 refine⟨hok,fun c hc=>(List.not_mem_nil hc).elim,zbB (fun b hb=>.inl hb) hs,fun c hc=>(List.not_mem_nil hc).elim,fun b o hb ho=>?_,h.ed,fun b hb=>.inr hb,hb,fun c hc=>(List.not_mem_nil hc).elim⟩
 have hlt:b<W.heap.size:=by
  rcases Nat.lt_or_ge b W.heap.size with h | h
  ·exact h
  ·rw [Array.getElem?_eq_none h] at ho;cases ho
 obtain⟨h1,h2⟩:=h.sim.supo b o (hb.resolve_right (Nat.not_le.2 hlt)) ho
 exact⟨zcc (fun b hb=>.inl hb) h1,h2⟩
theorem GoW.seg {F:Fence} (hF:∀ f,F.fn f→zaR P (.func f)=true→okFn P maps f) {t0 k:List Item} (ht:fr.todo=t0++k) (hok:OkFrame P maps { fr with todo:=t0 })
  (hb:fr.roundOf=none∧P.inits.idxOf? fr.fn=none) {R:Frame→World→Prop} (hR:∀ fr W,R fr W→fr.mode=.run)
  (hp:∀ τ:Tape,Agree W.drawn τ W.tape→Ends P F zcS R { fr with todo:=t0 } [] { W with tape:=τ })
  (hq:∀ fr1 W1,R fr1 W1→zcS fr1 []→fr1.kind=.normal→GoW P maps E Fz B c Post { fr1 with todo:=fr1.todo++k } W1):GoW P maps E Fz B c Post fr W:=by
 intro ρ D own A W' h
 obtain⟨hs0,hk0⟩:=zhe h.sim.sup ht
 have hinv:=h.inv hok hs0 hb
 have hGl:∀ b,b<P.globals.size→D b∨W.heap.size≤b:=fun b hb=>.inl (h.sim.hG b hb)
 have hfut:=zne hF hGl zfO (ze3 hR) hinv hp
 have hact:=zmN hGl (zlG (κ:=.deferred) (fun b=>D b∨W.heap.size≤b) E (.inr rfl) (k.map (zal ρ)) [root P]) hfut W.heap.size ρ D Fz (h.frame hs0).sim (own:=fun x=>∃ b,D b∧¬ Fz b∧ρ.p b=x) (A:=fun x=>∃ b,D b∧ρ.p b=x)
  (fun _=>Iff.rfl) (fun _=>Iff.rfl) (fun b hb=>⟨hb,rfl⟩) rfl (Nat.le_refl _) (fun _ _=>⟨rfl,id⟩) (fun b h1 h2=>absurd h1 (Nat.not_le.2 h2))
 have hfrm:=hact.frame (own':=own) (A':=A) (fun x ⟨b,h1,h2,h3⟩=>h3 ▸ h.hown b h1 h2) (fun x ⟨b,h1,h3⟩=>h3 ▸ h.hA b h1)
 have e1:up .deferred (k.map (zal ρ)) [root P] (zab ρ { fr with todo:=t0 }) (([]:List Frame).map (zab ρ))=({ zab ρ fr with kind:=.deferred },[root P]):=by
  simp only [up,List.map_nil,Prod.mk.injEq,and_true]
  obtain⟨fn,tmps,todo,defers,mode,kind,roundOf⟩:=fr
  dsimp only at ht
  subst ht
  simp [zab]
 rw [e1] at hfrm
 refine Wk.of_act hfrm fun o' a' fr' cs' W2 hc=>?_
 obtain⟨o,a,⟨ρ1,D1,fr1,W1,hsim,hst,hR1,heq,ho1,hA1,h01,hed1,hcc,hkd1,hn1,hn2⟩,hf⟩:=hc
 have same:∀ b,b<(gd P).n∨D b→ρ.p b=ρ1.p b:=fun b hb=>((h01 b (hb.elim (h.sim.hG b) id)).2).symm
 have hD:∀ b,D b→D1 b:=fun b hb=>(h01 b hb).1
 have hks:k.map (zal ρ)=k.map (zal ρ1):=zcQ (fun it hi=>zcJ same (fun b=>by rw [hcc]) (fun f hf=>by rw [h.sim.rok.fixo f hf,hsim.rok.fixo f hf]) hi) hk0
 have hk1:k.map (zal (RA (gd P)))=k.map (zal (RB (gd P) D1 E)) :=
  let ⟨a,b,c⟩:=rarb (P:=P) (E:=E) hD
  zcQ (fun it hi=>zcJ a b c hi) hk0
 have e2:({ frame:=fr',callers:=cs',status:=.running,dying:=none }:Goroutine)=wgor P ρ1 { fr1 with todo:=fr1.todo++k }:=by
  simp only [up,Prod.mk.injEq] at heq
  obtain⟨rfl,rfl⟩:=heq
  unfold wgor
  rw [hks]
  simp [zab]
 rw [e2]
 refine hq fr1 W1 hR1 hst hkd1 ρ1 D1 o' a' W2 ⟨⟨hsim.rok,hsim.hG,hsim.lt,hsim.bd,hsim.fz,zjY hsim.sup hk1,fun c hc=>(List.not_mem_nil hc).elim,hsim.os,hsim.output,hsim.obj,hsim.supo⟩,fun b hb hz=>hf.oo _ ((ho1 _).2 ⟨b,hb,hz,rfl⟩),fun b hb=>hf.aa _ ((hA1 _).2 ⟨b,hb,rfl⟩),fun x hx=>?_,Nat.le_trans h.size hf.size,hed1,fun x=>by rw [hcc];exact h.tok x⟩
 exact (hf.ob' x hx).elim (h.low x) fun hx=>Nat.le_trans h.size hx
section
variable {k:List Item} (hm:fr.mode=.run) (hr:fr.roundOf=none)
include hm hr
theorem zhh {todo:List Item} (ht:fr.todo=todo) (σ:Rn):wgor P σ fr=G (({ zab σ fr with kind:=.deferred }:Frame).at ⟨fr.tmps.map (ren σ),fr.defers.map (zaE σ)⟩ (todo.map (zal σ))) [root P]:=by
 obtain⟨fn,tmps,todo,defers,mode,kind,roundOf⟩:=fr
 dsimp only at hm hr ht
 subst hm hr ht
 rfl
theorem GoW.seq {x y:Code} (ht:fr.todo=.code (.seq x y) :: k) (hg:GoW P maps E Fz B c Post { fr with todo:=.code x :: .code y :: k } W):GoW P maps E Fz B c Post fr W:=by
 refine .ctl (fr':={ fr with todo:=.code x :: .code y :: k }) (fun D h=>zbN h (t0:=[.code (.seq x y)]) (t1:=[.code x,.code y]) ht rfl) (fun σ W'=>?_) hg
 rw [zhh hm hr ht,zhh (fr:={ fr with todo:=.code x :: .code y :: k }) hm hr rfl]
 exact stepG_seq
theorem GoW.region {id:Nat} {ops:Array Oper} (ht:fr.todo=.code (.region id ops false) :: k) (hg:GoW P maps E Fz B c Post { fr with todo:=.inRegion ops (List.range ops.size) :: k } W):GoW P maps E Fz B c Post fr W:=by
 refine .ctl (fr':={ fr with todo:=.inRegion ops (List.range ops.size) :: k }) (fun D h=>zbN h (t0:=[.code (.region id ops false)]) (t1:=[.inRegion ops (List.range ops.size)]) ht rfl) (fun σ W'=>?_) hg
 rw [zhh hm hr ht,zhh (fr:={ fr with todo:=.inRegion ops (List.range ops.size) :: k }) hm hr rfl]
 exact stepG_region
theorem GoW.send {ops:Array Oper} {i:Nat} {o:Oper} {x y:Operand} {v z:Value} {fn:Func} (ht:fr.todo=[.inRegion ops [i]]) (ho:ops[i]?=some o) (hw:Region.wanted o (yielded ops fr.tmps)=true) (hd:fr.defers=[]) (hx:zaS P x=true) (hy:zaS P y=true)
  (hev:fr.eval x=.chan (some (2 * c))) (hvy:fr.eval y=v)
  (hrun:∀ (e:Operand→Value) (w:World),e x=.chan (some c)→(execOp e o).run P w=.ok (.comm #[scase c (e y) z] true .send) w∧(execOp e o).events P w #[]=#[])
  (hf:P.funcs[fr.fn]?=some fn) (hres:fn.results=#[])
  (hp:∀ ρ D own A W',HereW P maps E Fz B ρ D own A fr W W'→Post own A (ren ρ v) W'):GoW P maps E Fz B c Post fr W:=by
 intro ρ D own A W' hh
 have hcv:∀ (u:Operand),zaS P u=true→(⟨fr.tmps.map (ren ρ),fr.defers.map (zaE ρ)⟩:Go.Act).eval u=ren ρ (fr.eval u):=by
  intro u hu
  have h1:=zcf hh.sim.rok (fr:=fr) u hu
  rw [← h1]
  cases u<;>rfl
 have hchan:(⟨fr.tmps.map (ren ρ),fr.defers.map (zaE ρ)⟩:Go.Act).eval x=.chan (some c):=by
  rw [hcv x hx,hev]
  simp only [ren,hh.tok];rfl
 have hval:(⟨fr.tmps.map (ren ρ),fr.defers.map (zaE ρ)⟩:Go.Act).eval y=ren ρ v:=by rw [hcv y hy,hvy]
 have hwt:Region.wanted o (yielded ops (⟨fr.tmps.map (ren ρ),fr.defers.map (zaE ρ)⟩:Go.Act).tmps)=true:=by
  show Region.wanted o (yielded ops (fr.tmps.map (ren ρ)))=true
  rw [show yielded ops (fr.tmps.map (ren ρ))=yielded ops fr.tmps from funext fun j=>zce j];exact hw
 have hat:wgor P ρ fr=G (({ zab ρ fr with kind:=.deferred }:Frame).at ⟨fr.tmps.map (ren ρ),fr.defers.map (zaE ρ)⟩ [.inRegion ops [i]]) [root P]:=zhh hm hr ht ρ
 have key:∀ W2:World,stepG P false (wgor P ρ fr) W2=.comm (wgor P ρ fr) #[scase c (ren ρ v) z] true .send W2 #[]:=by
  intro W2
  obtain⟨r1,r2⟩:=hrun _ W2 hchan
  rw [hval] at r1
  have hst:=stepG_comm (P:=P) (main:=false) (b:={ zab ρ fr with kind:=.deferred }) (a:=⟨fr.tmps.map (ren ρ),fr.defers.map (zaE ρ)⟩) (k:=[]) (cs:=[root P]) (w:=W2) (rest:=[]) ho hwt (by simp) r1
  rw [hat]
  refine hst.trans ?_
  have hl:listed P ({ zab ρ fr with kind:=.deferred }:Frame).fn ⟨fr.tmps.map (ren ρ),fr.defers.map (zaE ρ)⟩ o W2=#[]:=by
   unfold listed
   rw [r2];rfl
  rw [hl]
 refine .send rfl (ren ρ v) z fun W2 he=>⟨hp _ _ _ _ _ (hh.env he),_,4,key W2,?_⟩
 have hfin:∀ u:Value,({ wgor P ρ fr with frame:=(wgor P ρ fr).frame.finish u,status:=.running,offers:=none }:Goroutine)=G (({ zab ρ fr with kind:=.deferred }:Frame).at ((⟨fr.tmps.map (ren ρ),fr.defers.map (zaE ρ)⟩:Go.Act).put o.dst u) [.inRegion ops []]) [root P]:=by
  intro u
  rw [hat]
  show ({ frame:=Frame.finish _ u,callers:=[root P],status:=.running,dying:=none }:Goroutine)=_
  have:=Frame.finish_at ({ zab ρ fr with kind:=.deferred }:Frame) ⟨fr.tmps.map (ren ρ),fr.defers.map (zaE ρ)⟩ ops i [] [] u
  rw [ho] at this
  exact congrArg (fun f=>({ frame:=f,callers:=[root P],status:=.running,dying:=none }:Goroutine)) this
 show QuitsIn P 4 ({ wgor P ρ fr with frame:=(wgor P ρ fr).frame.finish _,status:=.running,offers:=none }:Goroutine)
 rw [hfin]
 exact znK (by show fr.mode=.run;exact hm) (by simp [zab,hr]) rfl (by cases o.dst<;>simp [Go.Act.put,hd]) (by show P.funcs[fr.fn]?=some fn;exact hf) hres
end
theorem GoW.born {g:FuncId} {fn:Func} {cap:Array Value} (hf:P.funcs[g]?=some fn) (hb:fn.body.isNone=false) (hn:(fn.name == "runtime.NumGoroutine")=false)
  {ρ:Rn} {own A:Nat→Prop} {W' : World} (h:HereW P maps E Fz B ρ D own A (Frame.enter P g cap .normal) W W') (hg:GoW P maps E Fz B c Post (Frame.enter P g cap .normal) W) :
  Wk P c Post own A (born P { target:=.fn (.func g) (cap.map (ren ρ)),args:=#[] }) W':=by
 refine Wk.ctl rfl rfl (fun W2=>zmF hf hb hn) ?_
 have e:({ frame:=Frame.enter P g (cap.map (ren ρ)) .deferred,callers:=[root P],status:=.running,dying:=none }:Goroutine)=wgor P ρ (Frame.enter P g cap .normal):=by
  unfold wgor Frame.enter zab
  simp only [Array.map_append,Array.size_map,List.map_cons,List.map_nil,zal,Option.map_none]
  simp [hf,ren_undef]
 rw [e]
 exact hg ρ D own A W' h
end
end Go.Con
namespace Go.Con
open Go Go.Conc
section
variable {P:Program} {maps:Bool}
theorem zmH [Lone] {D E:Nat→Prop} {g:FuncId} {cap:Array Value} (h:∀ v∈cap,supV (gd P) D E v):supF P D E (Frame.enter P g cap .normal):=by
 have e:∀ σ:Rn,zab σ (Frame.enter P g cap .normal)=Frame.enter P g (cap.map (ren σ)) .normal:=by
  intro σ
  unfold Frame.enter zab
  simp only [Array.map_append,Array.size_map,List.map_cons,List.map_nil,zal,Option.map_none,Frame.mk.injEq,and_true,true_and]
  simp [ren_undef]
 show zab _ _=zab _ _
 rw [e,e]
 congr 1
 exact Array.map_congr_left h
structure Two where
 main:Lone
 work:Lone
theorem zo4 (T:Two) (hv:∀ f,T.work.v f=true→T.main.v f=true) {ρ:Rn} (R:@RenOk T.main P ρ):@RenOk T.work P ρ:=by
 have hg:∀ f,@zaR T.work P f=true→@zaR T.main P f=true:=by
  intro f h
  unfold zaR at h ⊢
  cases f with
  | func f =>
   dsimp only at h ⊢
   cases hf:P.funcs[f]? with
   | none=>rw [hf] at h;cases h
   | some fn =>
    rw [hf] at h
    simp only [Bool.and_eq_true] at h ⊢
    exact⟨h.1,hv f h.2⟩
  | _=>cases h
 have key:∀ (inj:∀ x y,ρ.p x=ρ.p y→x=y) (fix:∀ b,b<P.globals.size→ρ.p b=b) (fixo:∀ f,@zaR T.main P f=true→ρ.o f=f),@RenOk T.work P ρ :=
  fun b c d=>@RenOk.mk T.work P ρ b c fun f hf=>d f (hg f hf)
 letI:=T.main
 exact key R.inj R.fix R.fixo
end
end Go.Con
namespace Go.Con
open Go Go.Conc
abbrev Fr (f:FuncId) (t:Array Value) (k:List Item):Frame:={ fn:=f,tmps:=t,todo:=k,defers:=[],mode:=.run,kind:=.normal,roundOf:=none }
theorem zez {P:Program} {f:FuncId} {args:Array Value} {fn:Func} {body:Code} (hf:P.funcs[f]?=some fn) (hb:fn.body=some body):Frame.enter P f args .normal=Fr f (args++Array.replicate (fn.ntmps-args.size) undef) [.code body]:=by
 simp [Frame.enter,hf,hb]
def putD (t:Array Value) (d:Option Tmp) (v:Value):Array Value:=match d with | some d=>t.setIfInBounds d v | none=>t
theorem zbg {f:FuncId} {t:Array Value} {ops:Array Oper} {i:Nat} {rest:List Nat} {k:List Item} {o:Oper} {v:Value} (ho:ops[i]?=some o):(Fr f t (.inRegion ops (i :: rest) :: k)).finish v=Fr f (putD t o.dst v) (.inRegion ops rest :: k):=by
 simp only [Frame.finish,ho,Option.bind_some,putD]
 cases o.dst<;>rfl
variable [Lone]
section
variable {P:Program} {maps:Bool} {E Fz Arg:Nat→Prop} {W0:World} {f:FuncId} {t:Array Value} {k:List Item} {cs:List Frame} {W:World}
variable {Q:(Nat→Prop)→(Nat→Prop)→Goroutine→World→Prop} {φ:Ph} {pend:List Nat}
theorem Gm.tape {fr:Frame} {τ:Tape} (h:GoM P maps E Fz Arg W0 Q φ pend fr cs W):GoM P maps E Fz Arg W0 Q φ pend fr cs { W with tape:=τ } :=
 fun ρ D own A W' hh=>h ρ D own A W' (by have:=hh.tape W.tape;exact this)
theorem Gm.seq {x y:Code} (hg:GoM P maps E Fz Arg W0 Q φ pend (Fr f t (.code x :: .code y :: k)) cs W):GoM P maps E Fz Arg W0 Q φ pend (Fr f t (.code (.seq x y) :: k)) cs W:=GoM.seq rfl rfl rfl hg
theorem Gm.cond {c:Operand} {x y:Code} {b:Bool} (he:(Fr f t []).eval c=.bool b) (hc:zaS P c=true) (hg:GoM P maps E Fz Arg W0 Q φ pend (Fr f t (.code (if b then x else y) :: k)) cs W):GoM P maps E Fz Arg W0 Q φ pend (Fr f t (.code (.cond c x y) :: k)) cs W :=
 GoM.cond rfl rfl rfl hc (by cases c<;>exact he) hg
theorem Gm.block {id:Nat} {x:Code} (hg:GoM P maps E Fz Arg W0 Q φ pend (Fr f t (.code x :: .inBlock id :: k)) cs W):GoM P maps E Fz Arg W0 Q φ pend (Fr f t (.code (.block id x) :: k)) cs W:=GoM.block rfl rfl rfl hg
theorem Gm.loop {x:Code} (hg:GoM P maps E Fz Arg W0 Q φ pend (Fr f t (.code x :: .inLoop x :: k)) cs W):GoM P maps E Fz Arg W0 Q φ pend (Fr f t (.code (.loop x) :: k)) cs W:=GoM.loop rfl rfl rfl hg
theorem Gm.inLoop {x:Code} (hg:GoM P maps E Fz Arg W0 Q φ pend (Fr f t (.code x :: .inLoop x :: k)) cs W):GoM P maps E Fz Arg W0 Q φ pend (Fr f t (.inLoop x :: k)) cs W:=GoM.inLoop rfl rfl rfl hg
theorem Gm.inBlock {id:Nat} (hg:GoM P maps E Fz Arg W0 Q φ pend (Fr f t k) cs W):GoM P maps E Fz Arg W0 Q φ pend (Fr f t (.inBlock id :: k)) cs W:=GoM.inBlock rfl rfl rfl hg
theorem Gm.skip (hg:GoM P maps E Fz Arg W0 Q φ pend (Fr f t k) cs W):GoM P maps E Fz Arg W0 Q φ pend (Fr f t (.code .skip :: k)) cs W:=GoM.skip rfl rfl rfl hg
theorem Gm.region {id:Nat} {ops:Array Oper} (hg:GoM P maps E Fz Arg W0 Q φ pend (Fr f t (.inRegion ops (List.range ops.size) :: k)) cs W):GoM P maps E Fz Arg W0 Q φ pend (Fr f t (.code (.region id ops false) :: k)) cs W:=GoM.region rfl rfl rfl hg
theorem Gm.regionEnd {ops:Array Oper} (hg:GoM P maps E Fz Arg W0 Q φ pend (Fr f t k) cs W):GoM P maps E Fz Arg W0 Q φ pend (Fr f t (.inRegion ops [] :: k)) cs W:=GoM.regionEnd rfl rfl rfl hg
theorem Gm.exit {id:Nat} (k0:List Item) {k' : List Item} (hx:exitTo id (k0++k')=some k') (hg:GoM P maps E Fz Arg W0 Q φ pend (Fr f t k') cs W):GoM P maps E Fz Arg W0 Q φ pend (Fr f t (.code (.exit id) :: (k0++k'))) cs W:=GoM.exit (k0:=k0) rfl rfl rfl hx hg
theorem Gm.lone {F:Fence} {x:Code} (R:Array Value→World→Prop) (hdep:F.depth=none) (hro:F.round=none) (hfn:F.fn f) (hF:∀ f,F.fn f→zaR P (.func f)=true→okFn P maps f) (hin:P.inits.idxOf? f=none) (hok:za6 P maps x=true)
  (hp:∀ τ:Tape,x.wpIn F 0 P (fun e a w'=>e=.normal∧a.defers=[]∧R a.tmps w') ⟨t,[]⟩ { W with tape:=τ })
  (hq:∀ t1 W1,R t1 W1→GoM P maps E Fz Arg W0 Q φ pend (Fr f t1 k) cs W1):GoM P maps E Fz Arg W0 Q φ pend (Fr f t (.code x :: k)) cs W:=by
 refine GoM.seg (F:=F) hF (t0:=[.code x]) (k:=k) rfl ⟨?_,.inl rfl,fun d hd=>(List.not_mem_nil hd).elim,rfl⟩ ⟨rfl,hin⟩ (R:=fun fr W=>∃ a,fr=(Fr f t []).atR a []∧(a.defers=[]∧R a.tmps W)) ?_ (fun τ _=>?_) ?_
 ·simp [za3,hok]
 ·rintro fr W ⟨a,rfl,_⟩;rfl
 ·obtain⟨e,a,w',⟨rfl,h1,h2⟩,h3⟩:=hp τ (Fr f t []) [] [bot P] (by rw [hro]) hfn (fun d hd=>by rw [hdep] at hd;cases hd)
  exact zdy (Q:=fun a w'=>a.defers=[]∧R a.tmps w') h3 ⟨h1,h2⟩
 ·rintro fr1 W1 ⟨a,rfl,h1,h2⟩ _
  have:=hq _ _ h2
  simp only [Frame.atR,List.nil_append,h1]
  exact this
theorem Gm.op {ops:Array Oper} {i:Nat} {rest:List Nat} {o:Oper} (v:Value) (W1:World) (ho:ops[i]?=some o) (hw:Region.wanted o (yielded ops t)=true) (hop:okOp P maps o.op=true) (hv:zhp P (Fr f t []).eval o.op=true)
  (hrun:∀ τ:Tape,(execOp (Fr f t []).eval o).run P { W with tape:=τ }=.ok (.value v) { W1 with tape:=τ }) (hed:EmptyDef W→EmptyDef W1)
  (hg:GoM P maps E Fz Arg W0 Q φ pend (Fr f (putD t o.dst v) (.inRegion ops rest :: k)) cs W1):GoM P maps E Fz Arg W0 Q φ pend (Fr f t (.inRegion ops (i :: rest) :: k)) cs W:=by
 have he:(Fr f t (.inRegion ops (i :: rest) :: k)).eval=(Fr f t []).eval:=funext fun x=>by cases x<;>rfl
 refine GoM.op rfl rfl rfl rfl ho hw hop (by rw [he];exact hv) fun τ _=>⟨v,{ W1 with tape:=τ },by rw [he];exact hrun τ,fun h=>(hed h),?_⟩
 rw [zbg ho]
 exact Gm.tape hg
theorem Gm.enter {ops:Array Oper} {i:Nat} {rest:List Nat} {o:Oper} {c:Call} {g:FuncId} {fn:Func} {body:Code} (ho:ops[i]?=some o) (hw:Region.wanted o (yielded ops t)=true) (hop:o.op=.call c) (hc:c.callee=.value (.func g)) (has:c.args.all (zaS P)=true) (hf:P.funcs[g]?=some fn) (hb:fn.body=some body) (hn:(fn.name == "runtime.NumGoroutine")=false)
  (hg:GoM P maps E Fz Arg W0 Q φ pend (Fr g (c.args.map (Fr f t []).eval++Array.replicate (fn.ntmps-(c.args.map (Fr f t []).eval).size) undef) [.code body]) (Fr f t (.inRegion ops (i :: rest) :: k) :: cs) W):GoM P maps E Fz Arg W0 Q φ pend (Fr f t (.inRegion ops (i :: rest) :: k)) cs W:=by
 have he:(Fr f t (.inRegion ops (i :: rest) :: k)).eval=(Fr f t []).eval:=funext fun x=>by cases x<;>rfl
 refine GoM.enter rfl rfl (by simp) rfl ho hw hop hc has hf (by simp [hb]) hn ?_
 rw [zez hf hb,he]
 exact hg
theorem Gm.ret {c:Frame} {fn:Func} {v:Value} (hf:P.funcs[f]?=some fn) (hv:∀ σ:Rn,ResultsC P fn (t.map (ren σ)) (ren σ v)) (hg:GoM P maps E Fz Arg W0 Q φ pend (c.finish v) cs W):GoM P maps E Fz Arg W0 Q φ pend (Fr f t (.code .ret :: k)) (c :: cs) W:=by
 refine GoM.ctl (fr':={ fn:=f,tmps:=t,todo:=.code .ret :: k,defers:=[],mode:=.returning,kind:=.normal,roundOf:=none }) (fun D h=>?_) (fun ρ W'=>?_) (GoM.leave rfl rfl rfl rfl hf hv hg)
 ·simp only [supF,zab,Frame.mk.injEq] at h ⊢
  exact h
 ·have:=stepG_ret' (P:=P) (main:=true) (b:=zab ρ (Fr f t [])) (a:=⟨t.map (ren ρ),[]⟩) (k:=k.map (zal ρ)) (cs:=(c :: cs).map (zab ρ)) (w:=W')
  exact this
end
end Go.Con
