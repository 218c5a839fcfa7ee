import Derived.Test.YtbbanmifdbeneaaDoorF23
import Derived.Conc.Quits
set_option linter.all false
open Go.Frame renaming enter → jqa
open List renaming not_mem_nil → jqb
open Go.Region renaming wanted → jqc
open Nat renaming le_trans → jqd
namespace Go.Con
open Go Go.Conc
variable [Lone]
section
variable {P:Program} {maps:Bool} {E Fz Arg:Nat→Prop} {W0:World} {ρ:Rn} {D own A:Nat→Prop} {fr fr' : Frame} {cs:List Frame} {W W' W'' : World}
variable {Q:(Nat→Prop)→(Nat→Prop)→Goroutine→World→Prop} {φ:Ph} {pend:List Nat}
theorem znw (hlm:Lone.lm=false) (m m' : Bool):(mdOf P m).okc=(mdOf P m').okc:=by simp [mdOf,hlm]
theorem zg8 (hlm:Lone.lm=false) (m m' : Bool) (o:Obj):zaK (mdOf P m) o=zaK (mdOf P m') o:=by
 cases o<;>first
  | rfl
  | (simp only [zaK,Md.okl,znw hlm m m'];done)
  | (simp only [zaK,mdOf,hlm,Bool.and_false,Md.okl];done)
theorem zmQ {o:Obj} (h:zcA (mdOf P true) o=false) (m:Bool):zcA (mdOf P m) o=false:=by
 cases m with
 | true=>exact h
 | false=>cases o<;>first | rfl | exact h | cases h
theorem GoM.noMaps (hlm:Lone.lm=false) (hg:GoM P false E Fz Arg W0 Q φ pend fr cs W):GoM P true E Fz Arg W0 Q φ pend fr cs W:=by
 intro ρ D own A W' h;refine hg ρ D own A W' ⟨⟨h.sim.rok,h.sim.hG,h.sim.lt,h.sim.bd,h.sim.fz,h.sim.sup,h.sim.sups,h.sim.os,h.sim.output,fun b o hb ho=>?_,fun b o hb ho=>?_⟩,h.hown,h.hA,h.keep,h.ed,h.tok,h.junk,h.far⟩
 ·obtain⟨o',h1,h2⟩:=h.sim.obj b o hb ho
  refine⟨o',h1,?_⟩
  cases h2 with
  | frozen hf c e fz=>exact .frozen hf c e fz
  | still hf h3 h4=>exact .still hf h3 (zmQ h4 _)
  | own hf=>exact .own hf
 ·obtain⟨h1,h2,h3⟩:=h.sim.supo b o hb ho
  exact⟨h1,by rw [zg8 hlm false true];exact h2,h3⟩
def cellsIn (W:World) (b:Nat):Prop:=∃ c e fz,W.heap[b]?=some (.cells c e fz)
theorem GoM.reclaim (hlm:Lone.lm=false) (hArg:∀ x,Arg x↔x<W0.heap.size) (hg:GoM P true E (fun b=>Fz b∧cellsIn W b) Arg W0 Q φ [] fr cs W):GoM P false E Fz Arg W0 Q φ [] fr cs W:=by
 intro ρ D own A W' h;refine .reclaim rfl (fun x=>A x∧W0.heap.size≤x) (fun b hb=>hb.1) (hg ρ D _ A W' ⟨⟨h.sim.rok,h.sim.hG,h.sim.lt,h.sim.bd,fun b hb=>h.sim.fz b hb.1,h.sim.sup,h.sim.sups,h.sim.os,h.sim.output,fun b o hb ho=>?_,fun b o hb ho=>?_⟩,fun b hb hz=>⟨h.hA b hb,?_⟩,h.hA,fun x hx=>?_,h.ed,h.tok,h.junk,h.far⟩)
 ·obtain⟨o',h1,h2⟩:=h.sim.obj b o hb ho
  refine⟨o',h1,?_⟩
  cases h2 with
  | frozen hf c e fz=>exact .frozen ⟨hf,_,_,_,ho⟩ c e fz
  | still hf h3 h4 =>
   refine .own fun hx=>?_;obtain⟨_,c,e,fz,hc⟩:=hx;rw [ho] at hc;cases hc
   cases h3
  | own hf=>exact .own fun hx=>hf hx.1
 ·obtain⟨h1,h2,h3⟩:=h.sim.supo b o hb ho
  exact⟨h1,by rw [zg8 hlm true false];exact h2,h3⟩
 ·rcases h.far.2 b hb with ⟨c,e,fz,hc⟩ | hx
  ·obtain⟨o,ho⟩:=zjB (h.sim.lt b hb)
   have hlt:ρ.p b<W0.heap.size:=(Array.getElem?_eq_some_iff.1 hc).1;obtain⟨k1,k2,k3,k4⟩:=h.keep (ρ.p b) ((hArg _).2 hlt);by_cases hf:Fz b
   ·obtain⟨o',h1,h2⟩:=h.sim.obj b o hb ho
    have hi:isCells o'=isCells o:=by
     cases h2 with
     | frozen hf c e fz=>rfl
     | own hf=>cases o<;>rfl
     | still hf h3 h4=>cases o<;>rfl
    rw [h1,hc] at k4;have ho':=Option.some.inj k4;exfalso
    refine hz ⟨hf,?_⟩;rw [ho'] at hi
    cases o with
    | cells c e fz=>exact⟨c,e,fz,ho⟩
    | _=>cases hi
   ·exact (k2 (h.hown b hb hf)).elim
  ·exact hx
 ·obtain⟨k1,k2,k3,k4⟩:=h.keep x hx
  exact⟨k1,fun ho=>absurd ((hArg x).1 hx) (Nat.not_lt.2 ho.2),k3,k4⟩
theorem GoM.done {fn:Func} {v:Value} {Post:Value→World→Prop} (hm:fr.mode=.returning) (hd:fr.defers=[]) (hk:fr.kind=.normal) (hro:fr.roundOf=none) (hin:P.inits.idxOf? fr.fn=none) (hf:P.funcs[fr.fn]?=some fn) (hv:∀ σ:Rn,ResultsC P fn (fr.tmps.map (ren σ)) (ren σ v))
  (hp:∀ ρ D own A W',Here P maps E Fz Arg W0 ρ D own A fr [] W W'→Post (ren ρ v) W'):GoM P maps E Fz Arg W0 (AtEnd P Post) φ [] fr [] W:=by
 intro ρ D own A W' hh;refine .done rfl fun W2 he=>?_;refine⟨ren ρ v,#[],?_,fun e he=>(Array.not_mem_empty e he).elim,hp _ _ _ _ _ (hh.env he)⟩;have hr:=hv ρ W2;obtain⟨fn',tmps,todo,defers,mode,kind,roundOf⟩:=fr;dsimp only at hm hd hk hro hin hf hr;subst hm hd hk hro;simp [gor,zaa,stepG,unwind,doReturn,hin,hf,hr.1,hr.2,seen,GStep.after]
theorem GoM.start {D:Nat→Prop} {c:Nat→Value} {Post:Value→World→Prop} {fr:Frame} {W:World} (hk:∀ t,zbM P t=true) (hG:∀ b,b<P.globals.size→D b) (hD:∀ b,D b→∃ cs e fz,W.heap[b]?=some (.cells cs e fz))
  (hc:∀ v∈zdh W,∃ x,c x=v) (htok:∀ x,c (2 * x)=.chan (some x)) (hs:supF P D E fr) (hfr:zaa (zcI c) fr=fr) (hed:EmptyDef (zci P c D W))
  (hg:GoM P true E D (fun x=>x<W.heap.size) W (AtEnd P Post) ⟨false,0,0,fun _ _ _ _ _=>False⟩ [] fr [] (zci P c D W)):Fin P Post (solo (G fr []) W) #[]:=by
 have hsim:=zi3 (maps:=true) (E:=E) hk hG hD hc hs;have hm:=hg (zcI c) D (fun _=>False) (fun x=>x<W.heap.size) W ⟨hsim,fun b hb hz=>(hz hb).elim,fun b hb=>?_,fun x hx=>⟨hx,id,hx,rfl⟩,hed,htok,fun x hx=>?_,Nat.le_refl _,fun b hb=>?_⟩
 ·have e:gor (zcI c) fr []=G fr []:=by unfold gor;rw [hfr];rfl
  rw [e] at hm;exact zgE hm (fun _ h=>h.elim) fun b hb=>hb
 ·have:=hsim.bd b (hsim.lt b hb)
  exact this
 ·exact .inr (by rw [zcL] at hx;exact hx)
 ·obtain⟨cs,e,fz,h⟩:=hD b hb
  exact .inl ⟨cs,e,fz,h⟩
end
end Go.Con
namespace Go.Con
open Go Go.Conc
variable [Lone]
section
variable {P:Program} {main:Bool}
def root (P:Program):Frame:={ (default:Frame) with fn:=P.funcs.size,defers:=[],mode:=.panicking [goexitEntry] }
theorem zlq {g:FuncId} {fn:Func} {cap:Array Value} {w:World} (hf:P.funcs[g]?=some fn) (hb:fn.body.isNone=false) (hn:(fn.name == "runtime.NumGoroutine")=false) :
  stepG P main (born P { target:=.fn (.func g) cap,args:=#[] }) w=.go { frame:=jqa P g cap .deferred,callers:=[root P],status:=.running,dying:=none } w #[]:=by
 have h1:¬ fn.name = "runtime.NumGoroutine" := by simpa using hn
 have hb' : ¬ fn.body=none:=by intro h;rw [h] at hb;cases hb
 simp [stepG,born,unwind,callDeferred,GStep.after,root,goexitEntry,invoke,callFunc,hf,h1,hb',seen]
theorem zmM {b:Frame} {a:Go.Act} {fn:Func} {ops:Array Oper} (hm:b.mode=.run) (hro:b.roundOf=none) (hk:b.kind=.deferred) (hd:a.defers=[]) (hf:P.funcs[b.fn]?=some fn) (hr:fn.results=#[]) :
  QuitsIn P 4 (G (b.at a [.inRegion ops []]) [root P]):=by
 refine QuitsIn.ctl rfl (fun w=>stepG_region_end) (QuitsIn.ctl rfl (fun w=>stepG_end) (QuitsIn.ctl (g':=G (root P) []) rfl (fun w=>?_) ?_))
 ·simp [G,stepG,unwind,doReturn,Frame.at,hk,hd,hf,results_none hr,events_results_none hr,root,seen,GStep.after]
  rfl
 ·refine .inr ⟨rfl,{ frame:=root P,callers:=[],status:=.finished,dying:=none },fun w=>?_,rfl⟩
  have hc:P.funcs[P.funcs.size]?=none:=by simp
  simp [G,stepG,unwind,root,goexitEntry,Frame.catches,hc];rfl
end
end Go.Con
namespace Go.Con
open Go Go.Conc
variable [Lone]
def wgor (P:Program) (ρ:Rn) (fr:Frame):Goroutine:={ frame:={ zaa ρ fr with kind:=.deferred },callers:=[root P],status:=.running,dying:=none }
structure HereW (P:Program) (E Fz:Nat→Prop) (B:Nat) (ρ:Rn) (D own A:Nat→Prop) (fr:Frame) (W W' : World):Prop where
 sim:Sim P false E ρ D Fz fr [] W W'
 hown:∀ b,D b→¬ Fz b→own (ρ.p b)
 hA:∀ b,D b→A (ρ.p b)
 low:∀ x,own x→B≤x
 size:B≤W'.heap.size
 ed:EmptyDef W
 tok:∀ x,ρ.c (2 * x)=.chan (some x)
section
variable {P:Program} {E Fz:Nat→Prop} {B:Nat} {ρ:Rn} {D own A:Nat→Prop} {fr fr' : Frame} {W W' W'' : World} {c:Nat} {Post:Hand}
theorem HereW.env (h:HereW P E Fz B ρ D own A fr W W') (he:Env A W' W''):HereW P E Fz B ρ D own A fr W W'' :=
 ⟨h.sim.env (fun b hb=>he.heap _ (h.hA b hb)) he.size he.os he.output,h.hown,h.hA,h.low,jqd h.size he.size,h.ed,h.tok⟩
theorem HereW.frame (h:HereW P E Fz B ρ D own A fr W W') {fr1:Frame} (hs:supF P D E fr1):HereW P E Fz B ρ D own A fr1 W W' :=
 ⟨⟨h.sim.rok,h.sim.hG,h.sim.lt,h.sim.bd,h.sim.fz,hs,(fun _ hc=>(jqb hc).elim),h.sim.os,h.sim.output,h.sim.obj,h.sim.supo⟩,h.hown,h.hA,h.low,h.size,h.ed,h.tok⟩
def GoW (P:Program) (E Fz:Nat→Prop) (B:Nat) (c:Nat) (Post:Hand) (fr:Frame) (W:World):Prop :=
 ∀ ρ D own A W',HereW P E Fz B ρ D own A fr W W'→Wk P c Post own A (wgor P ρ fr) W'
theorem Wk.ctl {own A:Nat→Prop} {g g' : Goroutine} {W:World} (hr:g.status=.running) (hr' : g'.status=.running) (h:∀ W',stepG P false g W'=.go g' W' #[]) (hm:Wk P c Post own A g' W):Wk P c Post own A g W:=by
 refine .step hr (fun W' _=>⟨g',W',#[],h W',⟨fun e he=>(Array.not_mem_empty e he).elim,Nat.le_refl _,fun _ _ _=>rfl,rfl,rfl⟩,hr'⟩) fun W' g2 W1 es he hs=>?_;rw [h W'] at hs;cases hs
 rw [zeY,zeY];exact hm.env he
theorem GoW.ctl (hs:∀ D,supF P D E fr→supF P D E fr') (h:∀ (ρ:Rn) (W' : World),stepG P false (wgor P ρ fr) W'=.go (wgor P ρ fr') W' #[]) (hg:GoW P E Fz B c Post fr' W):GoW P E Fz B c Post fr W:=by
 intro ρ D own A W' hh;exact Wk.ctl rfl rfl (h ρ) (hg ρ D own A W' (hh.frame (hs D hh.sim.sup)))
theorem HereW.step (h:HereW P E Fz B ρ D own A fr W W') (hsr:SRH P false fr []) (hh:zgn P false fr) (hm:fr.mode=.run) (hro:fr.roundOf=none) (hne:fr.todo≠[]) {Wf:World}
  (hr:(zao P fr []).run P { W with tape:=shift W W' }=.ok (fr',[]) Wf) (hed:EmptyDef Wf) :
  ∃ W1 es,stepG P false (wgor P ρ fr) W'=.go (wgor P (ext ρ W.heap.size W'.heap.size) fr') W1 es∧Does own A W' W1 es ∧
   HereW P E Fz B (ext ρ W.heap.size W'.heap.size) (fun b=>D b∨(W.heap.size≤b∧b<Wf.heap.size)) (grow own W' W1) (grow A W' W1) fr' Wf W1:=by
 obtain⟨W1,g1,g2,g3,g4,g5⟩:=h.sim.stepS hsr hr;simp only [List.map_nil] at g1 g5;have hle:W.heap.size≤Wf.heap.size:=za9 (W:={ W with tape:=shift W W' }) hr;have hold:∀ b,b<W.heap.size→(ext ρ W.heap.size W'.heap.size).p b=ρ.p b:=fun b hb=>by simp [ext,hb]
 have hnew:∀ b,W.heap.size≤b→(ext ρ W.heap.size W'.heap.size).p b=b-W.heap.size+W'.heap.size:=fun b hb=>by simp [ext,Nat.not_lt.2 hb]
 have hos:Wf.os=W.os∧Wf.output=W.output:=by
  have hw:Sup P (mdOf P false) (gd P) (fun b=>D b∨W.heap.size≤b) E (fun _=>True) (zao P fr []):=by
   have hA:=hsr _ zlx;have hB:=hsr _ (zkP (D:=fun b=>D b∨W.heap.size≤b) (E:=E));have hDD:∀ b,D b→(fun b=>D b∨W.heap.size≤b) b:=fun b hb=>.inl hb;rw [← show zaa (RA (gd P)) fr=zaa (RB (gd P) (fun b=>D b∨W.heap.size≤b) E) fr from zbW hDD h.sim.sup] at hB;exact (zkB (mf:=mdOf P false) (G:=gd P) (D:=fun b=>D b∨W.heap.size≤b) (E:=E) (fun b hb=>.inl (h.sim.hG b hb)) hA hB).mono fun _ _=>trivial
  have hlw:LW (gd P) (fun b=>D b∨W.heap.size≤b) E (mdOf P false) { W with tape:=shift W W' }:=by
   intro b o hb ho;have hlt:b<W.heap.size:=by
    rcases Nat.lt_or_ge b W.heap.size with h | h
    ·exact h
    ·rw [show ({ W with tape:=shift W W' }:World).heap=W.heap from rfl,Array.getElem?_eq_none h] at ho;cases ho
   obtain⟨h1,h2⟩:=h.sim.supo b o (hb.resolve_right (Nat.not_le.2 hlt)) ho;exact⟨zcr (fun b hb=>.inl hb) h1,h2⟩
  have:=hw.run1 hlw h.ed (fun b hb=>.inr hb);unfold Run1 at this;rw [hr] at this;exact⟨this.2.2.2.2.2.2.1,this.2.2.2.2.2.2.2.1⟩
 have hup:=zgk (κ:=.deferred) (k:=[]) (bs:=[root P]) (fr:=zaa ρ fr) (cs:=[]) (.inl (by simp [zaa,hro])) (fun _ hc=>(jqb hc).elim) (fun _=>⟨hm,by simpa [zaa] using hne⟩) g1;have e1:up .deferred [] [root P] (zaa ρ fr) []=({ zaa ρ fr with kind:=.deferred },[root P]):=by simp [up]
 rw [e1] at hup;have g1' : (zao P { zaa ρ fr with kind:=.deferred } [root P]).run P W'=.ok ({ zaa (ext ρ W.heap.size W'.heap.size) fr' with kind:=.deferred },[root P]) W1:=by
  rw [hup];unfold lift;rw [Sem.run_bind,g1];simp [up,Sem.run_pure]
 have hev:(zao P { zaa ρ fr with kind:=.deferred } [root P]).events P W' #[]=(zao P (zaa ρ fr) []).events P W' #[]:=by
  rw [hup];unfold lift;rw [Sem.events_bind];rw [g1];rfl
 obtain⟨es,hgo,hes⟩:=zdX (main:=false) (st:=.running) (off:=none) (P:=P) (maps:=false) (fr:={ zaa ρ fr with kind:=.deferred }) (cs:=[root P]) ⟨fun it t e=>by
   have e' : fr.todo.map (zal ρ)=it :: t:=e
   cases hf:fr.todo with
   | nil=>rw [hf] at e';cases e'
   | cons it0 t0 =>
    rw [hf] at e';simp only [List.map_cons,List.cons.injEq] at e';obtain⟨rfl,_⟩:=e';have:=hh.todo it0 t0 hf
    cases it0 with
    | code c=>exact this
    | inRegion ops l=>cases l<;>exact this
    | _=>exact this,.inl hm,fun d hd=>by
   obtain⟨d0,h0,rfl⟩:=List.mem_map.1 hd;obtain⟨r,rfl⟩:=hh.defers d0 h0;exact⟨ρ.p r,by simp [zaM,zdf]⟩,.inr ⟨rfl,hm,by simp [zaa,hro]⟩⟩ g1'
 rw [hev] at hes;have hdoes:Does own A W' W1 es:=by
  refine⟨fun e he=>?_,g3.1,fun x hx hn=>g3.2 x hx fun b hb hz hx2=>?_,?_,?_⟩
  ·have hA:∀ b,(D b∨(W.heap.size≤b∧b<Wf.heap.size))→grow A W' W1 ((ext ρ W.heap.size W'.heap.size).p b):=by
    intro b hb;rcases hb with hb | hb
    ·rw [hold b (h.sim.lt b hb)];exact .inl (h.hA b hb)
    ·rw [hnew b hb.1];exact .inr ⟨by omega,by omega⟩
   have hO:∀ b,(D b∨(W.heap.size≤b∧b<Wf.heap.size))→¬ Fz b→grow own W' W1 ((ext ρ W.heap.size W'.heap.size).p b):=by
    intro b hb hz;rcases hb with hb | hb
    ·rw [hold b (h.sim.lt b hb)];exact .inl (h.hown b hb hz)
    ·rw [hnew b hb.1];exact .inr ⟨by omega,by omega⟩
   rcases g5 e (hes e he) with ⟨a,b,e1,e2,e3,e4,e5⟩ | ⟨b,e1,e2,e3,e5⟩ | he2
   ·exact .inl ⟨a,e1,e2,by rw [e4];exact hA b e3,fun hw=>by rw [e4];exact hO b e3 (e5 hw)⟩
   ·exact .inr (.inl ⟨_,e1,e2,hA b e3,fun hw=>hO b e3 (e5 hw)⟩)
   ·exact .inr (.inr he2)
  ·rcases hb with hb | hb
   ·rw [hold b (h.sim.lt b hb)] at hx2
    exact hn (hx2 ▸ h.hown b hb hz)
   ·rw [hnew b hb.1] at hx2;omega
  ·rw [g2.os,h.sim.os,hos.1]
  ·rw [g2.output,h.sim.output,hos.2]
 refine⟨W1,es,hgo,hdoes,g2,fun b hb hz=>?_,fun b hb=>?_,fun x hx=>?_,jqd h.size g3.1,hed,h.tok⟩
 ·rcases hb with hb | hb
  ·rw [hold b (h.sim.lt b hb)];exact .inl (h.hown b hb hz)
  ·rw [hnew b hb.1];exact .inr ⟨by omega,by omega⟩
 ·rcases hb with hb | hb
  ·rw [hold b (h.sim.lt b hb)];exact .inl (h.hA b hb)
  ·rw [hnew b hb.1];exact .inr ⟨by omega,by omega⟩
 ·rcases hx with hx | hx
  ·exact h.low x hx
  ·exact jqd h.size hx.1
theorem GoW.step (hsr:SRH P false fr []) (hh:zgn P false fr) (hm:fr.mode=.run) (hro:fr.roundOf=none) (hne:fr.todo≠[])
  (hrun:∀ τ:Tape,Agree W.drawn τ W.tape→∃ fr' W1,(zao P fr []).run P { W with tape:=τ }=.ok (fr',[]) W1∧(EmptyDef W→EmptyDef W1)∧GoW P E Fz B c Post fr' W1) :
  GoW P E Fz B c Post fr W:=by
 intro ρ D own A W' h;have key:∀ W'',Env A W' W''→∃ fr' Wf W1 es,stepG P false (wgor P ρ fr) W''=.go (wgor P (ext ρ W.heap.size W''.heap.size) fr') W1 es∧Does own A W'' W1 es∧GoW P E Fz B c Post fr' Wf ∧
   HereW P E Fz B (ext ρ W.heap.size W''.heap.size) (fun b=>D b∨(W.heap.size≤b∧b<Wf.heap.size)) (grow own W'' W1) (grow A W'' W1) fr' Wf W1:=by
  intro W'' he;have h':=h.env he;obtain⟨fr',Wf,hr,hed,hg⟩:=hrun (shift W W'') (zdm W W'');obtain⟨W1,es,a,b,c⟩:=h'.step hsr hh hm hro hne hr (hed h.ed);exact⟨fr',Wf,W1,es,a,b,hg,c⟩
 refine .step rfl (fun W'' he=>?_) fun W'' g' W1 es he hs=>?_
 ·obtain⟨fr',Wf,W1,es,a,b,_⟩:=key W'' he
  exact⟨_,W1,es,a,b,rfl⟩
 ·obtain⟨fr',Wf,W1',es',a,b,c,d⟩:=key W'' he
  rw [a] at hs;cases hs
  exact c _ _ _ _ _ d
theorem GoW.op {ops:Array Oper} {i:Nat} {rest:List Nat} {k:List Item} {o:Oper} (hm:fr.mode=.run) (hro:fr.roundOf=none) (hk:fr.kind=.normal) (hd:fr.defers=[]) (ht:fr.todo=.inRegion ops (i :: rest) :: k) (ho:ops[i]?=some o)
  (hw:jqc o (yielded ops fr.tmps)=true) (hop:okOp P false o.op=true) (hv:zgZ P fr.eval o.op=true)
  (hrun:∀ τ:Tape,Agree W.drawn τ W.tape→∃ v W1,(execOp fr.eval o).run P { W with tape:=τ }=.ok (.value v) W1∧(EmptyDef W→EmptyDef W1)∧GoW P E Fz B c Post (fr.finish v) W1) :
  GoW P E Fz B c Post fr W:=by
 refine .step (zlM hm ht ho hop hv) ⟨fun it t e=>?_,.inl hm,fun d hdm=>?_,.inl hk⟩ hm hro (by rw [ht];simp) fun τ hτ=>?_
 ·rw [ht] at e
  cases e
  simp only [zex,ho,Option.all_some];exact hop
 ·rw [hd] at hdm;cases hdm
 ·obtain⟨v,W1,h1,h2,h3⟩:=hrun τ hτ
  refine⟨fr.finish v,W1,?_,h2,h3⟩;unfold zao;rw [hm];dsimp only;unfold zcD;rw [ht];dsimp only;rw [ho];simp only [Option.map_some,Option.getD_some,hw,if_true];rw [Sem.run_bind,h1];rfl
end
end Go.Con
namespace Go.Con
open Go Go.Conc
variable [Lone]
section
variable {P:Program} {E Fz:Nat→Prop} {B:Nat} {ρ:Rn} {D own A:Nat→Prop} {fr fr' : Frame} {W W' W'' : World} {c:Nat} {Post:Hand}
theorem HereW.inv (h:HereW P E Fz B ρ D own A fr W W') {fr0:Frame} (hok:OkFrame P false fr0) (hs:supF P D E fr0) (hb:fr0.roundOf=none∧P.inits.idxOf? fr0.fn=none):Inv P false (fun b=>D b∨W.heap.size≤b) E fr0 [] W:=by
 refine⟨hok,fun c hc=>(jqb hc).elim,zbW (fun b hb=>.inl hb) hs,fun c hc=>(jqb hc).elim,fun b o hb ho=>?_,h.ed,fun b hb=>.inr hb,hb,fun c hc=>(jqb hc).elim⟩;have hlt:b<W.heap.size:=by
  rcases Nat.lt_or_ge b W.heap.size with h | h
  ·exact h
  ·rw [Array.getElem?_eq_none h] at ho;cases ho
 obtain⟨h1,h2⟩:=h.sim.supo b o (hb.resolve_right (Nat.not_le.2 hlt)) ho;exact⟨zcr (fun b hb=>.inl hb) h1,h2⟩
theorem GoW.seg {F:Fence} (hal:F.alive=true) (hF:∀ f,F.fn f→zaL P (.func f)=true→okFn P false f) {t0 k:List Item} (ht:fr.todo=t0++k) (hok:OkFrame P false { fr with todo:=t0 })
  (hb:fr.roundOf=none∧P.inits.idxOf? fr.fn=none) {R:Frame→World→Prop} (hR:∀ fr W,R fr W→fr.mode=.run)
  (hp:∀ τ:Tape,Agree W.drawn τ W.tape→Ends P F zc5 R { fr with todo:=t0 } [] { W with tape:=τ })
  (hq:∀ fr1 W1,R fr1 W1→zc5 fr1 []→fr1.kind=.normal→GoW P E Fz B c Post { fr1 with todo:=fr1.todo++k } W1):GoW P E Fz B c Post fr W:=by
 intro ρ D own A W' h;obtain⟨hs0,hk0⟩:=zf4 h.sim.sup ht;have hinv:=h.inv hok hs0 hb;have hGl:∀ b,b<P.globals.size→D b∨W.heap.size≤b:=fun b hb=>.inl (h.sim.hG b hb);have hfut:=zoA hal hF hGl zfC (ze5 hR) hinv hp;have hact:=zoL hGl (zkz (κ:=.deferred) (fun b=>D b∨W.heap.size≤b) E (.inr rfl) (k.map (zal ρ)) [root P]) hfut W.heap.size ρ D Fz (h.frame hs0).sim (own:=fun x=>∃ b,D b∧¬ Fz b∧ρ.p b=x) (A:=fun x=>∃ b,D b∧ρ.p b=x)
  (fun _=>Iff.rfl) (fun _=>Iff.rfl) (fun b hb=>⟨hb,rfl⟩) rfl (Nat.le_refl _) (fun _ _=>⟨rfl,id⟩) (fun b h1 h2=>absurd h1 (Nat.not_le.2 h2))
 have hfrm:=hact.frame (own':=own) (A':=A) (fun x ⟨b,h1,h2,h3⟩=>h3 ▸ h.hown b h1 h2) (fun x ⟨b,h1,h3⟩=>h3 ▸ h.hA b h1);have e1:up .deferred (k.map (zal ρ)) [root P] (zaa ρ { fr with todo:=t0 }) (([]:List Frame).map (zaa ρ))=({ zaa ρ fr with kind:=.deferred },[root P]):=by
  simp only [up,List.map_nil,Prod.mk.injEq,and_true];obtain⟨fn,tmps,todo,defers,mode,kind,roundOf⟩:=fr;dsimp only at ht;subst ht;simp [zaa]
 rw [e1] at hfrm;refine Wk.of_act hfrm fun o' a' fr' cs' W2 hc=>?_;obtain⟨o,a,⟨ρ1,D1,fr1,W1,hsim,hst,hR1,heq,ho1,hA1,h01,hed1,hcc,hkd1,hn1,hn2⟩,hf⟩:=hc;have same:∀ b,b<(gd P).n∨D b→ρ.p b=ρ1.p b:=fun b hb=>((h01 b (hb.elim (h.sim.hG b) id)).2).symm;have hD:∀ b,D b→D1 b:=fun b hb=>(h01 b hb).1;have hks:k.map (zal ρ)=k.map (zal ρ1):=zc4 (fun it hi=>zcU same (fun b=>by rw [hcc]) (fun f hf=>by rw [h.sim.rok.fixo f hf,hsim.rok.fixo f hf]) hi) hk0;have hk1:k.map (zal (RA (gd P)))=k.map (zal (RB (gd P) D1 E)) :=
  let ⟨a,b,c⟩:=rarb (P:=P) (E:=E) hD
  zc4 (fun it hi=>zcU a b c hi) hk0
 have e2:({ frame:=fr',callers:=cs',status:=.running,dying:=none }:Goroutine)=wgor P ρ1 { fr1 with todo:=fr1.todo++k }:=by
  simp only [up,Prod.mk.injEq] at heq;obtain⟨rfl,rfl⟩:=heq;unfold wgor;rw [hks];simp [zaa]
 rw [e2];refine hq fr1 W1 hR1 hst hkd1 ρ1 D1 o' a' W2 ⟨⟨hsim.rok,hsim.hG,hsim.lt,hsim.bd,hsim.fz,ziN hsim.sup hk1,fun c hc=>(jqb hc).elim,hsim.os,hsim.output,hsim.obj,hsim.supo⟩,fun b hb hz=>hf.oo _ ((ho1 _).2 ⟨b,hb,hz,rfl⟩),fun b hb=>hf.aa _ ((hA1 _).2 ⟨b,hb,rfl⟩),fun x hx=>?_,jqd h.size hf.size,hed1,fun x=>by rw [hcc];exact h.tok x⟩;exact (hf.ob' x hx).elim (h.low x) fun hx=>jqd h.size hx
section
variable {k:List Item} (hm:fr.mode=.run) (hr:fr.roundOf=none)
include hm hr
theorem zgL {todo:List Item} (ht:fr.todo=todo) (σ:Rn):wgor P σ fr=G (({ zaa σ fr with kind:=.deferred }:Frame).at ⟨fr.tmps.map (ren σ),fr.defers.map (zaM σ)⟩ (todo.map (zal σ))) [root P]:=by
 obtain⟨fn,tmps,todo,defers,mode,kind,roundOf⟩:=fr;dsimp only at hm hr ht;subst hm hr ht;rfl
theorem GoW.seq {x y:Code} (ht:fr.todo=.code (.seq x y) :: k) (hg:GoW P E Fz B c Post { fr with todo:=.code x :: .code y :: k } W):GoW P E Fz B c Post fr W:=by
 refine .ctl (fr':={ fr with todo:=.code x :: .code y :: k }) (fun D h=>zbZ h (t0:=[.code (.seq x y)]) (t1:=[.code x,.code y]) ht rfl) (fun σ W'=>?_) hg;rw [zgL hm hr ht,zgL (fr:={ fr with todo:=.code x :: .code y :: k }) hm hr rfl];exact stepG_seq
theorem GoW.region {id:Nat} {ops:Array Oper} (ht:fr.todo=.code (.region id ops false) :: k) (hg:GoW P E Fz B c Post { fr with todo:=.inRegion ops (List.range ops.size) :: k } W):GoW P E Fz B c Post fr W:=by
 refine .ctl (fr':={ fr with todo:=.inRegion ops (List.range ops.size) :: k }) (fun D h=>zbZ h (t0:=[.code (.region id ops false)]) (t1:=[.inRegion ops (List.range ops.size)]) ht rfl) (fun σ W'=>?_) hg;rw [zgL hm hr ht,zgL (fr:={ fr with todo:=.inRegion ops (List.range ops.size) :: k }) hm hr rfl];exact stepG_region
theorem GoW.send {ops:Array Oper} {i:Nat} {o:Oper} {x y:Operand} {v z:Value} {fn:Func} (ht:fr.todo=[.inRegion ops [i]]) (ho:ops[i]?=some o) (hw:jqc o (yielded ops fr.tmps)=true) (hd:fr.defers=[]) (hx:za2 P x=true) (hy:za2 P y=true)
  (hev:fr.eval x=.chan (some (2 * c))) (hvy:fr.eval y=v)
  (hrun:∀ (e:Operand→Value) (w:World),e x=.chan (some c)→(execOp e o).run P w=.ok (.comm #[scase c (e y) z] true .send) w∧(execOp e o).events P w #[]=#[])
  (hf:P.funcs[fr.fn]?=some fn) (hres:fn.results=#[])
  (hp:∀ ρ D own A W',HereW P E Fz B ρ D own A fr W W'→Post own A (ren ρ v) W'):GoW P E Fz B c Post fr W:=by
 intro ρ D own A W' hh;have hcv:∀ (u:Operand),za2 P u=true→(⟨fr.tmps.map (ren ρ),fr.defers.map (zaM ρ)⟩:Go.Act).eval u=ren ρ (fr.eval u):=by
  intro u hu;have h1:=zcH hh.sim.rok (fr:=fr) u hu;rw [← h1]
  cases u<;>rfl
 have hchan:(⟨fr.tmps.map (ren ρ),fr.defers.map (zaM ρ)⟩:Go.Act).eval x=.chan (some c):=by
  rw [hcv x hx,hev];simp only [ren,hh.tok];rfl
 have hval:(⟨fr.tmps.map (ren ρ),fr.defers.map (zaM ρ)⟩:Go.Act).eval y=ren ρ v:=by rw [hcv y hy,hvy]
 have hwt:jqc o (yielded ops (⟨fr.tmps.map (ren ρ),fr.defers.map (zaM ρ)⟩:Go.Act).tmps)=true:=by
  show jqc o (yielded ops (fr.tmps.map (ren ρ)))=true;rw [show yielded ops (fr.tmps.map (ren ρ))=yielded ops fr.tmps from funext fun j=>zcW j];exact hw
 have hat:wgor P ρ fr=G (({ zaa ρ fr with kind:=.deferred }:Frame).at ⟨fr.tmps.map (ren ρ),fr.defers.map (zaM ρ)⟩ [.inRegion ops [i]]) [root P]:=zgL hm hr ht ρ;have key:∀ W2:World,stepG P false (wgor P ρ fr) W2=.comm (wgor P ρ fr) #[scase c (ren ρ v) z] true .send W2 #[]:=by
  intro W2;obtain⟨r1,r2⟩:=hrun _ W2 hchan;rw [hval] at r1;have hst:=stepG_comm (P:=P) (main:=false) (b:={ zaa ρ fr with kind:=.deferred }) (a:=⟨fr.tmps.map (ren ρ),fr.defers.map (zaM ρ)⟩) (k:=[]) (cs:=[root P]) (w:=W2) (rest:=[]) ho hwt (by simp) r1;rw [hat];refine hst.trans ?_;have hl:listed P ({ zaa ρ fr with kind:=.deferred }:Frame).fn ⟨fr.tmps.map (ren ρ),fr.defers.map (zaM ρ)⟩ o W2=#[]:=by
   unfold listed;rw [r2];rfl
  rw [hl]
 refine .send rfl (ren ρ v) z fun W2 he=>⟨hp _ _ _ _ _ (hh.env he),_,4,key W2,?_⟩;have hfin:∀ u:Value,({ wgor P ρ fr with frame:=(wgor P ρ fr).frame.finish u,status:=.running,offers:=none }:Goroutine)=G (({ zaa ρ fr with kind:=.deferred }:Frame).at ((⟨fr.tmps.map (ren ρ),fr.defers.map (zaM ρ)⟩:Go.Act).put o.dst u) [.inRegion ops []]) [root P]:=by
  intro u;rw [hat];show ({ frame:=Frame.finish _ u,callers:=[root P],status:=.running,dying:=none }:Goroutine)=_;have:=Frame.finish_at ({ zaa ρ fr with kind:=.deferred }:Frame) ⟨fr.tmps.map (ren ρ),fr.defers.map (zaM ρ)⟩ ops i [] [] u;rw [ho] at this;exact congrArg (fun f=>({ frame:=f,callers:=[root P],status:=.running,dying:=none }:Goroutine)) this
 show QuitsIn P 4 ({ wgor P ρ fr with frame:=(wgor P ρ fr).frame.finish _,status:=.running,offers:=none }:Goroutine);rw [hfin];exact zmM (by show fr.mode=.run;exact hm) (by simp [zaa,hr]) rfl (by cases o.dst<;>simp [Go.Act.put,hd]) (by show P.funcs[fr.fn]?=some fn;exact hf) hres
end
theorem GoW.born {g:FuncId} {fn:Func} {cap:Array Value} (hf:P.funcs[g]?=some fn) (hb:fn.body.isNone=false) (hn:(fn.name == "runtime.NumGoroutine")=false)
  {ρ:Rn} {own A:Nat→Prop} {W' : World} (h:HereW P E Fz B ρ D own A (jqa P g cap .normal) W W') (hg:GoW P E Fz B c Post (jqa P g cap .normal) W) :
  Wk P c Post own A (born P { target:=.fn (.func g) (cap.map (ren ρ)),args:=#[] }) W':=by
 refine Wk.ctl rfl rfl (fun W2=>zlq hf hb hn) ?_;have e:({ frame:=jqa P g (cap.map (ren ρ)) .deferred,callers:=[root P],status:=.running,dying:=none }:Goroutine)=wgor P ρ (jqa P g cap .normal):=by
  unfold wgor jqa zaa;simp only [Array.map_append,Array.size_map,List.map_cons,List.map_nil,zal,Option.map_none];simp [hf,ren_undef]
 rw [e];exact hg ρ D own A W' h
end
end Go.Con
namespace Go.Con
open Go Go.Conc
section
variable {P:Program}
structure Seed (Ac:Nat→Prop) (B:Nat) (ρ:Rn) (W W' : World):Prop where
 lt:∀ b,Ac b→b<W.heap.size
 bd:∀ b,b<W.heap.size→ρ.p b<W'.heap.size
 os:W'.os=W.os
 output:W'.output=W.output
 obj:∀ b o,Ac b→W.heap[b]?=some o→zbv o=false∧∃ o',W'.heap[ρ.p b]?=some o' ∧
  ((∃ c e fz,o=.cells c e (0,c.size)∧o'=.cells (c.map (ren ρ)) e fz)∨(isCells o=false∧(∀ mf:Md,mf.maps=false→zcA mf o=false)∧o'=zaz ρ o))
 size:B≤W'.heap.size
 ed:EmptyDef W
 tok:∀ x,ρ.c (2 * x)=.chan (some x)
theorem zhg [Lone] {D E:Nat→Prop} {g:FuncId} {cap:Array Value} (h:∀ v∈cap,supV (gd P) D E v):supF P D E (jqa P g cap .normal):=by
 have e:∀ σ:Rn,zaa σ (jqa P g cap .normal)=jqa P g (cap.map (ren σ)) .normal:=by
  intro σ;unfold jqa zaa;simp only [Array.map_append,Array.size_map,List.map_cons,List.map_nil,zal,Option.map_none,Frame.mk.injEq,and_true,true_and];simp [ren_undef]
 show zaa _ _=zaa _ _;rw [e,e];congr 1;exact Array.map_congr_left h
theorem Seed.here [Lone] {Ac E:Nat→Prop} {B:Nat} {ρ:Rn} {W W' : World} (h:Seed Ac B ρ W W') (R:RenOk P ρ) (hG:∀ b,b<P.globals.size→Ac b)
  (hsup:∀ b o,Ac b→W.heap[b]?=some o→zba (gd P) Ac E o∧zaK (mdOf P false) o=true) {g:FuncId} {cap:Array Value} (hcap:∀ v∈cap,supV (gd P) Ac E v) :
  HereW P E Ac B ρ Ac (fun _=>False) (fun x=>∃ b,Ac b∧ρ.p b=x) (jqa P g cap .normal) W W':=by
 refine⟨⟨R,hG,h.lt,h.bd,fun _ hb=>hb,zhg hcap,fun c hc=>(jqb hc).elim,h.os,h.output,fun b o hb ho=>?_,fun b o hb ho=>?_⟩,fun b hb hn=>(hn hb).elim,fun b hb=>⟨b,hb,rfl⟩,fun x hx=>hx.elim,h.size,h.ed,h.tok⟩
 ·obtain⟨_,o',h1,h2⟩:=h.obj b o hb ho
  refine⟨o',h1,?_⟩;rcases h2 with ⟨c,e,fz,rfl,rfl⟩ | ⟨h3,h4,rfl⟩
  ·exact .frozen hb c e fz
  ·exact .still hb h3 (h4 _ rfl)
 ·obtain⟨a1,a2⟩:=hsup b o hb ho
  exact⟨a1,a2,(h.obj b o hb ho).1⟩
structure Two where
 main:Lone
 work:Lone
theorem zod (T:Two) (hv:∀ f,T.work.v f=true→T.main.v f=true) {ρ:Rn} (R:@RenOk T.main P ρ):@RenOk T.work P ρ:=by
 have hg:∀ f,@zaL T.work P f=true→@zaL T.main P f=true:=by
  intro f h;unfold zaL at h ⊢
  cases f with
  | func f =>
   dsimp only at h ⊢
   cases hf:P.funcs[f]? with
   | none=>rw [hf] at h;cases h
   | some fn =>
    rw [hf] at h;simp only [Bool.and_eq_true] at h ⊢;exact⟨h.1,hv f h.2⟩
  | _=>cases h
 have key:∀ (keys:(∀ t,zbM P t=true)∨ze8 ρ) (inj:∀ x y,ρ.p x=ρ.p y→x=y) (fix:∀ b,b<P.globals.size→ρ.p b=b) (fixo:∀ f,@zaL T.main P f=true→ρ.o f=f),@RenOk T.work P ρ :=
  fun a b c d=>@RenOk.mk T.work P ρ a b c fun f hf=>d f (hg f hf)
 letI:=T.main
 exact key R.keys R.inj R.fix R.fixo
end
end Go.Con
namespace Go.Con
open Go Go.Conc
theorem zfy {P:Program} {F F' : Fence} (hf:∀ f,F.fn f→F'.fn f) (ha:F'.alive=F.alive) (hd:F'.depth=none) {m:Machine} (h:m.fenced P F):m.fenced P F':=by
 intro g hg;obtain⟨a,b,c,d⟩:=h g hg;refine⟨fun h=>a (ha ▸ h),b.imp (hf _) id,fun x hx=>hf _ (c x hx),fun x hx=>?_⟩;rw [hd] at hx;cases hx
theorem zeU {P:Program} {F F' : Fence} (hf:∀ f,F.fn f→F'.fn f) (ha:F'.alive=F.alive) (hd:F.depth=none) (hd' : F'.depth=none) {n m:Nat} {f:FuncId} {args:Array Value} {w:World} {R:Ending→World→Prop} (h:CallsIn F n P f args w R):CallsIn F' m P f args w R:=by
 refine⟨hf _ h.1,fun cs _=>?_⟩;obtain⟨e,w',fr,h1,h2,h3⟩:=h.2 cs (fun d hx=>by rw [hd] at hx;cases hx);refine⟨e,w',fr,h1,?_,h3⟩
 cases e with
 | returned v=>exact StepsIn.mono (fun m hm=>zfy hf ha hd' hm) h2
 | panicked c=>exact StepsIn.mono (fun m hm=>zfy hf ha hd' hm) h2
 | outgrown=>exact h2
abbrev Fr (f:FuncId) (t:Array Value) (k:List Item):Frame:={ fn:=f,tmps:=t,todo:=k,defers:=[],mode:=.run,kind:=.normal,roundOf:=none }
theorem zhP {P:Program} {f:FuncId} {args:Array Value} {fn:Func} {body:Code} (hf:P.funcs[f]?=some fn) (hb:fn.body=some body):jqa P f args .normal=Fr f (args++Array.replicate (fn.ntmps-args.size) undef) [.code body]:=by
 simp [jqa,hf,hb]
def putD (t:Array Value) (d:Option Tmp) (v:Value):Array Value:=match d with | some d=>t.setIfInBounds d v | none=>t
theorem zbs {f:FuncId} {t:Array Value} {ops:Array Oper} {i:Nat} {rest:List Nat} {k:List Item} {o:Oper} {v:Value} (ho:ops[i]?=some o):(Fr f t (.inRegion ops (i :: rest) :: k)).finish v=Fr f (putD t o.dst v) (.inRegion ops rest :: k):=by
 simp only [Frame.finish,ho,Option.bind_some,putD]
 cases o.dst<;>rfl
variable [Lone]
section
variable {P:Program} {maps:Bool} {E Fz Arg:Nat→Prop} {W0:World} {f:FuncId} {t:Array Value} {k:List Item} {cs:List Frame} {W:World}
variable {Q:(Nat→Prop)→(Nat→Prop)→Goroutine→World→Prop} {φ:Ph} {pend:List Nat}
theorem Gm.tape {fr:Frame} {τ:Tape} (h:GoM P maps E Fz Arg W0 Q φ pend fr cs W):GoM P maps E Fz Arg W0 Q φ pend fr cs { W with tape:=τ } :=
 fun ρ D own A W' hh=>h ρ D own A W' (by have:=hh.tape W.tape;exact this)
theorem Gm.seq {x y:Code} (hg:GoM P maps E Fz Arg W0 Q φ pend (Fr f t (.code x :: .code y :: k)) cs W):GoM P maps E Fz Arg W0 Q φ pend (Fr f t (.code (.seq x y) :: k)) cs W:=GoM.seq rfl rfl rfl hg
theorem Gm.cond {c:Operand} {x y:Code} {b:Bool} (he:(Fr f t []).eval c=.bool b) (hc:za2 P c=true) (hg:GoM P maps E Fz Arg W0 Q φ pend (Fr f t (.code (if b then x else y) :: k)) cs W):GoM P maps E Fz Arg W0 Q φ pend (Fr f t (.code (.cond c x y) :: k)) cs W :=
 GoM.cond rfl rfl rfl hc (by cases c<;>exact he) hg
theorem Gm.block {id:Nat} {x:Code} (hg:GoM P maps E Fz Arg W0 Q φ pend (Fr f t (.code x :: .inBlock id :: k)) cs W):GoM P maps E Fz Arg W0 Q φ pend (Fr f t (.code (.block id x) :: k)) cs W:=GoM.block rfl rfl rfl hg
theorem Gm.loop {x:Code} (hg:GoM P maps E Fz Arg W0 Q φ pend (Fr f t (.code x :: .inLoop x :: k)) cs W):GoM P maps E Fz Arg W0 Q φ pend (Fr f t (.code (.loop x) :: k)) cs W:=GoM.loop rfl rfl rfl hg
theorem Gm.inLoop {x:Code} (hg:GoM P maps E Fz Arg W0 Q φ pend (Fr f t (.code x :: .inLoop x :: k)) cs W):GoM P maps E Fz Arg W0 Q φ pend (Fr f t (.inLoop x :: k)) cs W:=GoM.inLoop rfl rfl rfl hg
theorem Gm.inBlock {id:Nat} (hg:GoM P maps E Fz Arg W0 Q φ pend (Fr f t k) cs W):GoM P maps E Fz Arg W0 Q φ pend (Fr f t (.inBlock id :: k)) cs W:=GoM.inBlock rfl rfl rfl hg
theorem Gm.skip (hg:GoM P maps E Fz Arg W0 Q φ pend (Fr f t k) cs W):GoM P maps E Fz Arg W0 Q φ pend (Fr f t (.code .skip :: k)) cs W:=GoM.skip rfl rfl rfl hg
theorem Gm.region {id:Nat} {ops:Array Oper} (hg:GoM P maps E Fz Arg W0 Q φ pend (Fr f t (.inRegion ops (List.range ops.size) :: k)) cs W):GoM P maps E Fz Arg W0 Q φ pend (Fr f t (.code (.region id ops false) :: k)) cs W:=GoM.region rfl rfl rfl hg
theorem Gm.regionEnd {ops:Array Oper} (hg:GoM P maps E Fz Arg W0 Q φ pend (Fr f t k) cs W):GoM P maps E Fz Arg W0 Q φ pend (Fr f t (.inRegion ops [] :: k)) cs W:=GoM.regionEnd rfl rfl rfl hg
theorem Gm.exit {id:Nat} (k0:List Item) {k' : List Item} (hx:exitTo id (k0++k')=some k') (hg:GoM P maps E Fz Arg W0 Q φ pend (Fr f t k') cs W):GoM P maps E Fz Arg W0 Q φ pend (Fr f t (.code (.exit id) :: (k0++k'))) cs W:=GoM.exit (k0:=k0) rfl rfl rfl hx hg
theorem Gm.lone {F:Fence} {x:Code} (R:Array Value→World→Prop) (hal:F.alive=true) (hdep:F.depth=none) (hro:F.round=none) (hfn:F.fn f) (hF:∀ f,F.fn f→zaL P (.func f)=true→okFn P maps f) (hin:P.inits.idxOf? f=none) (hok:zbe P maps x=true)
  (hp:∀ τ:Tape,x.wpIn F 0 P (fun e a w'=>e=.normal∧a.defers=[]∧R a.tmps w') ⟨t,[]⟩ { W with tape:=τ })
  (hq:∀ t1 W1,R t1 W1→GoM P maps E Fz Arg W0 Q φ pend (Fr f t1 k) cs W1):GoM P maps E Fz Arg W0 Q φ pend (Fr f t (.code x :: k)) cs W:=by
 refine GoM.seg (F:=F) hal hF (t0:=[.code x]) (k:=k) rfl ⟨?_,.inl rfl,fun d hd=>(jqb hd).elim,rfl⟩ ⟨rfl,hin⟩ (R:=fun fr W=>∃ a,fr=(Fr f t []).atR a []∧(a.defers=[]∧R a.tmps W)) ?_ (fun τ _=>?_) ?_
 ·simp [zbd,hok]
 ·rintro fr W ⟨a,rfl,_⟩;rfl
 ·obtain⟨e,a,w',⟨rfl,h1,h2⟩,h3⟩:=hp τ (Fr f t []) [] [] (by rw [hro]) hfn (fun d hd=>by rw [hdep] at hd;cases hd)
  exact zdL (Q:=fun a w'=>a.defers=[]∧R a.tmps w') h3 ⟨h1,h2⟩
 ·rintro fr1 W1 ⟨a,rfl,h1,h2⟩ _
  have:=hq _ _ h2;simp only [Frame.atR,List.nil_append,h1];exact this
theorem Gm.op {ops:Array Oper} {i:Nat} {rest:List Nat} {o:Oper} (v:Value) (W1:World) (ho:ops[i]?=some o) (hw:jqc o (yielded ops t)=true) (hop:okOp P maps o.op=true) (hv:zgZ P (Fr f t []).eval o.op=true)
  (hrun:∀ τ:Tape,(execOp (Fr f t []).eval o).run P { W with tape:=τ }=.ok (.value v) { W1 with tape:=τ }) (hed:EmptyDef W→EmptyDef W1)
  (hg:GoM P maps E Fz Arg W0 Q φ pend (Fr f (putD t o.dst v) (.inRegion ops rest :: k)) cs W1):GoM P maps E Fz Arg W0 Q φ pend (Fr f t (.inRegion ops (i :: rest) :: k)) cs W:=by
 have he:(Fr f t (.inRegion ops (i :: rest) :: k)).eval=(Fr f t []).eval:=funext fun x=>by cases x<;>rfl
 refine GoM.op rfl rfl rfl rfl ho hw hop (by rw [he];exact hv) fun τ _=>⟨v,{ W1 with tape:=τ },by rw [he];exact hrun τ,fun h=>(hed h),?_⟩;rw [zbs ho];exact Gm.tape hg
theorem Gm.enter {ops:Array Oper} {i:Nat} {rest:List Nat} {o:Oper} {c:Call} {g:FuncId} {fn:Func} {body:Code} (ho:ops[i]?=some o) (hw:jqc o (yielded ops t)=true) (hop:o.op=.call c) (hc:c.callee=.value (.func g)) (has:c.args.all (za2 P)=true) (hf:P.funcs[g]?=some fn) (hb:fn.body=some body) (hn:(fn.name == "runtime.NumGoroutine")=false)
  (hg:GoM P maps E Fz Arg W0 Q φ pend (Fr g (c.args.map (Fr f t []).eval++Array.replicate (fn.ntmps-(c.args.map (Fr f t []).eval).size) undef) [.code body]) (Fr f t (.inRegion ops (i :: rest) :: k) :: cs) W):GoM P maps E Fz Arg W0 Q φ pend (Fr f t (.inRegion ops (i :: rest) :: k)) cs W:=by
 have he:(Fr f t (.inRegion ops (i :: rest) :: k)).eval=(Fr f t []).eval:=funext fun x=>by cases x<;>rfl
 refine GoM.enter rfl rfl (by simp) rfl ho hw hop hc has hf (by simp [hb]) hn ?_;rw [zhP hf hb,he];exact hg
theorem Gm.ret {c:Frame} {fn:Func} {v:Value} (hf:P.funcs[f]?=some fn) (hv:∀ σ:Rn,ResultsC P fn (t.map (ren σ)) (ren σ v)) (hg:GoM P maps E Fz Arg W0 Q φ pend (c.finish v) cs W):GoM P maps E Fz Arg W0 Q φ pend (Fr f t (.code .ret :: k)) (c :: cs) W:=by
 refine GoM.ctl (fr':={ fn:=f,tmps:=t,todo:=.code .ret :: k,defers:=[],mode:=.returning,kind:=.normal,roundOf:=none }) (fun D h=>?_) (fun ρ W'=>?_) (GoM.leave rfl rfl rfl rfl hf hv hg)
 ·simp only [supF,zaa,Frame.mk.injEq] at h ⊢
  exact h
 ·have:=stepG_ret' (P:=P) (main:=true) (b:=zaa ρ (Fr f t [])) (a:=⟨t.map (ren ρ),[]⟩) (k:=k.map (zal ρ)) (cs:=(c :: cs).map (zaa ρ)) (w:=W')
  exact this
end
end Go.Con
namespace Go.Con
open Go Go.Conc
theorem zkY (v:Value):cellV (cellV v)=cellV v:=by
 rcases zdw v with ⟨_,h⟩ | ⟨_,_,_,h⟩ | ⟨_,h⟩ | ⟨f,_,_,h,hn⟩ | ⟨_,h⟩
 all_goals rw [h]
 all_goals first
  | rfl
  | (cases f<;>first | rfl | exact (hn _ rfl).elim)
def named:Value→Bool
 | .pointer (some _) | .slice (some _) _ _ | .map (some _) | .chan (some _) | .func ..=>true
 | _=>false
theorem zmK {ρ:Rn} {v:Value} (h:named v=true):cellV (ren ρ v)=ren ρ v∨∃ s a b,ren ρ v=.func (.method s) a b:=by
 cases v with
 | pointer a=>cases a with | none=>cases h | some a=>exact .inl (by simp [ren,cellV])
 | slice a n c=>cases a with | none=>cases h | some a=>exact .inl (by simp [ren,cellV])
 | map a=>cases a with | none=>cases h | some a=>exact .inl (by simp [ren,cellV])
 | chan a=>cases a with | none=>cases h | some a=>exact .inl (by simp only [ren];exact zkY _)
 | func fn a b =>
  obtain⟨f,a',b',e⟩:=za5 ρ fn a b;rw [e]
  cases f<;>first
   | exact .inl rfl
   | exact .inr ⟨_,_,_,rfl⟩
 | _=>cases h
open Classical in
noncomputable def tok (ρ:Rn) (ix:Value→Nat) (v:Value):Value:=if ∃ s a b,ren ρ v=.func (.method s) a b then .func (.method "") #[.nilIface] #[.chan (some (ix v))] else .chan (some (ix v))
open Classical in
mutual
noncomputable def cut (keep:Value→Prop) (ρ:Rn) (ix:Value→Nat):Value→Value
 | .iface t v=>.iface t (cut keep ρ ix v)
 | .agg cs=>.agg (cutA keep ρ ix cs)
 | .tuple vs=>.tuple (cutA keep ρ ix vs)
 | v=>if keep v then v else tok ρ ix v
noncomputable def cutA (keep:Value→Prop) (ρ:Rn) (ix:Value→Nat):Array Value→Array Value
 | ⟨l⟩=>⟨cutL keep ρ ix l⟩
noncomputable def cutL (keep:Value→Prop) (ρ:Rn) (ix:Value→Nat):List Value→List Value
 | []=>[]
 | v :: l=>cut keep ρ ix v :: cutL keep ρ ix l
end
theorem znc (keep:Value→Prop) (ρ:Rn) (ix:Value→Nat):∀ l,cutL keep ρ ix l=l.map (cut keep ρ ix)
 | []=>by simp [cutL]
 | v :: l=>by simp [cutL,znc keep ρ ix l]
theorem zps (keep:Value→Prop) (ρ:Rn) (ix:Value→Nat) (a:Array Value):cutA keep ρ ix a=a.map (cut keep ρ ix):=by
 obtain⟨l⟩:=a;simp [cutA,znc]
section
variable [Lone] {P:Program} {S E:Nat→Prop} {ρ ρ' : Rn} {ix:Value→Nat}
def Keep (P:Program) (S E:Nat→Prop) (ρ ρ' : Rn) (v:Value):Prop:=ren ρ' v=ren ρ v∧supV (gd P) S E v
theorem zpp {v:Value} (hc:ρ'.c (ix v)=ren ρ v) (hn:named v=true):ren ρ' (tok ρ ix v)=ren ρ v∧supV (gd P) S E (tok ρ ix v):=by
 unfold tok;split
 ·rename_i h
  obtain⟨s,a,b,h⟩:=h;refine⟨?_,by simp [supV,ren,zeN,zla,RA,RB]⟩;simp only [ren,zeN,hc,h,zla]
 ·rename_i h
  refine⟨?_,by simp [supV,ren,RA,RB]⟩;simp only [ren,hc];exact (zmK hn).resolve_right h
theorem ze2 {v:Value} (hc:ρ'.c (ix v)=ren ρ v) (hn:named v=true) (he:cut (Keep P S E ρ ρ') ρ ix v=(open Classical in if Keep P S E ρ ρ' v then v else tok ρ ix v)):ren ρ' (cut (Keep P S E ρ ρ') ρ ix v)=ren ρ v∧supV (gd P) S E (cut (Keep P S E ρ ρ') ρ ix v):=by
 rw [he];by_cases hk:Keep P S E ρ ρ' v
 ·rw [if_pos hk];exact hk
 ·rw [if_neg hk];exact zpp hc hn
theorem zbN {v:Value} (h1:∀ σ:Rn,ren σ v=v) (he:cut (Keep P S E ρ ρ') ρ ix v=(open Classical in if Keep P S E ρ ρ' v then v else tok ρ ix v)):ren ρ' (cut (Keep P S E ρ ρ') ρ ix v)=ren ρ v∧supV (gd P) S E (cut (Keep P S E ρ ρ') ρ ix v):=by
 have hk:Keep P S E ρ ρ' v:=⟨by rw [h1,h1],by unfold supV;rw [h1,h1]⟩;rw [he,if_pos hk];exact hk
mutual
theorem zhR:∀ v,(∀ x∈leaves v,named x=true→ρ'.c (ix x)=ren ρ x)→ren ρ' (cut (Keep P S E ρ ρ') ρ ix v)=ren ρ v∧supV (gd P) S E (cut (Keep P S E ρ ρ') ρ ix v)
 | .pointer none,_=>zbN (fun _=>by simp [ren]) (by simp only [cut])
 | .slice none _ _,_=>zbN (fun _=>by simp [ren]) (by simp only [cut])
 | .map none,_=>zbN (fun _=>by simp [ren]) (by simp only [cut])
 | .chan none,_=>zbN (fun _=>by simp [ren]) (by simp only [cut])
 | .pointer (some a),h=>ze2 (h _ (by simp [leaves]) rfl) rfl (by simp only [cut])
 | .slice (some a) n k,h=>ze2 (h _ (by simp [leaves]) rfl) rfl (by simp only [cut])
 | .map (some a),h=>ze2 (h _ (by simp [leaves]) rfl) rfl (by simp only [cut])
 | .chan (some a),h=>ze2 (h _ (by simp [leaves]) rfl) rfl (by simp only [cut])
 | .func fn a b,h=>ze2 (h _ (by simp [leaves]) rfl) rfl (by simp only [cut])
 | .iface t v,h=>by
  have:=zhR v (fun x hx=>h x (by simpa [leaves] using hx));simp only [cut,ren,supV,this.1,true_and];exact congrArg _ this.2
 | .agg cs,h=>by
  have:=zhO cs (fun x hx=>h x (by simpa [leaves] using hx));simp only [cut,ren,supV,this.1,true_and];exact congrArg _ this.2
 | .tuple cs,h=>by
  have:=zhO cs (fun x hx=>h x (by simpa [leaves] using hx));simp only [cut,ren,supV,this.1,true_and];exact congrArg _ this.2
 | .bool _,_=>zbN (fun _=>by simp [ren]) (by simp only [cut])
 | .int ..,_=>zbN (fun _=>by simp [ren]) (by simp only [cut])
 | .float ..,_=>zbN (fun _=>by simp [ren]) (by simp only [cut])
 | .complex ..,_=>zbN (fun _=>by simp [ren]) (by simp only [cut])
 | .string _,_=>zbN (fun _=>by simp [ren]) (by simp only [cut])
 | .nilFunc,_=>zbN (fun _=>by simp [ren]) (by simp only [cut])
 | .nilIface,_=>zbN (fun _=>by simp [ren]) (by simp only [cut])
theorem zhO:∀ a,(∀ x∈zdn a,named x=true→ρ'.c (ix x)=ren ρ x)→renA ρ' (cutA (Keep P S E ρ ρ') ρ ix a)=renA ρ a∧renA (RA (gd P)) (cutA (Keep P S E ρ ρ') ρ ix a)=renA (RB (gd P) S E) (cutA (Keep P S E ρ ρ') ρ ix a)
 | ⟨l⟩,h=>by
  have:=zkk l (fun x hx=>h x (by simpa [zdn] using hx));simp only [cutA,renA,this.1,this.2,and_self]
theorem zkk:∀ l,(∀ x∈zdV l,named x=true→ρ'.c (ix x)=ren ρ x)→renL ρ' (cutL (Keep P S E ρ ρ') ρ ix l)=renL ρ l∧renL (RA (gd P)) (cutL (Keep P S E ρ ρ') ρ ix l)=renL (RB (gd P) S E) (cutL (Keep P S E ρ ρ') ρ ix l)
 | [],_=>by simp [cutL,renL]
 | v :: l,h=>by
  have h1:=zhR v (fun x hx=>h x (by simp [zdV,hx]));have h2:=zkk l (fun x hx=>h x (by simp [zdV,hx]));simp only [cutL,renL,h1.1,h2.1,h2.2,true_and];rw [show ren (RA (gd P)) (cut (Keep P S E ρ ρ') ρ ix v)=ren (RB (gd P) S E) (cut (Keep P S E ρ ρ') ρ ix v) from h1.2]
end
end
end Go.Con
