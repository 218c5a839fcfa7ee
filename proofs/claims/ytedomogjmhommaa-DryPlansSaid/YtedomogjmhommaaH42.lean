import Derived.Test.YtedomogjmhommaaH41
set_option linter.all false
set_option maxRecDepth 100000
set_option maxHeartbeats 8000000
namespace Go.Con
open Go Go.Conc
variable [Lone]
section
variable {P:Program} {maps:Bool} {E Fz Arg:Nat→Prop} {W0:World} {f:FuncId} {t:Array Value} {k:List Item} {cs:List Frame} {W:World}
variable {Q:(Nat→Prop)→(Nat→Prop)→Goroutine→World→Prop} {φ:Ph} {pend:List Nat}
theorem Gm.done {fn:Func} {v:Value} {Post:Value→World→Prop} (hf:P.funcs[f]?=some fn) (hin:P.inits.idxOf? f=none) (hv:∀ σ:Rn,ResultsC P fn (t.map (ren σ)) (ren σ v))
  (hp:∀ ρ D own A fr W',Here P maps E Fz Arg W0 ρ D own A fr [] W W'→Post (ren ρ v) W'):GoM P maps E Fz Arg W0 (AtEnd P Post) φ [] (Fr f t (.code .ret :: k)) [] W:=by
 refine GoM.ctl (fr':={ fn:=f,tmps:=t,todo:=.code .ret :: k,defers:=[],mode:=.returning,kind:=.normal,roundOf:=none }) (fun D h=>?_) (fun ρ W'=>?_) (GoM.done rfl rfl rfl rfl hin hf hv fun ρ D own A W' h=>hp ρ D own A _ W' h)
 ·simp only [supF,zab,Frame.mk.injEq] at h ⊢
  exact h
 ·have:=stepG_ret' (P:=P) (main:=true) (b:=zab ρ (Fr f t [])) (a:=⟨t.map (ren ρ),[]⟩) (k:=k.map (zal ρ)) (cs:=[]) (w:=W')
  exact this
theorem Mn.outside {Post:Value→World→Prop} {own A:Nat→Prop} {g:Goroutine} {W:World} (h:Mn P (AtEnd P Post) φ pend own A g W):∀ {o:Os} {u:_},W.os=o→W.output=u→Mn P (AtEnd P fun v W'=>Post v W'∧W'.os=o∧W'.output=u) φ pend own A g W:=by
 induction h with
 | done hr h =>
  intro o u e1 e2
  refine .done hr fun W' he=>?_
  obtain⟨v,es,a,b,c⟩:=h W' he
  exact⟨v,es,a,b,c,he.os.trans e1,he.output.trans e2⟩
 | step hr h1 h2 ih =>
  intro o u e1 e2
  refine .step hr h1 fun W' g' W1 es he hs=>?_
  obtain⟨g2,W2,es2,hg,hd,_⟩:=h1 W' he
  rw [hs] at hg
  cases hg
  exact ih W' g' W1 es he hs (hd.os.trans (he.os.trans e1)) (hd.output.trans (he.output.trans e2))
 | phase hr ph' hon ho hc _ ih=>exact fun e1 e2=>.phase hr ph' hon ho hc (ih e1 e2)
 | reclaim hr own2 h2 _ ih=>exact fun e1 e2=>.reclaim hr own2 h2 (ih e1 e2)
 | spawn hr hon k Ac hAc hcap h1 h2 ih =>
  exact fun e1 e2=>.spawn hr hon k Ac hAc hcap h1 fun W' g' ch he hs=>ih W' g' ch he hs (he.os.trans e1) (he.output.trans e2)
 | recv hr hon hp z ok h1 h2 ih =>
  exact fun e1 e2=>.recv hr hon hp z ok h1 fun W' W'' g2 k ownk Ak v Wk he hs he2 a b c d=>ih W' W'' g2 k ownk Ak v Wk he hs he2 a b c d (he2.os.trans (he.os.trans e1)) (he2.output.trans (he.output.trans e2))
structure Left (W W' : World):Prop where
 size:W.heap.size≤W'.heap.size
 heap:∀ x,x<W.heap.size→W'.heap[x]?=W.heap[x]?
 os:W'.os=W.os
 output:W'.output=W.output
theorem GoM.begin {D:Nat→Prop} {c:Nat→Value} {v:Value} (hv:∀ ρ:Rn,ren ρ v=v) {fr:Frame} {W:World} (hG:∀ b,b<P.globals.size→D b) (hD:∀ b,D b→∃ cs e fz,W.heap[b]?=some (.cells cs e fz))
  (hc:∀ v∈zcX W,∃ x,c x=v) (htok:∀ x,c (2 * x)=.chan (some x)) (hs:supF P D E fr) (hfr:zab (zcw c) fr=fr) (hed:EmptyDef (zb6 P c D W))
  (hg:∀ Post:Value→World→Prop,(∀ ρ D' own A fr' W1 W',Here P true E D (fun x=>x<W.heap.size) W ρ D' own A fr' [] W1 W'∨(∃ Fz1,Here P true E Fz1 (fun x=>x<W.heap.size) W ρ D' own A fr' [] W1 W')→Post (ren ρ v) W') →
   GoM P true E D (fun x=>x<W.heap.size) W (AtEnd P Post) ⟨false,0,0,fun _ _ _ _ _=>False⟩ [] fr [] (zb6 P c D W)):Fin P (fun u W'=>u=v∧Left W W') (solo (G fr []) W) #[]:=by
 have hsim:=zjH (maps:=true) (E:=E) hG hD hc hs
 have hm:=hg (fun u W'=>u=v∧W.heap.size≤W'.heap.size∧∀ x,x<W.heap.size→W'.heap[x]?=W.heap[x]?) (fun ρ D' own A fr' W1 W' h=>by
  refine⟨hv ρ,?_⟩
  rcases h with h | ⟨Fz1,h⟩
  ·exact⟨h.far.1,fun x hx=>(h.keep x hx).2.2.2⟩
  ·exact⟨h.far.1,fun x hx=>(h.keep x hx).2.2.2⟩) (zcw c) D (fun _=>False) (fun x=>x<W.heap.size) W ⟨hsim,fun b hb hz=>(hz hb).elim,fun b hb=>?_,fun x hx=>⟨hx,id,hx,rfl⟩,hed,htok,fun x hx=>?_,Nat.le_refl _,fun b hb=>?_⟩
 ·have e:gor (zcw c) fr []=G fr []:=by unfold gor;rw [hfr];rfl
  rw [e] at hm
  obtain⟨N,last,o,w',t',h1,h2,h3,h4⟩:=zgv (Mn.outside hm rfl rfl) (fun _ h=>h.elim) fun b hb=>hb
  obtain⟨u,x,⟨⟨a,b,c⟩,d,e⟩,z⟩:=h4
  exact⟨N,last,o,w',t',h1,h2,h3,u,x,⟨a,b,c,d,e⟩,z⟩
 ·have:=hsim.bd b (hsim.lt b hb)
  exact this
 ·exact .inr (by rw [zcZ] at hx;exact hx)
 ·obtain⟨cs,e,fz,h⟩:=hD b hb
  exact .inl ⟨cs,e,fz,h⟩
end
end Go.Con
namespace Go.Con
open Go Go.Conc
def Alike (N:Nat) (ρ σ:Rn):Prop:=ρ.p=σ.p∧ρ.o=σ.o∧∀ y,y<N→ρ.c y=σ.c y
def TB (N:Nat) (v:Value):Prop:=∀ ρ σ:Rn,Alike N ρ σ→ren ρ v=ren σ v
theorem Alike.mono {N M:Nat} {ρ σ:Rn} (h:Alike M ρ σ) (hle:N≤M):Alike N ρ σ:=⟨h.1,h.2.1,fun y hy=>h.2.2 y (by omega)⟩
theorem TB.mono {N M:Nat} {v:Value} (h:TB N v) (hle:N≤M):TB M v:=fun ρ σ k=>h ρ σ (k.mono hle)
theorem Alike.addr {N:Nat} {ρ σ:Rn} (h:Alike N ρ σ):zak ρ=zak σ:=by
 funext a;simp [zak,h.1]
theorem Alike.fn {N:Nat} {ρ σ:Rn} (h:Alike N ρ σ):zd6 ρ=zd6 σ:=by
 funext f;cases f<;>simp [zd6,h.1,h.2.1]
theorem zmO {α:Type} {p:Nat→α→Prop} (mono:∀ N M a,p N a→N≤M→p M a):∀ l:List α,(∀ a∈l,∃ N,p N a)→∃ N,∀ a∈l,p N a
 | [],_=>⟨0,fun a ha=>(List.not_mem_nil ha).elim⟩
 | x :: l,h=>by
  obtain⟨N,hN⟩:=h x (List.mem_cons_self ..)
  obtain⟨M,hM⟩:=zmO mono l fun a ha=>h a (List.mem_cons_of_mem _ ha)
  refine⟨max N M,fun a ha=>?_⟩
  rcases List.mem_cons.1 ha with rfl | ha
  ·exact mono _ _ _ hN (Nat.le_max_left ..)
  ·exact mono _ _ _ (hM a ha) (Nat.le_max_right ..)
mutual
theorem zpq:∀ v:Value,∃ N,TB N v
 | .pointer a=>⟨0,fun ρ σ h=>by simp only [ren,h.addr]⟩
 | .slice a n c=>⟨0,fun ρ σ h=>by simp only [ren,h.addr]⟩
 | .map r=>⟨0,fun ρ σ h=>by simp only [ren,h.1]⟩
 | .chan none=>⟨0,fun ρ σ h=>by simp only [ren]⟩
 | .chan (some x)=>⟨x+1,fun ρ σ h=>by simp only [ren,h.2.2 x (by omega)]⟩
 | .func fn a b=>by
  obtain⟨N,hN⟩:=zj3 a
  obtain⟨M,hM⟩:=zj3 b
  cases hi:zem fn a b with
  | some x=>exact⟨x+1,fun ρ σ h=>by simp only [ren,hi,h.2.2 x (by omega)]⟩
  | none=>exact⟨max N M,fun ρ σ h=>by simp only [ren,hi,h.fn,hN ρ σ (h.mono (Nat.le_max_left ..)),hM ρ σ (h.mono (Nat.le_max_right ..))]⟩
 | .iface t v=>by
  obtain⟨N,hN⟩:=zpq v
  exact⟨N,fun ρ σ h=>by simp only [ren,hN ρ σ h]⟩
 | .agg cs=>by
  obtain⟨N,hN⟩:=zj3 cs
  exact⟨N,fun ρ σ h=>by simp only [ren,hN ρ σ h]⟩
 | .tuple cs=>by
  obtain⟨N,hN⟩:=zj3 cs
  exact⟨N,fun ρ σ h=>by simp only [ren,hN ρ σ h]⟩
 | .bool _=>⟨0,fun ρ σ h=>by simp only [ren]⟩
 | .int ..=>⟨0,fun ρ σ h=>by simp only [ren]⟩
 | .float ..=>⟨0,fun ρ σ h=>by simp only [ren]⟩
 | .complex ..=>⟨0,fun ρ σ h=>by simp only [ren]⟩
 | .string _=>⟨0,fun ρ σ h=>by simp only [ren]⟩
 | .nilFunc=>⟨0,fun ρ σ h=>by simp only [ren]⟩
 | .nilIface=>⟨0,fun ρ σ h=>by simp only [ren]⟩
theorem zj3:∀ a:Array Value,∃ N,∀ ρ σ:Rn,Alike N ρ σ→renA ρ a=renA σ a
 | ⟨l⟩=>by
  obtain⟨N,hN⟩:=zpE l
  exact⟨N,fun ρ σ h=>by simp only [renA,hN ρ σ h]⟩
theorem zpE:∀ l:List Value,∃ N,∀ ρ σ:Rn,Alike N ρ σ→renL ρ l=renL σ l
 | []=>⟨0,fun ρ σ h=>by simp only [renL]⟩
 | v :: l=>by
  obtain⟨N,hN⟩:=zpq v
  obtain⟨M,hM⟩:=zpE l
  exact⟨max N M,fun ρ σ h=>by simp only [renL,hN ρ σ (h.mono (Nat.le_max_left ..)),hM ρ σ (h.mono (Nat.le_max_right ..))]⟩
end
theorem zcv (a:Array Value):∃ N,∀ ρ σ:Rn,Alike N ρ σ→a.map (ren ρ)=a.map (ren σ):=by
 obtain⟨N,hN⟩:=zj3 a
 exact⟨N,fun ρ σ h=>by rw [← zaD,← zaD];exact hN ρ σ h⟩
theorem zqS (t:Target):∃ N,∀ ρ σ:Rn,Alike N ρ σ→zbw ρ t=zbw σ t:=by
 cases t with
 | fn f c =>
  obtain⟨N,hN⟩:=zcv c
  exact⟨N,fun ρ σ h=>by simp only [zbw,h.fn,hN ρ σ h]⟩
 | nil=>exact⟨0,fun ρ σ h=>rfl⟩
 | builtin=>exact⟨0,fun ρ σ h=>rfl⟩
 | collected r=>exact⟨0,fun ρ σ h=>by simp only [zbw,h.1]⟩
 | coroexit c=>exact⟨0,fun ρ σ h=>by simp only [zbw,h.1]⟩
theorem zn9 (d:Deferred):∃ N,∀ ρ σ:Rn,Alike N ρ σ→zaE ρ d=zaE σ d:=by
 obtain⟨N,hN⟩:=zqS d.target
 obtain⟨M,hM⟩:=zcv d.args
 exact⟨max N M,fun ρ σ h=>by simp only [zaE,hN ρ σ (h.mono (Nat.le_max_left ..)),hM ρ σ (h.mono (Nat.le_max_right ..))]⟩
theorem zqQ (it:Item):∃ N,∀ ρ σ:Rn,Alike N ρ σ→zal ρ it=zal σ it:=by
 cases it with
 | inRangeFunc l=>exact⟨0,fun ρ σ h=>by simp only [zal,h.1]⟩
 | endRangeFunc l=>exact⟨0,fun ρ σ h=>by simp only [zal,h.1]⟩
 | call d w r s =>
  obtain⟨N,hN⟩:=zn9 d
  obtain⟨M,hM⟩:=zcv s
  exact⟨max N M,fun ρ σ h=>by simp only [zal,hN ρ σ (h.mono (Nat.le_max_left ..)),hM ρ σ (h.mono (Nat.le_max_right ..))]⟩
 | extern row args =>
  obtain⟨N,hN⟩:=zcv args
  exact⟨N,fun ρ σ h=>by simp only [zal,hN ρ σ h]⟩
 | _=>exact⟨0,fun ρ σ h=>rfl⟩
theorem zdN {α β:Type} {f:Rn→α→β} (h:∀ a,∃ N,∀ ρ σ:Rn,Alike N ρ σ→f ρ a=f σ a) (l:List α):∃ N,∀ ρ σ:Rn,Alike N ρ σ→l.map (f ρ)=l.map (f σ):=by
 obtain⟨N,hN⟩:=zmO (p:=fun N a=>∀ ρ σ:Rn,Alike N ρ σ→f ρ a=f σ a) (fun N M a h hle ρ σ k=>h ρ σ (k.mono hle)) l fun a _=>h a
 exact⟨N,fun ρ σ k=>List.map_congr_left fun a ha=>hN a ha ρ σ k⟩
theorem zpD (fr:Frame):∃ N,∀ ρ σ:Rn,Alike N ρ σ→zab ρ fr=zab σ fr:=by
 obtain⟨N1,h1⟩:=zcv fr.tmps
 obtain⟨N2,h2⟩:=zdN (f:=zal) zqQ fr.todo
 obtain⟨N3,h3⟩:=zdN (f:=zaE) zn9 fr.defers
 refine⟨max N1 (max N2 N3),fun ρ σ h=>?_⟩
 have e1:=h1 ρ σ (h.mono (by omega))
 have e2:=h2 ρ σ (h.mono (by omega))
 have e3:=h3 ρ σ (h.mono (by omega))
 simp only [zab,e1,e2,e3,h.1]
theorem zqP (e:MapEntry):∃ N,∀ ρ σ:Rn,Alike N ρ σ→zaz ρ e=zaz σ e:=by
 obtain⟨N,hN⟩:=zpq e.key
 obtain⟨M,hM⟩:=zpq e.val
 exact⟨max N M,fun ρ σ h=>by simp only [zaz,hN ρ σ (h.mono (Nat.le_max_left ..)),hM ρ σ (h.mono (Nat.le_max_right ..))]⟩
theorem zqR (o:Obj):∃ N,∀ ρ σ:Rn,Alike N ρ σ→zau ρ o=zau σ o:=by
 cases o with
 | cells c e fz=>obtain⟨N,hN⟩:=zcv c;exact⟨N,fun ρ σ h=>by simp only [zau,hN ρ σ h]⟩
 | pending c e=>obtain⟨N,hN⟩:=zcv c;exact⟨N,fun ρ σ h=>by simp only [zau,hN ρ σ h]⟩
 | view a t=>exact⟨0,fun ρ σ h=>by simp only [zau,h.addr]⟩
 | number a l=>exact⟨0,fun ρ σ h=>by simp only [zau,h.addr]⟩
 | map es c =>
  obtain⟨N,hN⟩:=zdN (f:=zaz) zqP es.toList
  exact⟨N,fun ρ σ h=>by
   have:=hN ρ σ h
   have e:es.map (zaz ρ)=es.map (zaz σ):=by
    apply Array.ext'
    simpa using this
   simp only [zau,e]⟩
 | chan cap buf cl s r tm=>obtain⟨N,hN⟩:=zcv buf;exact⟨N,fun ρ σ h=>by simp only [zau,hN ρ σ h]⟩
 | stringIter=>exact⟨0,fun ρ σ h=>rfl⟩
 | mapIter m a b c=>exact⟨0,fun ρ σ h=>by simp only [zau,h.1]⟩
 | loop l=>obtain⟨N,hN⟩:=zcv l.tmps;exact⟨N,fun ρ σ h=>by simp only [zau,zcU,hN ρ σ h,h.1]⟩
 | deferred c =>
  cases c with
  | none=>exact⟨0,fun ρ σ h=>rfl⟩
  | some l=>obtain⟨N,hN⟩:=zdN (f:=zaE) zn9 l;exact⟨N,fun ρ σ h=>by simp only [zau,Option.map_some,hN ρ σ h]⟩
 | coro p=>exact⟨0,fun ρ σ h=>rfl⟩
 | finalizers f r=>exact⟨0,fun ρ σ h=>rfl⟩
def Rn.upd (ρ:Rn) (x:Nat) (v:Value):Rn:=⟨ρ.p,fun y=>if y=x then v else ρ.c y,ρ.o⟩
theorem zoa {ρ:Rn} {x N:Nat} {v:Value} (h:N≤x):Alike N (ρ.upd x v) ρ:=⟨rfl,rfl,fun y hy=>by simp only [Rn.upd];rw [if_neg (by omega)]⟩
variable [Lone]
theorem Here.fresh {P:Program} {maps:Bool} {E Fz Arg:Nat→Prop} {W0:World} {ρ:Rn} {D own A:Nat→Prop} {fr:Frame} {cs:List Frame} {W W' : World} (h:Here P maps E Fz Arg W0 ρ D own A fr cs W W') (v:Value) :
  ∃ x,(ρ.upd x v).c x=v∧zab (ρ.upd x v) fr=zab ρ fr∧cs.map (zab (ρ.upd x v))=cs.map (zab ρ)∧Here P maps E Fz Arg W0 (ρ.upd x v) D own A fr cs W W':=by
 obtain⟨N1,h1⟩:=zpD fr
 obtain⟨N2,h2⟩:=zdN (f:=zab) zpD cs
 obtain⟨N3,h3⟩:=zmO (p:=fun N o=>∀ ρ σ:Rn,Alike N ρ σ→zau ρ o=zau σ o) (fun N M a h hle ρ σ k=>h ρ σ (k.mono hle)) W.heap.toList fun o _=>zqR o
 generalize hx:2 * (N1+N2+N3)+1=x
 have al:∀ N,N≤N1+N2+N3→Alike N (ρ.upd x v) ρ:=fun N hN=>zoa (by omega)
 have hobj:∀ b o,W.heap[b]?=some o→zau (ρ.upd x v) o=zau ρ o:=fun b o ho=>h3 o (Array.mem_toList_iff.2 (Array.mem_of_getElem? ho)) _ _ (al _ (by omega))
 refine⟨x,by simp [Rn.upd],h1 _ _ (al _ (by omega)),h2 _ _ (al _ (by omega)),⟨⟨⟨h.sim.rok.inj,h.sim.rok.fix,h.sim.rok.fixo⟩,h.sim.hG,h.sim.lt,h.sim.bd,h.sim.fz,h.sim.sup,h.sim.sups,h.sim.os,h.sim.output,fun b o hb ho=>?_,h.sim.supo⟩,h.hown,h.hA,h.keep,h.ed,fun y=>?_,h.junk,h.far⟩⟩
 ·obtain⟨o',ho',hr⟩:=h.sim.obj b o hb ho
  refine⟨o',ho',?_⟩
  have e:=hobj b o ho
  cases hr with
  | frozen hf c t fz =>
   have e2:c.map (ren (ρ.upd x v))=c.map (ren ρ):=by
    have e3:Obj.cells (c.map (ren (ρ.upd x v))) t (0,c.size)=Obj.cells (c.map (ren ρ)) t (0,c.size):=e
    injection e3
   rw [← e2];exact .frozen hf c t fz
  | still hf k1 k2=>rw [← e];exact .still hf k1 k2
  | own hf=>rw [← e];exact .own hf
 ·show (if 2 * y=x then v else ρ.c (2 * y))=_
  rw [if_neg (by omega)]
  exact h.tok y
end Go.Con
namespace Go.Con
open Go Go.Conc
theorem Gm.fork [L:Lone] {P:Program} {maps:Bool} {E Fz Arg roots X:Nat→Prop} {W0 W:World} {Q:(Nat→Prop)→(Nat→Prop)→Goroutine→World→Prop} {φ:Ph} {pend:List Nat} {f:FuncId} {t:Array Value} {k:List Item} {cs:List Frame}
  {ops:Array Oper} {i j d:Nat} {rest:List Nat} {o o2:Oper} {c:Call} {g:FuncId} {fn:Func} {body:Code} {xs:Array Operand} {captured:Array Value} (kk:Nat) (ho:ops[i]?=some o) (hw:Region.wanted o (yielded ops t)=true) (hd:o.dst=some d) (hdt:d<t.size)
  (hrun:∀ (e:Operand→Value) (w:World),(execOp e o).run P w=.ok (.value (.func (.func g) #[] (xs.map e))) w∧(execOp e o).events P w #[]=#[]) (hxs:xs.all (zaS P)=true) (hcv:xs.map (Fr f t []).eval=captured)
  (ho2:ops[j]?=some o2) (hg2:o2.guard=none) (hop:o2.op=.go c) (hc:c.callee=.value (.tmp d)) (hargs:c.args=#[]) (hd2:o2.dst=none)
  (hon:φ.on=true) (hcap:φ.cap=0∨pend.length<φ.cap)
  (hcapt:∀ v∈captured,∃ b,v=.pointer (some ⟨b,0,none⟩)∧roots b) (hroot:∀ b,roots b→∃ (j o:Nat) (s:Option Nat),t[j]?=some (Value.pointer (some (⟨b,o,s⟩:Addr)))) (hkd:∀ b,Rch W P.globals.size roots X b→zql maps W b)
  (hf:P.funcs[g]?=some fn) (hb:fn.body=some body) (hn:(fn.name == "runtime.NumGoroutine")=false)
  (hwork:∀ Wc,CutOf (Rch W P.globals.size roots X) W Wc→GoW P maps (fun _=>False) (Rch W P.globals.size roots X) W0.heap.size φ.c (φ.posts kk) (Fr g (captured++Array.replicate (fn.ntmps-captured.size) undef) [.code body]) Wc)
  (hg:∀ u:Value,GoM P maps E (fun b=>Fz b∨Rch W P.globals.size roots X b) Arg W0 Q φ (kk :: pend) (Fr f (putD t (some d) u) (.inRegion ops rest :: k)) cs (zb9 (Rch W P.globals.size roots X) W)) :
  GoM P maps E Fz Arg W0 Q φ pend (Fr f t (.inRegion ops (i :: j :: rest) :: k)) cs W:=by
 have hD:∀ ρ D own A W',Here P maps E Fz Arg W0 ρ D own A (Fr f t (.inRegion ops (i :: j :: rest) :: k)) cs W W'→∀ b,Rch W P.globals.size roots X b→D b:=fun ρ D own A W' h b hb=>h.reach hroot hb
 intro ρ D own A W' hh
 generalize hcl:Value.func (.func g) #[] (captured.map (ren ρ))=cl
 have hval:xs.map (⟨t.map (ren ρ),[]⟩:Go.Act).eval=captured.map (ren ρ):=by
  rw [← hcv,Array.map_map]
  apply Array.map_congr_left
  intro x hx
  have h1:=zcf hh.sim.rok (fr:=Fr f t []) x (Array.all_eq_true_iff_forall_mem.1 hxs x hx)
  rw [Function.comp_apply,← h1]
  cases x<;>rfl
 generalize ha0:(⟨t.map (ren ρ),[]⟩:Go.Act)=a0 at hval
 have hda0:a0.defers=[]:=by rw [← ha0]
 have hta0:a0.tmps=t.map (ren ρ):=by rw [← ha0]
 generalize ha1:a0.put (some d) cl=a1
 have hta1:a1.tmps=(t.map (ren ρ)).setIfInBounds d cl:=by rw [← ha1];show a0.tmps.setIfInBounds d cl=_;rw [hta0]
 have hda1:a1.defers=[]:=by rw [← ha1];exact hda0
 generalize hb0:zab ρ (Fr f t [])=b0
 have hkb:b0.kind≠.early:=by rw [← hb0];simp [zab]
 have key:∀ W2:World,stepG P true (gor ρ (Fr f t (.inRegion ops (i :: j :: rest) :: k)) cs) W2=.go (G (b0.at a1 (.inRegion ops (j :: rest) :: k.map (zal ρ))) (cs.map (zab ρ))) W2 #[]:=by
  intro W2
  obtain⟨h1,h2⟩:=hrun a0.eval W2
  rw [hval,hcl] at h1
  have hst:=stepG_value (P:=P) (main:=true) (b:=b0) (a:=a0) (k:=k.map (zal ρ)) (cs:=cs.map (zab ρ)) (w:=W2) (rest:=j :: rest) ho (by rw [hta0,show yielded ops (t.map (ren ρ))=yielded ops t from funext fun j=>zce j];exact hw) hkb h1
  have hl:listed P b0.fn a0 o W2=#[]:=by
   unfold listed
   rw [h2];rfl
  rw [hl,hd,ha1] at hst
  refine Eq.trans ?_ hst
  have e:gor ρ (Fr f t (.inRegion ops (i :: j :: rest) :: k)) cs=G (b0.at a0 (.inRegion ops (i :: j :: rest) :: k.map (zal ρ))) (cs.map (zab ρ)):=by
   rw [← hb0,← ha0]
   rfl
  rw [e]
 have key2:∀ W2:World,stepG P true (G (b0.at a1 (.inRegion ops (j :: rest) :: k.map (zal ρ))) (cs.map (zab ρ))) W2=.spawn (G (b0.at a1 (.inRegion ops rest :: k.map (zal ρ))) (cs.map (zab ρ))) (born P { target:=.fn (.func g) (captured.map (ren ρ)),args:=#[] }) W2 #[]:=by
  intro W2
  have hev:a1.eval (.tmp d)=cl:=by
   show a1.tmps.getD d undef=cl
   rw [hta1]
   simp [hdt]
  have hex:(execOp a1.eval o2)=pure (.spawn { target:=.fn (.func g) (captured.map (ren ρ)),args:=#[] }):=by
   unfold execOp
   rw [hop]
   dsimp only
   unfold resolve
   rw [hc,hargs]
   dsimp only
   rw [hev,← hcl,Array.map_empty]
   rfl
  have hst:=stepG_spawn (P:=P) (main:=true) (b:=b0) (a:=a1) (k:=k.map (zal ρ)) (cs:=cs.map (zab ρ)) (w:=W2) (rest:=rest) (w':=W2) (f:=.func g) (c:=captured.map (ren ρ)) ho2 (by unfold Region.wanted;rw [hg2]) hkb (by rw [hex];rfl) rfl
  have hl:listed P b0.fn a1 o2 W2=#[]:=by
   unfold listed
   rw [hex];rfl
  rw [hl,hd2] at hst
  exact hst
 refine Mn.ctl rfl rfl key ?_
 have hwk:∀ W2,Here P maps E Fz Arg W0 ρ D own A (Fr f t (.inRegion ops (i :: j :: rest) :: k)) cs W W2→Wk P φ.c (φ.posts kk) (fun _=>False) (fun x=>∃ b,Rch W P.globals.size roots X b∧ρ.p b=x) (born P { target:=.fn (.func g) (captured.map (ren ρ)),args:=#[] }) W2:=by
  intro W2 h
  obtain⟨ρ',Wc,h1,h2,h3,h4⟩:=zh7 ⟨L,L⟩ (fun _ h=>h) (E2:=fun _=>False) h (hD _ _ _ _ _ h) (fun b o hb hbo=>by
   rcases hkd b hb with ⟨c,e,fz,h1⟩ | ⟨hm,es,k,h1⟩
   ·rw [hbo] at h1;cases h1;exact .inl ⟨_,_,_,rfl⟩
   ·rw [hbo] at h1;cases h1;exact .inr ⟨hm,_,_,rfl⟩) (fun b hb=>.glob hb) (g:=g) (cap:=captured) (fun v hvm=>by
   obtain⟨b,e,hr⟩:=hcapt v hvm
   exact⟨b,e,.root hr⟩)
  rw [← h2]
  refine GoW.born hf (by simp [hb]) hn h4 ?_
  rw [zez (args:=captured) hf hb]
  exact hwork Wc h1
 refine .spawn rfl hon kk (fun x=>∃ b,Rch W P.globals.size roots X b∧ρ.p b=x) (fun x ⟨b,h1,h2⟩=>h2 ▸ hh.hA b (hD _ _ _ _ _ hh b h1)) hcap (fun W2 he=>⟨_,_,key2 W2,rfl,hwk W2 (hh.env he)⟩) fun W2 g' ch he hs=>?_
 rw [key2 W2] at hs
 cases hs
 have h2:=hh.env he
 have h3:=h2.freeze (Ac:=Rch W P.globals.size roots X) (own2:=fun b=>own b∧¬ ∃ b',Rch W P.globals.size roots X b'∧ρ.p b'=b) (fun b hb=>hD _ _ _ _ _ hh b hb) (fun b o hb hbo=>by
  rcases hkd b hb with ⟨c,e,fz,h1⟩ | ⟨hm,es,k,h1⟩<;>(rw [hbo] at h1;cases h1;first | rfl | (rw [hm];rfl))) (fun b hb hz hc=>⟨h2.hown b hb hz,fun ⟨b',e1,e2⟩=>hc (h2.sim.rok.inj _ _ e2 ▸ e1)⟩) (fun x h=>h.1)
 have h4:=h3.frames (fr1:=Fr f t (.inRegion ops rest :: k)) (by
  have:=h3.sim.sup
  simp only [supF,zab,List.map_cons,zal,Frame.mk.injEq,List.cons.injEq,true_and,and_true] at this ⊢
  exact this) h3.sim.sups
 obtain⟨x,hx,hfr,hcs,h5⟩:=h4.fresh cl
 have hcell:ren (ρ.upd x cl) (.chan (some x))=cl:=by
  simp only [ren]
  rw [hx,← hcl]
  rfl
 have h6:=h5.frames (fr1:=Fr f (putD t (some d) (.chan (some x))) (.inRegion ops rest :: k)) (by
  have h7:=h5.sim.sup
  simp only [supF,zab,List.map_cons,zal,Frame.mk.injEq,List.cons.injEq,true_and,and_true,putD] at h7 ⊢
  refine⟨?_,h7.2⟩
  rw [Array.map_setIfInBounds,Array.map_setIfInBounds,h7.1]
  rfl) h5.sim.sups
 have:=hg (.chan (some x)) _ _ _ _ _ h6
 have e:gor (ρ.upd x cl) (Fr f (putD t (some d) (.chan (some x))) (.inRegion ops rest :: k)) cs=G (b0.at a1 (.inRegion ops rest :: k.map (zal ρ))) (cs.map (zab ρ)):=by
  unfold gor
  rw [hcs]
  have e1:zab (ρ.upd x cl) (Fr f (putD t (some d) (.chan (some x))) (.inRegion ops rest :: k))=b0.at a1 (.inRegion ops rest :: k.map (zal ρ)):=by
   rw [← hb0]
   simp only [zab,List.map_cons,zal,Frame.mk.injEq,List.cons.injEq,true_and,and_true] at hfr
   simp only [zab,Frame.at,hta1,hda1,putD,Array.map_setIfInBounds,hcell,List.map_cons,List.map_nil,zal,hfr.1,Frame.mk.injEq,List.cons.injEq,true_and,and_true]
   exact⟨hfr.2.1,rfl⟩
  rw [e1]
  rfl
 rw [e] at this
 exact this
end Go.Con
