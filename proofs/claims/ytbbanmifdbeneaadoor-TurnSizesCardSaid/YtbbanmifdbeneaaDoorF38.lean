import Derived.Test.YtbbanmifdbeneaaDoorF28
set_option linter.all false
namespace Go.Con
open Go Go.Conc
variable [Lone]
section
variable {P:Program} {maps:Bool} {E Fz Arg:Nat→Prop} {W0:World} {f:FuncId} {t:Array Value} {k:List Item} {cs:List Frame} {W:World}
variable {Q:(Nat→Prop)→(Nat→Prop)→Goroutine→World→Prop} {φ:Ph} {pend:List Nat}
def zo0 (P:Program) (F:Fence):List Code→(Array Value→World→Prop)→Array Value→World→Prop
 | [],R,t,W=>R t W
 | x :: l,R,t,W=>∀ τ:Tape,x.wpIn F 0 P (fun e a w'=>e=.normal∧a.defers=[]∧zo0 P F l R a.tmps w') ⟨t,[]⟩ { W with tape:=τ }
theorem Gm.done {fn:Func} {v:Value} {Post:Value→World→Prop} (hf:P.funcs[f]?=some fn) (hin:P.inits.idxOf? f=none) (hv:∀ σ:Rn,ResultsC P fn (t.map (ren σ)) (ren σ v))
  (hp:∀ ρ D own A fr W',Here P maps E Fz Arg W0 ρ D own A fr [] W W'→Post (ren ρ v) W'):GoM P maps E Fz Arg W0 (AtEnd P Post) φ [] (Fr f t (.code .ret :: k)) [] W:=by
 refine GoM.ctl (fr':={ fn:=f,tmps:=t,todo:=.code .ret :: k,defers:=[],mode:=.returning,kind:=.normal,roundOf:=none }) (fun D h=>?_) (fun ρ W'=>?_) (GoM.done rfl rfl rfl rfl hin hf hv fun ρ D own A W' h=>hp ρ D own A _ W' h)
 ·simp only [supF,zaa,Frame.mk.injEq] at h ⊢
  exact h
 ·have:=stepG_ret' (P:=P) (main:=true) (b:=zaa ρ (Fr f t [])) (a:=⟨t.map (ren ρ),[]⟩) (k:=k.map (zal ρ)) (cs:=[]) (w:=W')
  exact this
theorem Mn.outside {Post:Value→World→Prop} {own A:Nat→Prop} {g:Goroutine} {W:World} (h:Mn P (AtEnd P Post) φ pend own A g W):∀ {o:Os} {u:_},W.os=o→W.output=u→Mn P (AtEnd P fun v W'=>Post v W'∧W'.os=o∧W'.output=u) φ pend own A g W:=by
 induction h with
 | done hr h =>
  intro o u e1 e2;refine .done hr fun W' he=>?_;obtain⟨v,es,a,b,c⟩:=h W' he;exact⟨v,es,a,b,c,he.os.trans e1,he.output.trans e2⟩
 | step hr h1 h2 ih =>
  intro o u e1 e2;refine .step hr h1 fun W' g' W1 es he hs=>?_;obtain⟨g2,W2,es2,hg,hd,_⟩:=h1 W' he;rw [hs] at hg;cases hg
  exact ih W' g' W1 es he hs (hd.os.trans (he.os.trans e1)) (hd.output.trans (he.output.trans e2))
 | phase hr ph' hon ho hc _ ih=>exact fun e1 e2=>.phase hr ph' hon ho hc (ih e1 e2)
 | reclaim hr own2 h2 _ ih=>exact fun e1 e2=>.reclaim hr own2 h2 (ih e1 e2)
 | spawn hr hon k Ac hAc hcap h1 h2 ih =>
  exact fun e1 e2=>.spawn hr hon k Ac hAc hcap h1 fun W' g' ch he hs=>ih W' g' ch he hs (he.os.trans e1) (he.output.trans e2)
 | recv hr hon hp z ok h1 h2 ih =>
  exact fun e1 e2=>.recv hr hon hp z ok h1 fun W' W'' g2 k ownk Ak v Wk he hs he2 a b c d=>ih W' W'' g2 k ownk Ak v Wk he hs he2 a b c d (he2.os.trans (he.os.trans e1)) (he2.output.trans (he.output.trans e2))
structure Left (W W' : World):Prop where
 size:W.heap.size≤W'.heap.size
 heap:∀ x,x<W.heap.size→W'.heap[x]?=W.heap[x]?
 os:W'.os=W.os
 output:W'.output=W.output
theorem GoM.begin {D:Nat→Prop} {c:Nat→Value} {v:Value} (hv:∀ ρ:Rn,ren ρ v=v) {fr:Frame} {W:World} (hk:∀ t,zbM P t=true) (hG:∀ b,b<P.globals.size→D b) (hD:∀ b,D b→∃ cs e fz,W.heap[b]?=some (.cells cs e fz))
  (hc:∀ v∈zdh W,∃ x,c x=v) (htok:∀ x,c (2 * x)=.chan (some x)) (hs:supF P D E fr) (hfr:zaa (zcI c) fr=fr) (hed:EmptyDef (zci P c D W))
  (hg:∀ Post:Value→World→Prop,(∀ ρ D' own A fr' W1 W',Here P true E D (fun x=>x<W.heap.size) W ρ D' own A fr' [] W1 W'∨(∃ Fz1,Here P true E Fz1 (fun x=>x<W.heap.size) W ρ D' own A fr' [] W1 W')→Post (ren ρ v) W') →
   GoM P true E D (fun x=>x<W.heap.size) W (AtEnd P Post) ⟨false,0,0,fun _ _ _ _ _=>False⟩ [] fr [] (zci P c D W)):Fin P (fun u W'=>u=v∧Left W W') (solo (G fr []) W) #[]:=by
 have hsim:=zi3 (maps:=true) (E:=E) hk hG hD hc hs;have hm:=hg (fun u W'=>u=v∧W.heap.size≤W'.heap.size∧∀ x,x<W.heap.size→W'.heap[x]?=W.heap[x]?) (fun ρ D' own A fr' W1 W' h=>by
  refine⟨hv ρ,?_⟩;rcases h with h | ⟨Fz1,h⟩
  ·exact⟨h.far.1,fun x hx=>(h.keep x hx).2.2.2⟩
  ·exact⟨h.far.1,fun x hx=>(h.keep x hx).2.2.2⟩) (zcI c) D (fun _=>False) (fun x=>x<W.heap.size) W ⟨hsim,fun b hb hz=>(hz hb).elim,fun b hb=>?_,fun x hx=>⟨hx,id,hx,rfl⟩,hed,htok,fun x hx=>?_,Nat.le_refl _,fun b hb=>?_⟩
 ·have e:gor (zcI c) fr []=G fr []:=by unfold gor;rw [hfr];rfl
  rw [e] at hm;obtain⟨N,last,o,w',t',h1,h2,h3,h4⟩:=zgE (Mn.outside hm rfl rfl) (fun _ h=>h.elim) fun b hb=>hb;obtain⟨u,x,⟨⟨a,b,c⟩,d,e⟩,z⟩:=h4;exact⟨N,last,o,w',t',h1,h2,h3,u,x,⟨a,b,c,d,e⟩,z⟩
 ·have:=hsim.bd b (hsim.lt b hb)
  exact this
 ·exact .inr (by rw [zcL] at hx;exact hx)
 ·obtain⟨cs,e,fz,h⟩:=hD b hb
  exact .inl ⟨cs,e,fz,h⟩
end
end Go.Con
