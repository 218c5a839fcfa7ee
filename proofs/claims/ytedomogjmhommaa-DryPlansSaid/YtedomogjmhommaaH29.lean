import Derived.Test.YtedomogjmhommaaH28
set_option linter.all false
set_option maxRecDepth 100000
set_option maxHeartbeats 8000000
namespace Go.Con
open Go
variable [Lone]
def isCells:Obj→Bool
 | .cells ..=>true
 | _=>false
inductive ObjR (ρ:Rn) (Fz:Nat→Prop) (mf:Md) (b:Nat):Obj→Obj→Prop
 | frozen (hf:Fz b) (c:Array Value) (e:TypeId) (fz:Nat×Nat):ObjR ρ Fz mf b (.cells c e (0,c.size)) (.cells (c.map (ren ρ)) e fz)
 | still {o:Obj} (hf:Fz b) (h1:isCells o=false) (h2:zdh mf o=false):ObjR ρ Fz mf b o (zau ρ o)
 | own {o:Obj} (hf:¬ Fz b):ObjR ρ Fz mf b o (zau ρ o)
structure WR (G:Gd) (ρ:Rn) (D E Fz:Nat→Prop) (mf:Md) (W W' : World):Prop where
 os:W'.os=W.os
 output:W'.output=W.output
 obj:∀ b o,D b→W.heap[b]?=some o→∃ o',W'.heap[ρ.p b]?=some o'∧ObjR ρ Fz mf b o o'
 none:∀ b,D b→W.heap[b]?=none→W'.heap[ρ.p b]?=none
 sup:∀ b o,D b→W.heap[b]?=some o→za8 G D E o∧zaG mf o=true∧zbm o=false
def EvOk (ρ:Rn) (D Fz:Nat→Prop) (e:Event):Prop :=
 (∃ a b,e.loc=.cell a∧e.sync=false∧D b∧a.block=ρ.p b∧(e.write=true→¬ Fz b)) ∨
 (∃ b,e.loc=.obj (ρ.p b)∧e.sync=false∧D b∧(e.write=true→¬ Fz b))∨e=⟨.mark .noRoom,false,true⟩
def Keeps (ρ:Rn) (D Fz:Nat→Prop) (W W' : World):Prop :=
 W.heap.size≤W'.heap.size∧∀ x,x<W.heap.size→(∀ b,D b→¬ Fz b→ρ.p b≠x)→W'.heap[x]?=W.heap[x]?
theorem Keeps.refl {ρ:Rn} {D Fz:Nat→Prop} {W:World}:Keeps ρ D Fz W W:=⟨Nat.le_refl _,fun _ _ _=>rfl⟩
theorem Keeps.trans {ρ:Rn} {D Fz:Nat→Prop} {A B C:World} (h:Keeps ρ D Fz A B) (h' : Keeps ρ D Fz B C):Keeps ρ D Fz A C :=
 ⟨Nat.le_trans h.1 h'.1,fun x hx hn=>(h'.2 x (Nat.lt_of_lt_of_le hx h.1) hn).trans (h.2 x hx hn)⟩
def zlJ (ρ:Rn) (D Fz:Nat→Prop) (W W' Wf:World):Prop :=
 ∀ b,W.heap.size≤b→b<Wf.heap.size→D b∧¬ Fz b∧ρ.p b+W.heap.size=W'.heap.size+b
section
variable {P:Program}
theorem zif {mf:Md} {W:World} {a:Addr} {m:Bool} (h:∀ o,W.heap[a.block]?=some o→zaG mf o=true):∃ e,W.farLoad P a m=.error e:=by
 unfold World.farLoad
 split
 ·rename_i h1;have:=h _ h1;simp [zaG] at this
 ·exact⟨_,rfl⟩
theorem zhl {mf:Md} {W:World} {a:Addr} {v:Value} {m:Bool} (h:∀ o,W.heap[a.block]?=some o→zaG mf o=true):∃ e,W.farStore P a v m=.error e:=by
 unfold World.farStore
 split
 ·rename_i h1;have:=h _ h1;simp [zaG] at this
 ·exact⟨_,rfl⟩
theorem size_setCell (W:World) (a:Addr) (v:Value):(W.setCell a v).heap.size=W.heap.size:=by simp [World.setCell]
theorem zbz (W:World) (a:Addr) (n:Nat):(W.freeze a n).heap.size=W.heap.size:=by unfold World.freeze;split<;>simp
theorem zaF {α:Type}:∀ {s:Sem α} {W:World},Dead P s→∀ a Wf,s.run P W≠.ok a Wf
 | .pure _,_,h,_,_=>h.elim
 | .load _ _ _,_,h,_,_=>h.elim
 | .store _ _ _ _,_,h,_,_=>h.elim
 | .getObj _ _,_,h,_,_=>h.elim
 | .setObj _ _ _,_,h,_,_=>h.elim
 | .sys _ _,_,h,_,_=>h.elim
 | .new o k,W,h,x,Wf=>by simp only [Sem.run];exact zaF (h.2 _) x Wf
 | .shape b k,W,h,x,Wf=>by simp only [Sem.run];exact zaF (h _) x Wf
 | .freeze a n k,W,h,x,Wf=>by simp only [Sem.run];exact zaF (s:=k) h x Wf
 | .frozen a k,W,h,x,Wf=>by simp only [Sem.run];exact zaF (h _) x Wf
 | .choose q k,W,h,x,Wf=>by
  simp only [Sem.run]
  split
  ·exact zaF (h _) x Wf
  ·exact zaF (h _) x Wf
 | .program k,W,h,x,Wf=>by simp only [Sem.run];exact zaF (s:=k P) h x Wf
 | .mark m k,W,h,x,Wf=>by simp only [Sem.run];exact zaF (s:=k) h x Wf
 | .halt _,W,_,x,Wf=>by simp [Sem.run]
def EmptyDef (W:World):Prop:=∀ (b:Nat) (o:Obj),W.heap[b]?=some o→zkB o=true
theorem EmptyDef.push {W:World} (h:EmptyDef W) {o:Obj} (ho:zkB o=true):EmptyDef { W with heap:=W.heap.push o }:=by
 intro b x hx
 by_cases e:b=W.heap.size
 ·subst e
  simp at hx
  rw [← hx];exact ho
 ·simp [Array.getElem?_push,e] at hx
  exact h b x hx
theorem EmptyDef.set {W W1:World} (h:EmptyDef W) {b:Nat} {o:Obj} (ho:zkB o=true)
  (h1:∀ x,x≠b→W1.heap[x]?=W.heap[x]?) (h2:∀ x,W1.heap[b]?=some x→x=o):EmptyDef W1:=by
 intro x y hx
 by_cases e:x=b
 ·subst e
  rw [h2 _ hx];exact ho
 ·rw [h1 x e] at hx
  exact h x y hx
theorem EmptyDef.freeze {W:World} (h:EmptyDef W) (a:Addr) (n:Nat):EmptyDef (W.freeze a n):=by
 unfold World.freeze
 split
 ·exact h
 ·intro b x hx
  simp only [Array.getElem?_modify] at hx
  split at hx
  ·cases ho:W.heap[b]? with
   | none=>rw [ho] at hx;cases hx
   | some o =>
    rw [ho] at hx
    have:=h b o ho
    simp only [Option.map_some,Option.some.injEq] at hx
    subst hx
    cases o<;>first | rfl | exact this
  ·exact h b x hx
theorem zbE {α:Type}:∀ {s:Sem α} {W:World},Dead P s→EmptyDef W→∃ hh Wf,s.run P W=.halt hh Wf∧zeb hh∧EmptyDef Wf
 | .pure _,_,h,_=>h.elim
 | .load _ _ _,_,h,_=>h.elim
 | .store _ _ _ _,_,h,_=>h.elim
 | .getObj _ _,_,h,_=>h.elim
 | .setObj _ _ _,_,h,_=>h.elim
 | .sys _ _,_,h,_=>h.elim
 | .new o k,W,h,hE=>by simp only [Sem.run];exact zbE (h.2 _) (hE.push h.1)
 | .shape b k,W,h,hE=>by simp only [Sem.run];exact zbE (h _) hE
 | .freeze a n k,W,h,hE=>by simp only [Sem.run];exact zbE (s:=k) h (hE.freeze a n)
 | .frozen a k,W,h,hE=>by simp only [Sem.run];exact zbE (h _) hE
 | .choose q k,W,h,hE=>by
  simp only [Sem.run]
  split
  ·exact zbE (h _) hE
  ·exact zbE (h _) (W:={ W with drawn:=W.drawn+1 }) hE
 | .program k,W,h,hE=>by simp only [Sem.run];exact zbE (s:=k P) h hE
 | .mark m k,W,h,hE=>by simp only [Sem.run];exact zbE (s:=k) h hE
 | .halt hh,W,h,hE=>⟨hh,W,rfl,h,hE⟩
theorem zhr {w w' : World} {at_:Addr} {u:TypeId} {k:Addr} {v:Value} {m:Bool} {l:List Addr} (h:w.viewStore P at_ u k v m=.ok (w',l)):w'.heap.size=w.heap.size:=by
 unfold World.viewStore at h
 simp only [bind,Except.bind,pure,Except.pure] at h
 repeat' (first | (split at h;done) | split at h)
 all_goals first | (cases h;done) | skip
 all_goals (simp only [Except.ok.injEq,Prod.mk.injEq] at h;obtain⟨rfl,_⟩:=h;simp)
theorem zih {w w' : World} {k:Addr} {v:Value} {m:Bool} {l:List Addr} (h:w.farStore P k v m=.ok (w',l)):w'.heap.size=w.heap.size:=by
 unfold World.farStore at h
 split at h
 ·split at h
  ·rename_i r hr
   cases h
   exact zhr hr
  ·cases h
 ·cases h
theorem zic {α:Type} {w w' : World}:∀ {s:Ask α} {a:α},w.ask s=(a,w')→w'.heap=w.heap
 | .done a,b,h=>by simp only [World.ask,Prod.mk.injEq] at h;rw [← h.2]
 | .ask what range k,b,h=>by
  simp only [World.ask] at h
  split at h
  ·exact zic h
  ·exact zic (w:={ w with drawn:=w.drawn+1 }) h
theorem zpo (w:World) (c:Sys):(w.sys c).2.heap=w.heap:=by
 unfold World.sys
 split
 ·rfl
 ·rename_i h
  have e:=zic h
  exact e
theorem za2 {α:Type}:∀ {s:Sem α} {W:World} {a:α} {Wf:World},s.run P W=.ok a Wf→W.heap.size≤Wf.heap.size
 | .pure _,W,x,Wf,h=>by simp only [Sem.run,Result.ok.injEq] at h;rw [h.2];exact Nat.le_refl _
 | .load m a k,W,x,Wf,h=>by
  simp only [Sem.run] at h
  split at h
  ·exact za2 h
  ·split at h
   ·exact za2 h
   ·cases h
 | .store m a v k,W,x,Wf,h=>by
  have hk:∀ {W},k.run P W=.ok x Wf→W.heap.size≤Wf.heap.size:=fun h=>za2 h
  cases v<;>simp only [Sem.run] at h<;>first
   | (cases h;done)
   | (split at h
      ·split at h
       ·cases h
       ·have:=hk h;rw [size_setCell] at this;exact this
      ·split at h
       ·rename_i hf;have:=hk h;rw [zih hf] at this;exact this
       ·cases h)
 | .new o k,W,x,Wf,h=>by simp only [Sem.run] at h;have:=za2 h;simp at this;omega
 | .shape b k,W,x,Wf,h=>by simp only [Sem.run] at h;exact za2 h
 | .freeze a n k,W,x,Wf,h=>by simp only [Sem.run] at h;have:=za2 (s:=k) h;rw [zbz] at this;exact this
 | .frozen a k,W,x,Wf,h=>by simp only [Sem.run] at h;exact za2 h
 | .getObj b k,W,x,Wf,h=>by
  simp only [Sem.run] at h
  split at h
  ·cases h
  ·exact za2 h
  ·cases h
 | .setObj b o k,W,x,Wf,h=>by
  simp only [Sem.run] at h
  split at h
  ·cases h
  ·have:=za2 (s:=k) h;simpa using this
  ·cases h
 | .choose q k,W,x,Wf,h=>by
  simp only [Sem.run] at h
  split at h
  ·exact za2 h
  ·have:=za2 h;simpa using this
 | .sys c k,W,x,Wf,h=>by simp only [Sem.run] at h;have:=za2 h;rw [zpo] at this;exact this
 | .program k,W,x,Wf,h=>by simp only [Sem.run] at h;exact za2 (s:=k P) h
 | .mark m k,W,x,Wf,h=>by simp only [Sem.run] at h;exact za2 (s:=k) h
 | .halt _,W,x,Wf,h=>by simp [Sem.run] at h
end
end Go.Con
