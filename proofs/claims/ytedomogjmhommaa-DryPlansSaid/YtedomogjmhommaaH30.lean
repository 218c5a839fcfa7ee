import Derived.Test.YtedomogjmhommaaH29
set_option linter.all false
set_option maxRecDepth 100000
set_option maxHeartbeats 8000000
namespace Go.Con
open Go
variable [Lone]
section
variable {P:Program} {mf:Md} {G:Gd} {ρ:Rn} {D E Fz:Nat→Prop}
theorem zp0 {ρ:Rn} {v:Value} (h:∀ c,v≠.agg c) (h' : ∀ c,v≠.tuple c):(∀ c,ren ρ v≠.agg c)∧(∀ c,ren ρ v≠.tuple c):=by
 cases v with
 | chan r =>
  cases r with
  | none=>simp [ren]
  | some x=>exact zmU _
 | agg c=>exact (h _ rfl).elim
 | tuple c=>exact (h' _ rfl).elim
 | func fn a b=>obtain⟨_,_,_,e⟩:=zaV ρ fn a b;rw [e];simp
 | _=>simp [ren]
theorem ObjR.get {b:Nat} {o o' : Obj} (h:ObjR ρ Fz mf b o o'):(∃ c e fz fz',o=.cells c e fz∧o'=.cells (c.map (ren ρ)) e fz'∧(Fz b→fz=(0,c.size))∧(¬ Fz b→fz'=fz)) ∨
  (isCells o=false∧o'=zau ρ o∧(Fz b→zdh mf o=false)):=by
 cases h with
 | frozen hf c e fz=>exact .inl ⟨c,e,_,fz,rfl,rfl,fun _=>rfl,fun h=>(h hf).elim⟩
 | still hf h1 h2=>exact .inr ⟨h1,rfl,fun _=>h2⟩
 | own hf =>
  cases o with
  | cells c e fz=>exact .inl ⟨c,e,fz,fz,rfl,rfl,fun h=>(hf h).elim,fun _=>rfl⟩
  | _=>exact .inr ⟨rfl,rfl,fun h=>(hf h).elim⟩
theorem WR.cell {W W' : World} (h:WR G ρ D E Fz mf W W') {a:Addr} {v:Value} (hD:D a.block) (hv:W.cell? a=some v) :
  W'.cell? (zak ρ a)=some (ren ρ v)∧supV G D E v∧(W.frozen? a=false→¬ Fz a.block∧W'.frozen? (zak ρ a)=false):=by
 unfold World.cell? at hv
 split at hv
 ·rename_i c e fz ho
  obtain⟨o',ho',hr⟩:=h.obj _ _ hD ho
  obtain⟨hsup,_⟩:=h.sup _ _ hD ho
  obtain⟨b,off,spot⟩:=a
  cases spot with
  | some s=>simp at hv
  | none =>
   simp only [Option.isSome_none,Bool.false_eq_true,if_false] at hv
   have hsv:supV G D E v:=by
    simp only [za8,zau,Obj.cells.injEq,and_true] at hsup
    have:=congrArg (fun a=>a[off]?) hsup
    show ren (RA G) v=ren (RB G D E) v
    simpa [hv] using this
   rcases hr.get with ⟨c',e',f1,f2,h1,h2,h3,h4⟩ | ⟨h1,_⟩
   ·cases h1
    subst h2
    refine⟨?_,hsv,fun hfz=>?_⟩
    ·simp [World.cell?,zak,ho',hv]
    ·have hn:¬ Fz b:=by
      intro hz
      have:=h3 hz
      subst this
      have hlt:off<c.size:=by
       rcases Nat.lt_or_ge off c.size with h | h
       ·exact h
       ·rw [Array.getElem?_eq_none h] at hv;cases hv
      have ho2:W.heap[b]?=some (.cells c e (0,c.size)):=ho
      simp [World.frozen?,ho2,hlt] at hfz
     have:=h4 hn
     subst this
     have ho2:=ho
     change W.heap[b]?=_ at ho2
     refine⟨hn,?_⟩
     simp only [World.frozen?,ho2] at hfz
     simp only [World.frozen?,zak,ho']
     exact hfz
   ·cases h1
 ·cases hv
theorem WR.plain {W W' : World} (h:WR G ρ D E Fz mf W W') {b:Nat} {o:Obj} (hD:D b) (ho:W.heap[b]?=some o):zaG mf o=true:=(h.sup _ _ hD ho).2.1
theorem zc5 {W:World} {a:Addr} {v:Value} {b:Nat} (h:a.block≠b):(W.setCell a v).heap[b]?=W.heap[b]?:=by simp [World.setCell,Array.getElem?_modify,h]
theorem setCell_at {W:World} {a:Addr} {v:Value} {c:Array Value} {e:TypeId} {fz:Nat×Nat} (h:W.heap[a.block]?=some (.cells c e fz)) (hs:a.spot.isSome=false) :
  (W.setCell a v).heap[a.block]?=some (.cells (c.setIfInBounds a.off v) e fz):=by simp [World.setCell,Array.getElem?_modify,h,hs]
theorem zbJ {W:World} {a:Addr} {n b:Nat} (h:a.block≠b):(W.freeze a n).heap[b]?=W.heap[b]?:=by
 unfold World.freeze;split<;>simp [Array.getElem?_modify,h]
theorem zek {W:World} {a:Addr} {n:Nat} (h:W.heap[a.block]?=none):(W.freeze a n).heap[a.block]?=none:=by
 unfold World.freeze;split<;>simp [Array.getElem?_modify,h]
theorem zgJ {W:World} {a:Addr} {n:Nat} {c:Array Value} {e:TypeId} {fz:Nat×Nat} (h:W.heap[a.block]?=some (.cells c e fz)) :
  (W.freeze a n).heap[a.block]?=some (.cells c e (if n=0 then fz else if fz.1 == fz.2 then (a.off,a.off+n) else (min fz.1 a.off,max fz.2 (a.off+n)))):=by
 obtain⟨lo,hi⟩:=fz
 unfold World.freeze
 split
 ·exact h
 ·simp [Array.getElem?_modify,h]
theorem zdB {W:World} {a:Addr} {n:Nat} {o:Obj} (h:W.heap[a.block]?=some o) (ho:isCells o=false):(W.freeze a n).heap[a.block]?=some o:=by
 unfold World.freeze
 split
 ·exact h
 ·cases o<;>first | (simp [isCells] at ho;done) | simp [Array.getElem?_modify,h]
theorem zel {o:Obj}:isCells (zau ρ o)=isCells o:=by cases o<;>rfl
theorem zgM {o:Obj}:zbm (zau ρ o)=zbm o:=by cases o<;>rfl
theorem zlg (o:Obj):o.isChan=zbm o:=by cases o<;>rfl
theorem zhZ {W:World} {b:Nat} {o:Obj} (h:W.heap[b]?=some o) (ho:isCells o=false):W.shape? b=none:=by
 unfold World.shape?
 cases o<;>first | (simp [isCells] at ho;done) | simp [h]
theorem WR.set {W W' W1 W1' : World} (h:WR G ρ D E Fz mf W W') (inj:∀ x y,ρ.p x=ρ.p y→x=y) {b:Nat} {o:Obj} (hz:¬ Fz b) (hc:zbm o=false)
  (e1:W1.heap[b]?=some o) (e1' : W1'.heap[ρ.p b]?=some (zau ρ o)) (hs:za8 G D E o) (hp:zaG mf o=true)
  (e2:∀ x,x≠b→W1.heap[x]?=W.heap[x]?) (e2' : ∀ x,x≠ρ.p b→W1'.heap[x]?=W'.heap[x]?)
  (r1:W1'.os=W1.os) (r2:W1'.output=W1.output):WR G ρ D E Fz mf W1 W1' where
 os:=r1
 output:=r2
 obj x ox hD ho:=by
  by_cases hx:x=b
  ·subst hx
   rw [e1] at ho;cases ho
   exact⟨_,e1',.own hz⟩
  ·rw [e2 x hx] at ho
   obtain⟨o',ho',hr⟩:=h.obj x ox hD ho
   exact⟨o',by rw [e2' _ fun e=>hx (inj _ _ e)];exact ho',hr⟩
 none x hD ho:=by
  by_cases hx:x=b
  ·subst hx;rw [e1] at ho;cases ho
  ·rw [e2 x hx] at ho
   rw [e2' _ fun e=>hx (inj _ _ e)]
   exact h.none x hD ho
 sup x ox hD ho:=by
  by_cases hx:x=b
  ·subst hx;rw [e1] at ho;cases ho;exact⟨hs,hp,hc⟩
  ·rw [e2 x hx] at ho;exact h.sup x ox hD ho
theorem zj0 {c:Array Value} {e:TypeId} {fz fz' : Nat×Nat} (h:za8 G D E (.cells c e fz)):za8 G D E (.cells c e fz'):=by
 simp only [za8,zau,Obj.cells.injEq,and_true] at h ⊢
 exact h
theorem zh6 {c:Array Value} {e:TypeId} {fz fz' : Nat×Nat} {off:Nat} {v:Value} (h:za8 G D E (.cells c e fz)) (hv:supV G D E v):za8 G D E (.cells (c.setIfInBounds off v) e fz'):=by
 simp only [za8,zau,Obj.cells.injEq,and_true] at h ⊢
 rw [Array.map_setIfInBounds,Array.map_setIfInBounds,h,show ren (RA G) v=ren (RB G D E) v from hv]
def zqo (P:Program) (mf:Md) (G:Gd) (ρ:Rn) (E Fz K:Nat→Prop) {α β:Type} (r:α→β→Prop) (s:Sem α) (s' : Sem β) (W W' : World) (τ:Nat→Question→Nat):Prop :=
 ∀ {D:Nat→Prop} {rs:α→Prop},Sup P mf G D E rs s→WR G ρ D E Fz mf W W'→(∀ b,K b→¬ Fz b)→∀ {a:α} {Wf:World},s.run P { W with tape:=τ }=.ok a Wf→zlJ ρ D Fz W W' Wf →
   ∃ b Wf',s'.run P W'=.ok b Wf'∧r a b∧rs a∧WR G ρ D E Fz mf Wf Wf'∧Keeps ρ D Fz W' Wf'∧Wf'.heap.size+W.heap.size=W'.heap.size+Wf.heap.size ∧
    ∀ es e,e∈s'.events P W' es→e∈es∨EvOk ρ D Fz e
theorem SR.run (inj:∀ x y,ρ.p x=ρ.p y→x=y) {α β:Type} {r:α→β→Prop} {K:Nat→Prop} {s:Sem α} {s' : Sem β} (h:SR P mf false ρ r K s s') :
  ∀ {W W' : World},∃ τ:Nat→Question→Nat,(∀ i q,i<W.drawn→τ i q=W.tape i q)∧zqo P mf G ρ E Fz K r s s' W W' τ:=by
 induction h with
 | dead h=>intro W W';exact⟨W.tape,fun _ _ _=>rfl,fun _ _ _ _ _ hr _=>(zaF h _ _ hr).elim⟩
 | pure h =>
  intro W W'
  refine⟨W.tape,fun _ _ _=>rfl,fun {D rs} hs hw _ {x Wf} hr _=>?_⟩
  simp only [Sem.run,Result.ok.injEq] at hr
  obtain⟨rfl,rfl⟩:=hr
  cases hs with
  | dead h=>exact h.elim
  | pure hs=>exact⟨_,_,rfl,h,hs,hw,.refl,rfl,fun es e he=>.inl he⟩
 | load _ ih =>
  intro W W'
  rename_i K a k k' hk
  cases hcell:W.cell? a with
  | none =>
   refine⟨W.tape,fun _ _ _=>rfl,fun {D rs} hs hw hK {x Wf} hr _=>?_⟩
   cases hs with
   | dead h=>exact (zaF h _ _ hr).elim
   | load ha hsk =>
    change Sem.run P _ W=_ at hr
    simp only [Sem.run] at hr
    rw [hcell] at hr
    obtain⟨e,he⟩:=zif (P:=P) (W:=W) (a:=a) (m:=Mode.plain == Mode.atomic) fun o ho=>hw.plain ha ho
    simp only [he] at hr
    cases hr
  | some v =>
   obtain⟨τ,hτ,hrun⟩:=ih v (W:=W) (W':=W')
   refine⟨τ,hτ,fun {D rs} hs hw hK {x Wf} hr hf=>?_⟩
   cases hs with
   | dead h=>exact (zaF h _ _ hr).elim
   | load ha hsk =>
    obtain⟨hv',hsv,_⟩:=hw.cell ha hcell
    have hcell2:({ W with tape:=τ }:World).cell? a=some v:=hcell
    simp only [Sem.run,hcell2] at hr
    obtain⟨b,Wf',h1,h2,h3,h4,h5,h6,h7⟩:=hrun (hsk v hsv) hw hK hr hf
    refine⟨b,Wf',by simp only [Sem.run,hv'];exact h1,h2,h3,h4,h5,h6,fun es e he=>?_⟩
    simp only [Sem.events,Sem.runT,hv'] at he
    rcases h7 _ e he with h | h
    ·rcases Array.mem_push.1 h with h | rfl
     ·exact .inl h
     ·exact .inr (.inl ⟨_,a.block,rfl,rfl,ha,rfl,fun h=>by cases h⟩)
    ·exact .inr h
 | store _ ih =>
  intro W W'
  rename_i K a v k k' hk
  obtain⟨τ,hτ,hrun⟩:=ih (W:=W.setCell a v) (W':=W'.setCell (zak ρ a) (ren ρ v))
  refine⟨τ,hτ,fun {D rs} hs hw hK {x Wf} hr hf=>?_⟩
  cases hs with
  | dead h=>exact (zaF h _ _ hr).elim
  | store ha hv hsk =>
   by_cases hagg:∃ c,v=.agg c
   ·obtain⟨c,rfl⟩:=hagg;simp [Sem.run] at hr
   by_cases htup:∃ c,v=.tuple c
   ·obtain⟨c,rfl⟩:=htup;simp [Sem.run] at hr
   have hagg' : ∀ c,v≠.agg c:=fun c e=>hagg ⟨c,e⟩
   have htup' : ∀ c,v≠.tuple c:=fun c e=>htup ⟨c,e⟩
   obtain⟨hagg2,htup2⟩:=zp0 (ρ:=ρ) hagg' htup'
   have e0:∀ {α:Type} {W:World} {k:Sem α} {a:Addr} {v:Value},(∀ c,v≠.agg c)→(∀ c,v≠.tuple c)→(Sem.store .plain a v k).run P W=match W.cell? a with
     | some _=>if W.frozen? a then .halt (.unsupported (.unsafePointer "a write to bytes that a string shares")) W else k.run P (W.setCell a v)
     | none=>match W.farStore P a v false with
      | .ok (w,_)=>k.run P w
      | .error h=>.halt h W:=by
    intro α W k a v h1 h2
    cases v<;>first | (exact (h1 _ rfl).elim) | (exact (h2 _ rfl).elim) | rfl
   rw [e0 hagg' htup'] at hr
   cases hcell:W.cell? a with
   | none =>
    have hcell2:({ W with tape:=τ }:World).cell? a=none:=hcell
    rw [hcell2] at hr
    obtain⟨e,he⟩:=zhl (P:=P) (W:={ W with tape:=τ }) (a:=a) (v:=v) (m:=false) fun o ho=>hw.plain ha ho
    simp only [he] at hr
    cases hr
   | some v0 =>
    have hcell2:({ W with tape:=τ }:World).cell? a=some v0:=hcell
    rw [hcell2] at hr
    simp only at hr
    split at hr
    ·cases hr
    rename_i hfz
    simp only [Bool.not_eq_true] at hfz
    have hfz:W.frozen? a=false:=hfz
    obtain⟨hv',hsv,hw2⟩:=hw.cell ha hcell
    obtain⟨hnz,hfz'⟩:=hw2 hfz
    obtain⟨o,ho⟩:∃ o,W.heap[a.block]?=some o:=by
     unfold World.cell? at hcell
     split at hcell
     ·exact⟨_,by assumption⟩
     ·cases hcell
    obtain⟨c,e,fz,rfl⟩:∃ c e fz,o=.cells c e fz:=by
     simp only [World.cell?,ho] at hcell
     cases o<;>simp_all
    obtain⟨o',ho',hor⟩:=hw.obj _ _ ha ho
    have ho'' : W'.heap[ρ.p a.block]?=some (.cells (c.map (ren ρ)) e fz):=by
     rcases hor.get with ⟨c',e',f1,f2,h1,h2,_,h4⟩ | ⟨h1,_⟩
     ·cases h1;rw [ho',h2,h4 hnz]
     ·cases h1
    have hspot:a.spot.isSome=false:=by
     simp only [World.cell?,ho] at hcell
     cases hs:a.spot.isSome
     ·rfl
     ·simp [hs] at hcell
    have hsupo:=(hw.sup _ _ ha ho).1
    have hw1:WR G ρ D E Fz mf (W.setCell a v) (W'.setCell (zak ρ a) (ren ρ v)):=by
     refine hw.set inj (b:=a.block) (o:=.cells (c.setIfInBounds a.off v) e fz) hnz rfl ?_ ?_ (zh6 hsupo hv) rfl ?_ ?_ hw.os hw.output
     ·exact setCell_at ho hspot
     ·rw [show (W'.setCell (zak ρ a) (ren ρ v)).heap[ρ.p a.block]?=_ from setCell_at (a:=zak ρ a) ho'' hspot]
      simp [zak,zau,Array.map_setIfInBounds]
     ·exact fun x hx=>zc5 (Ne.symm hx)
     ·exact fun x hx=>zc5 (a:=zak ρ a) (Ne.symm hx)
    have hf1:zlJ ρ D Fz (W.setCell a v) (W'.setCell (zak ρ a) (ren ρ v)) Wf:=by
     intro b;rw [size_setCell,size_setCell];exact hf b
    obtain⟨b,Wf',h1,h2,h3,h4,h5,h6,h7⟩:=hrun hsk hw1 hK hr hf1
    rw [size_setCell,size_setCell] at h6
    refine⟨b,Wf',?_,h2,h3,h4,?_,h6,fun es e1 he=>?_⟩
    ·rw [e0 hagg2 htup2,hv'];simp only [hfz',Bool.false_eq_true,if_false];exact h1
    ·refine Keeps.trans ⟨by rw [size_setCell];exact Nat.le_refl _,fun x hx hn=>?_⟩ h5
     exact zc5 (a:=zak ρ a) (hn a.block ha hnz)
    ·have e2:(Sem.store .plain (zak ρ a) (ren ρ v) k').events P W' es=k'.events P (W'.setCell (zak ρ a) (ren ρ v)) (es.push ⟨.cell (zak ρ a),true,false⟩):=by
      cases hrv:ren ρ v<;>first
       | (exact (hagg2 _ hrv).elim)
       | (exact (htup2 _ hrv).elim)
       | (simp only [Sem.events,Sem.runT,hv',hfz'];rfl)
     rw [e2] at he
     rcases h7 _ e1 he with h | h
     ·rcases Array.mem_push.1 h with h | rfl
      ·exact .inl h
      ·exact .inr (.inl ⟨_,a.block,rfl,rfl,ha,rfl,fun _=>hnz⟩)
     ·exact .inr h
 | new ho hoc h ih =>
  intro W W'
  rename_i K o k k'
  obtain⟨τ,hτ,hrun⟩:=ih W.heap.size (W:={ W with heap:=W.heap.push o }) (W':={ W' with heap:=W'.heap.push (zau ρ o) })
  refine⟨τ,hτ,fun {D rs} hs hw hK {x Wf} hr hf=>?_⟩
  cases hs with
  | dead h=>exact (zaF h _ _ hr).elim
  | new hso hsk =>
   simp only [Sem.run] at hr
   have hsz:W.heap.size+1≤Wf.heap.size:=by have:=za2 hr;simpa using this
   obtain⟨hD,hnz,hρ⟩:=hf W.heap.size (Nat.le_refl _) (by omega)
   have hρ' : ρ.p W.heap.size=W'.heap.size:=by omega
   have hw1:WR G ρ D E Fz mf { W with heap:=W.heap.push o } { W' with heap:=W'.heap.push (zau ρ o) }:=by
    refine hw.set inj (b:=W.heap.size) (o:=o) hnz hoc ?_ ?_ hso ho ?_ ?_ hw.os hw.output
    ·simp
    ·simp [hρ']
    ·intro x hx;simp [Array.getElem?_push,hx]
    ·intro x hx;rw [hρ'] at hx;simp [Array.getElem?_push,hx]
   have hf1:zlJ ρ D Fz { W with heap:=W.heap.push o } { W' with heap:=W'.heap.push (zau ρ o) } Wf:=by
    intro b h1 h2
    simp only [Array.size_push] at h1 ⊢
    obtain⟨a1,a2,a4⟩:=hf b (by omega) h2
    exact⟨a1,a2,by omega⟩
   obtain⟨b,Wf',h1,h2,h3,h4,h5,h6,h7⟩:=hrun (hsk _ hD) hw1 (fun b hb=>by
    rcases hb with hb | rfl
    ·exact hK b hb
    ·exact hnz) hr hf1
   simp only [Array.size_push] at h6
   refine⟨b,Wf',?_,h2,h3,h4,?_,by omega,fun es e he=>?_⟩
   ·simp only [Sem.run];rw [← hρ'];exact h1
   ·refine Keeps.trans ⟨by simp,fun x hx _=>?_⟩ h5
    simp [Array.getElem?_push,Nat.ne_of_lt hx]
   ·have e2:(Sem.new (zau ρ o) k').events P W' es=(k' (ρ.p W.heap.size)).events P { W' with heap:=W'.heap.push (zau ρ o) } es:=by
     rw [hρ'];rfl
    rw [e2] at he
    exact h7 _ e he
 | shape h ih =>
  intro W W'
  rename_i K b k k'
  obtain⟨τ,hτ,hrun⟩:=ih (W.shape? b) (W:=W) (W':=W')
  refine⟨τ,hτ,fun {D rs} hs hw hK {x Wf} hr hf=>?_⟩
  cases hs with
  | dead h=>exact (zaF h _ _ hr).elim
  | shape hb hsk =>
   simp only [Sem.run] at hr
   have hsh:W'.shape? (ρ.p b)=W.shape? b:=by
    cases ho:W.heap[b]? with
    | none=>simp only [World.shape?,hw.none b hb ho,ho]
    | some o =>
     obtain⟨o',ho',hor⟩:=hw.obj _ _ hb ho
     rcases hor.get with ⟨c',e',f1,f2,rfl,rfl,_,_⟩ | ⟨h1,rfl,_⟩
     ·simp only [World.shape?,ho,ho',Array.size_map]
     ·rw [zhZ ho h1,zhZ ho' (by rw [zel];exact h1)]
   obtain⟨b',Wf',h1,h2,h3,h4,h5,h6,h7⟩:=hrun (hsk _) hw hK hr hf
   refine⟨b',Wf',by simp only [Sem.run,hsh];exact h1,h2,h3,h4,h5,h6,fun es e he=>?_⟩
   simp only [Sem.events,Sem.runT,hsh] at he
   exact h7 _ e he
 | freeze hKb h ih =>
  intro W W'
  rename_i K a n k k'
  have hfe:∀ τ:Nat→Question→Nat,({ W with tape:=τ }:World).freeze a n={ W.freeze a n with tape:=τ }:=by
   intro τ;unfold World.freeze;split<;>rfl
  have hft:(W.freeze a n).tape=W.tape∧(W.freeze a n).drawn=W.drawn:=by unfold World.freeze;split<;>exact⟨rfl,rfl⟩
  obtain⟨τ,hτ,hrun⟩:=ih (W:=W.freeze a n) (W':=W'.freeze (zak ρ a) n)
  refine⟨τ,fun i q hi=>by rw [hτ i q (by rw [hft.2];exact hi),hft.1],fun {D rs} hs hw hK {x Wf} hr hf=>?_⟩
  cases hs with
  | dead h=>exact (zaF h _ _ hr).elim
  | freeze ha hsk =>
   simp only [Sem.run] at hr
   rw [hfe] at hr
   have hnz:=hK _ hKb
   have hw1:WR G ρ D E Fz mf (W.freeze a n) (W'.freeze (zak ρ a) n):=by
    have hos:∀ (W:World) (a:Addr),(W.freeze a n).os=W.os∧(W.freeze a n).output=W.output:=by
     intro W a;unfold World.freeze;split<;>exact⟨rfl,rfl⟩
    have q1:=hos W a
    have q2:=hos W' (zak ρ a)
    cases ho:W.heap[a.block]? with
    | none =>
     have ho':=hw.none _ ha ho
     have f1:∀ x:Nat,(W.freeze a n).heap[x]?=W.heap[x]?:=by
      intro x
      by_cases hx:a.block=x
      ·rw [← hx,zek ho,ho]
      ·exact zbJ hx
     have f2:∀ x:Nat,(W'.freeze (zak ρ a) n).heap[x]?=W'.heap[x]?:=by
      intro x
      by_cases hx:ρ.p a.block=x
      ·have e1:(W'.freeze (zak ρ a) n).heap[ρ.p a.block]?=none:=zek (a:=zak ρ a) ho'
       rw [← hx,e1,ho']
      ·exact zbJ (W:=W') (a:=zak ρ a) (n:=n) (b:=x) hx
     exact⟨by rw [q1.1,q2.1,hw.os],by rw [q1.2,q2.2,hw.output],
      fun b o hb h=>by rw [f1] at h;rw [f2];exact hw.obj b o hb h,fun b hb h=>by rw [f1] at h;rw [f2];exact hw.none b hb h,fun b o hb h=>by rw [f1] at h;exact hw.sup b o hb h⟩
    | some o =>
     obtain⟨o',ho',hor⟩:=hw.obj _ _ ha ho
     have hsup:=hw.sup _ _ ha ho
     rcases hor.get with ⟨c,e,f1,f2,rfl,rfl,_,h4⟩ | ⟨h1,rfl,_⟩
     ·have:=h4 hnz
      subst this
      refine hw.set inj (b:=a.block) (o:=.cells c e (if n=0 then f2 else if f2.1 == f2.2 then (a.off,a.off+n) else (min f2.1 a.off,max f2.2 (a.off+n)))) hnz rfl ?_ ?_ (zj0 hsup.1) rfl ?_ ?_
       (by rw [q1.1,q2.1,hw.os]) (by rw [q1.2,q2.2,hw.output])
      ·exact zgJ ho
      ·exact zgJ (a:=zak ρ a) ho'
      ·exact fun x hx=>zbJ (Ne.symm hx)
      ·exact fun x hx=>zbJ (a:=zak ρ a) (Ne.symm hx)
     ·refine hw.set inj (b:=a.block) (o:=o) hnz hsup.2.2 ?_ ?_ hsup.1 hsup.2.1 ?_ ?_
       (by rw [q1.1,q2.1,hw.os]) (by rw [q1.2,q2.2,hw.output])
      ·exact zdB ho h1
      ·exact zdB (a:=zak ρ a) ho' (by rw [zel];exact h1)
      ·exact fun x hx=>zbJ (Ne.symm hx)
      ·exact fun x hx=>zbJ (a:=zak ρ a) (Ne.symm hx)
   have hf1:zlJ ρ D Fz (W.freeze a n) (W'.freeze (zak ρ a) n) Wf:=by
    intro b;rw [zbz,zbz];exact hf b
   obtain⟨b,Wf',h1,h2,h3,h4,h5,h6,h7⟩:=hrun hsk hw1 hK hr hf1
   rw [zbz,zbz] at h6
   refine⟨b,Wf',h1,h2,h3,h4,?_,h6,fun es e he=>h7 _ e he⟩
   refine Keeps.trans ⟨by rw [zbz];exact Nat.le_refl _,fun x hx hn=>?_⟩ h5
   exact zbJ (a:=zak ρ a) (hn a.block ha hnz)
 | frozen h ih =>
  intro W W'
  rename_i K a k k'
  obtain⟨τ,hτ,hrun⟩:=ih (W.frozen? a) (W'.frozen? (zak ρ a)) (W:=W) (W':=W')
  refine⟨τ,hτ,fun {D rs} hs hw hK {x Wf} hr hf=>?_⟩
  cases hs with
  | dead h=>exact (zaF h _ _ hr).elim
  | frozen ha hsk =>
   simp only [Sem.run] at hr
   obtain⟨b',Wf',h1,h2,h3,h4,h5,h6,h7⟩:=hrun (hsk _) hw hK hr hf
   exact⟨b',Wf',h1,h2,h3,h4,h5,h6,fun es e he=>h7 _ e he⟩
 | getObj h ih =>
  intro W W'
  rename_i K b k k'
  by_cases hoo:∃ o,W.heap[b]?=some o∧isCells o=false∧zbm o=false∧zaG mf o=true
  case neg =>
   refine⟨W.tape,fun _ _ _=>rfl,fun {D rs} hs hw hK {x Wf} hr _=>?_⟩
   cases hs with
   | dead h=>exact (zaF h _ _ hr).elim
   | getObj hb hsk =>
    simp only [Sem.run] at hr
    split at hr
    ·cases hr
    ·rename_i o hnc ho
     have hsup:=hw.sup _ _ hb ho
     refine (hoo ⟨o,ho,?_,hsup.2.2,hsup.2.1⟩).elim
     cases o<;>first | rfl | exact (hnc _ _ _ rfl).elim
    ·cases hr
  obtain⟨o,ho,hic,hch,hpl⟩:=hoo
  obtain⟨τ,hτ,hrn⟩:=ih o hch hpl (W:=W) (W':=W')
  refine⟨τ,hτ,fun {D rs} hs hw hK {x Wf} hr hf=>?_⟩
  cases hs with
  | dead h=>exact (zaF h _ _ hr).elim
  | getObj hb hsk =>
   obtain⟨o',ho',hor⟩:=hw.obj _ _ hb ho
   have hsup:=hw.sup _ _ hb ho
   rcases hor.get with ⟨c,e,f1,f2,rfl,rfl,_,_⟩ | ⟨h1,rfl,hfz⟩
   ·cases hic
   ·have hr2:(k o).run P { W with tape:=τ }=.ok x Wf:=by
     have ho2:({ W with tape:=τ }:World).heap[b]?=some o:=ho
     simp only [Sem.run,ho2] at hr
     cases o<;>first | (simp [isCells] at hic;done) | exact hr
    obtain⟨b',Wf',g1,g2,g3,g4,g5,g6,g7⟩:=hrn (hsk o hch hsup.2.1 hsup.1) hw (fun y hy=>by
     rcases hy with hy | ⟨rfl,hy⟩
     ·exact hK y hy
     ·intro hz
      rw [hfz hz] at hy;cases hy) hr2 hf
    have hrun:∀ es,(Sem.getObj (ρ.p b) k').runT P W' es=(k' (zau ρ o)).runT P W' (es.push ⟨.obj (ρ.p b),false,(zau ρ o).isChan⟩):=by
     intro es
     simp only [Sem.runT,ho']
     cases o<;>first | (simp [isCells] at h1;done) | rfl
    refine⟨b',Wf',?_,g2,g3,g4,g5,g6,fun es e he=>?_⟩
    ·rw [← Sem.runT_fst P _ W' #[],hrun,Sem.runT_fst];exact g1
    ·simp only [Sem.events,hrun] at he
     rcases g7 _ e he with h | h
     ·rcases Array.mem_push.1 h with h | rfl
      ·exact .inl h
      ·refine .inr (.inr (.inl ⟨b,rfl,?_,hb,fun h=>by cases h⟩))
       show (zau ρ o).isChan=false
       rw [zlg,zgM];exact hch
     ·exact .inr h
 | setObj hKb ho hc h ih =>
  intro W W'
  rename_i K b o k k'
  obtain⟨τ,hτ,hrn⟩:=ih (W:={ W with heap:=W.heap.setIfInBounds b o }) (W':={ W' with heap:=W'.heap.setIfInBounds (ρ.p b) (zau ρ o) })
  refine⟨τ,hτ,fun {D rs} hs hw hK {x Wf} hr hf=>?_⟩
  cases hs with
  | dead h=>exact (zaF h _ _ hr).elim
  | setObj hb hso hsk =>
   have hnz:=hK _ hKb
   simp only [Sem.run] at hr
   split at hr
   ·cases hr
   ·rename_i o0 hnce ho0
    obtain⟨o',ho',hor⟩:=hw.obj _ _ hb ho0
    have hblt:b<W.heap.size:=by
     rcases Nat.lt_or_ge b W.heap.size with h | h
     ·exact h
     ·have ho0:W.heap[b]?=some o0:=ho0
      rw [Array.getElem?_eq_none h] at ho0;cases ho0
    have hblt' : ρ.p b<W'.heap.size:=by
     rcases Nat.lt_or_ge (ρ.p b) W'.heap.size with h | h
     ·exact h
     ·rw [Array.getElem?_eq_none h] at ho';cases ho'
    have hno' : isCells o'=false:=by
     rcases hor.get with ⟨c,e,f1,f2,rfl,rfl,_,_⟩ | ⟨h1,rfl,_⟩
     ·exact (hnce _ _ _ rfl).elim
     ·rw [zel];exact h1
    have hw1:WR G ρ D E Fz mf { W with heap:=W.heap.setIfInBounds b o } { W' with heap:=W'.heap.setIfInBounds (ρ.p b) (zau ρ o) }:=by
     refine hw.set inj (b:=b) (o:=o) hnz hc ?_ ?_ hso ho ?_ ?_ hw.os hw.output
     ·simp [hblt]
     ·simp [hblt']
     ·intro x hx;simp [Ne.symm hx]
     ·intro x hx;simp [Ne.symm hx]
    have hf1:zlJ ρ D Fz { W with heap:=W.heap.setIfInBounds b o } { W' with heap:=W'.heap.setIfInBounds (ρ.p b) (zau ρ o) } Wf:=by
     intro y;simp only [Array.size_setIfInBounds];exact hf y
    obtain⟨b',Wf',h1,h2,h3,h4,h5,h6,h7⟩:=hrn hsk hw1 hK hr hf1
    simp only [Array.size_setIfInBounds] at h6
    have hrun:∀ es,(Sem.setObj (ρ.p b) (zau ρ o) k').runT P W' es=k'.runT P { W' with heap:=W'.heap.setIfInBounds (ρ.p b) (zau ρ o) } (es.push ⟨.obj (ρ.p b),true,(zau ρ o).isChan⟩):=by
     intro es
     simp only [Sem.runT,ho']
     cases o'<;>first | (simp [isCells] at hno';done) | rfl
    refine⟨b',Wf',?_,h2,h3,h4,?_,h6,fun es e he=>?_⟩
    ·rw [← Sem.runT_fst P _ W' #[],hrun,Sem.runT_fst];exact h1
    ·refine Keeps.trans ⟨by simp,fun x hx hn=>?_⟩ h5
     have:ρ.p b≠x:=hn b hb hnz
     simp [this]
    ·simp only [Sem.events,hrun] at he
     rcases h7 _ e he with h | h
     ·rcases Array.mem_push.1 h with h | rfl
      ·exact .inl h
      ·refine .inr (.inr (.inl ⟨b,rfl,?_,hb,fun _=>hnz⟩))
       show (zau ρ o).isChan=false
       rw [zlg,zgM];exact hc
     ·exact .inr h
   ·cases hr
 | choose h ih =>
  intro W W'
  rename_i K q k k'
  by_cases hq:q.forced=true
  ·obtain⟨τ,hτ,hrun⟩:=ih 0 (W:=W) (W':=W')
   refine⟨τ,hτ,fun {D rs} hs hw hK {x Wf} hr hf=>?_⟩
   cases hs with
   | dead h=>exact (zaF h _ _ hr).elim
   | choose hsk =>
    simp only [Sem.run,hq,if_true] at hr
    obtain⟨b',Wf',h1,h2,h3,h4,h5,h6,h7⟩:=hrun (hsk _) hw hK hr hf
    refine⟨b',Wf',by simp only [Sem.run,hq,if_true];exact h1,h2,h3,h4,h5,h6,fun es e he=>?_⟩
    simp only [Sem.events,Sem.runT,hq,if_true] at he
    exact h7 _ e he
  ·obtain⟨n,hn⟩:∃ n,W'.tape W'.drawn q=n:=⟨_,rfl⟩
   obtain⟨τ,hτ,hrun⟩:=ih (q.cut n) (W:={ W with drawn:=W.drawn+1,tape:=fun i p=>if i=W.drawn then n else W.tape i p }) (W':={ W' with drawn:=W'.drawn+1 })
   have hτ0:τ W.drawn q=n:=by rw [hτ W.drawn q (Nat.lt_succ_self _)];simp
   refine⟨τ,fun i p hi=>by rw [hτ i p (Nat.lt_succ_of_lt hi)];simp [Nat.ne_of_lt hi],fun {D rs} hs hw hK {x Wf} hr hf=>?_⟩
   have hw1:WR G ρ D E Fz mf { W with drawn:=W.drawn+1,tape:=fun i p=>if i=W.drawn then n else W.tape i p } { W' with drawn:=W'.drawn+1 }:=⟨hw.os,hw.output,hw.obj,hw.none,hw.sup⟩
   cases hs with
   | dead h=>exact (zaF h _ _ hr).elim
   | choose hsk =>
    simp only [Sem.run,if_neg hq,hτ0] at hr
    obtain⟨b',Wf',h1,h2,h3,h4,h5,h6,h7⟩:=hrun (hsk _) hw1 hK hr hf
    refine⟨b',Wf',by simp only [Sem.run,if_neg hq,hn] at h1 ⊢;exact h1,h2,h3,h4,h5,h6,fun es e he=>?_⟩
    simp only [Sem.events,Sem.runT,if_neg hq,hn] at he h7
    exact h7 _ e he
 | chooseL hn h0 h ih =>
  intro W W'
  rename_i K q k s'
  by_cases hq:q.forced=true
  ·obtain⟨τ,hτ,hrun⟩:=ih (W:=W) (W':=W')
   refine⟨τ,hτ,fun {D rs} hs hw hK {x Wf} hr hf=>?_⟩
   cases hs with
   | dead h=>exact (zaF h _ _ hr).elim
   | choose hsk =>
    simp only [Sem.run,hq,if_true] at hr
    exact hrun (hsk _) hw hK hr hf
  ·obtain⟨τ,hτ,hrun⟩:=ih (W:={ W with drawn:=W.drawn+1,tape:=fun i p=>if i=W.drawn then 0 else W.tape i p }) (W':=W')
   have hτ0:τ W.drawn q=0:=by rw [hτ W.drawn q (Nat.lt_succ_self _)];simp
   refine⟨τ,fun i p hi=>by rw [hτ i p (Nat.lt_succ_of_lt hi)];simp [Nat.ne_of_lt hi],fun {D rs} hs hw hK {x Wf} hr hf=>?_⟩
   have hw1:WR G ρ D E Fz mf { W with drawn:=W.drawn+1,tape:=fun i p=>if i=W.drawn then 0 else W.tape i p } W':=⟨hw.os,hw.output,hw.obj,hw.none,hw.sup⟩
   cases hs with
   | dead h=>exact (zaF h _ _ hr).elim
   | choose hsk =>
    simp only [Sem.run,if_neg hq,hτ0,h0] at hr
    exact hrun (hsk _) hw1 hK hr hf
 | chooseR hn h ih =>
  intro W W'
  rename_i K q s k'
  by_cases hq:q.forced=true
  ·obtain⟨τ,hτ,hrun⟩:=ih 0 (W:=W) (W':=W')
   refine⟨τ,hτ,fun {D rs} hs hw hK {x Wf} hr hf=>?_⟩
   obtain⟨b',Wf',h1,h2,h3,h4,h5,h6,h7⟩:=hrun hs hw hK hr hf
   refine⟨b',Wf',by simp only [Sem.run,hq,if_true];exact h1,h2,h3,h4,h5,h6,fun es e he=>?_⟩
   simp only [Sem.events,Sem.runT,hq,if_true] at he
   exact h7 _ e he
  ·obtain⟨τ,hτ,hrun⟩:=ih (q.cut (W'.tape W'.drawn q)) (W:=W) (W':={ W' with drawn:=W'.drawn+1 })
   refine⟨τ,hτ,fun {D rs} hs hw hK {x Wf} hr hf=>?_⟩
   have hw1:WR G ρ D E Fz mf W { W' with drawn:=W'.drawn+1 }:=⟨hw.os,hw.output,hw.obj,hw.none,hw.sup⟩
   obtain⟨b',Wf',h1,h2,h3,h4,h5,h6,h7⟩:=hrun hs hw1 hK hr hf
   refine⟨b',Wf',by simp only [Sem.run,if_neg hq];exact h1,h2,h3,h4,h5,h6,fun es e he=>?_⟩
   simp only [Sem.events,Sem.runT,if_neg hq] at he h7
   exact h7 _ e he
 | program h ih =>
  intro W W'
  obtain⟨τ,hτ,hrun⟩:=ih (W:=W) (W':=W')
  refine⟨τ,hτ,fun {D rs} hs hw hK {x Wf} hr hf=>?_⟩
  cases hs with
  | dead h=>exact (zaF h _ _ hr).elim
  | program hsk =>
   simp only [Sem.run] at hr
   obtain⟨b',Wf',h1,h2,h3,h4,h5,h6,h7⟩:=hrun hsk hw hK hr hf
   exact⟨b',Wf',h1,h2,h3,h4,h5,h6,fun es e he=>h7 _ e he⟩
 | mark h ih =>
  intro W W'
  obtain⟨τ,hτ,hrun⟩:=ih (W:=W) (W':=W')
  refine⟨τ,hτ,fun {D rs} hs hw hK {x Wf} hr hf=>?_⟩
  cases hs with
  | dead h=>exact (zaF h _ _ hr).elim
  | mark hsk =>
   simp only [Sem.run] at hr
   obtain⟨b',Wf',h1,h2,h3,h4,h5,h6,h7⟩:=hrun hsk hw hK hr hf
   refine⟨b',Wf',h1,h2,h3,h4,h5,h6,fun es e he=>?_⟩
   rcases h7 _ e he with h | h
   ·rcases Array.mem_push.1 h with h | rfl
    ·exact .inl h
    ·exact .inr (.inr (.inr rfl))
   ·exact .inr h
end
end Go.Con
