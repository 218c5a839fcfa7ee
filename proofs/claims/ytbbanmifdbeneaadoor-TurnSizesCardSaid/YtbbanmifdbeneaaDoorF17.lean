import Derived.Test.YtbbanmifdbeneaaDoorF16
set_option linter.all false
open Go.Sem renaming run → jqa, run_bind → jqb, events → jqd, runT_eq → jqg
open Go.CallKind renaming normal → jqc
open Go.FrameMode renaming run → jqe
open Array renaming getElem?_modify → jqf, mem_push → jqk, getElem?_eq_none → jqo, map_setIfInBounds → jqp, getElem?_push → jqq
open Go.Frame renaming eval → jqh
open Go.World renaming cell? → jqi, freeze → jqj
open Go.Result renaming andThen → jql
open Bool renaming false_eq_true → jqm, and_eq_true → jqn
namespace Go.Con
open Go
variable [Lone]
section
variable {P:Program} {mf:Md} {G:Gd} {ρ:Rn} {D E Fz:Nat→Prop}
theorem zpa {ρ:Rn} {v:Value} (h:∀ c,v≠.agg c) (h' : ∀ c,v≠.tuple c):(∀ c,ren ρ v≠.agg c)∧(∀ c,ren ρ v≠.tuple c):=by
 cases v with
 | chan r =>
  cases r with
  | none=>simp [ren]
  | some x=>exact znb _
 | agg c=>exact (h _ rfl).elim
 | tuple c=>exact (h' _ rfl).elim
 | func fn a b=>obtain⟨_,_,_,e⟩:=za5 ρ fn a b;rw [e];simp
 | _=>simp [ren]
theorem ObjR.get {b:Nat} {o o' : Obj} (h:ObjR ρ Fz mf b o o'):(∃ c e fz fz',o=.cells c e fz∧o'=.cells (c.map (ren ρ)) e fz'∧(Fz b→fz=(0,c.size))∧(¬ Fz b→fz'=fz)) ∨
  (isCells o=false∧o'=zaz ρ o∧(Fz b→zcA mf o=false)):=by
 cases h with
 | frozen hf c e fz=>exact .inl ⟨c,e,_,fz,rfl,rfl,fun _=>rfl,fun h=>(h hf).elim⟩
 | still hf h1 h2=>exact .inr ⟨h1,rfl,fun _=>h2⟩
 | own hf =>
  cases o with
  | cells c e fz=>exact .inl ⟨c,e,fz,fz,rfl,rfl,fun h=>(hf h).elim,fun _=>rfl⟩
  | _=>exact .inr ⟨rfl,rfl,fun h=>(hf h).elim⟩
theorem WR.cell {W W' : World} (h:WR G ρ D E Fz mf W W') {a:Addr} {v:Value} (hD:D a.block) (hv:W.cell? a=some v) :
  W'.cell? (zak ρ a)=some (ren ρ v)∧supV G D E v∧(W.frozen? a=false→¬ Fz a.block∧W'.frozen? (zak ρ a)=false):=by
 unfold jqi at hv
 split at hv
 ·rename_i c e fz ho
  obtain⟨o',ho',hr⟩:=h.obj _ _ hD ho;obtain⟨hsup,_⟩:=h.sup _ _ hD ho;obtain⟨b,off,spot⟩:=a
  cases spot with
  | some s=>simp at hv
  | none =>
   simp only [Option.isSome_none,jqm,if_false] at hv;have hsv:supV G D E v:=by
    simp only [zba,zaz,Obj.cells.injEq,and_true] at hsup;have:=congrArg (fun a=>a[off]?) hsup;show ren (RA G) v=ren (RB G D E) v
    simpa [hv] using this
   rcases hr.get with ⟨c',e',f1,f2,h1,h2,h3,h4⟩ | ⟨h1,_⟩
   ·cases h1
    subst h2;refine⟨?_,hsv,fun hfz=>?_⟩
    ·simp [jqi,zak,ho',hv]
    ·have hn:¬ Fz b:=by
      intro hz;have:=h3 hz;subst this;have hlt:off<c.size:=by
       rcases Nat.lt_or_ge off c.size with h | h
       ·exact h
       ·rw [jqo h] at hv;cases hv
      have ho2:W.heap[b]?=some (.cells c e (0,c.size)):=ho;simp [World.frozen?,ho2,hlt] at hfz
     have:=h4 hn;subst this;have ho2:=ho;change W.heap[b]?=_ at ho2;refine⟨hn,?_⟩;simp only [World.frozen?,ho2] at hfz;simp only [World.frozen?,zak,ho'];exact hfz
   ·cases h1
 ·cases hv
theorem WR.plain {W W' : World} (h:WR G ρ D E Fz mf W W') {b:Nat} {o:Obj} (hD:D b) (ho:W.heap[b]?=some o):zaK mf o=true:=(h.sup _ _ hD ho).2.1
theorem zdc {W:World} {a:Addr} {v:Value} {b:Nat} (h:a.block≠b):(W.setCell a v).heap[b]?=W.heap[b]?:=by simp [World.setCell,jqf,h]
theorem setCell_at {W:World} {a:Addr} {v:Value} {c:Array Value} {e:TypeId} {fz:Nat×Nat} (h:W.heap[a.block]?=some (.cells c e fz)) (hs:a.spot.isSome=false) :
  (W.setCell a v).heap[a.block]?=some (.cells (c.setIfInBounds a.off v) e fz):=by simp [World.setCell,jqf,h,hs]
theorem zbV {W:World} {a:Addr} {n b:Nat} (h:a.block≠b):(W.freeze a n).heap[b]?=W.heap[b]?:=by
 unfold jqj;split<;>simp [jqf,h]
theorem zes {W:World} {a:Addr} {n:Nat} (h:W.heap[a.block]?=none):(W.freeze a n).heap[a.block]?=none:=by
 unfold jqj;split<;>simp [jqf,h]
theorem zgs {W:World} {a:Addr} {n:Nat} {c:Array Value} {e:TypeId} {fz:Nat×Nat} (h:W.heap[a.block]?=some (.cells c e fz)) :
  (W.freeze a n).heap[a.block]?=some (.cells c e (if n=0 then fz else if fz.1 == fz.2 then (a.off,a.off+n) else (min fz.1 a.off,max fz.2 (a.off+n)))):=by
 obtain⟨lo,hi⟩:=fz;unfold jqj;split
 ·exact h
 ·simp [jqf,h]
theorem zdS {W:World} {a:Addr} {n:Nat} {o:Obj} (h:W.heap[a.block]?=some o) (ho:isCells o=false):(W.freeze a n).heap[a.block]?=some o:=by
 unfold jqj;split
 ·exact h
 ·cases o<;>first | (simp [isCells] at ho;done) | simp [jqf,h]
theorem zez {o:Obj}:isCells (zaz ρ o)=isCells o:=by cases o<;>rfl
theorem zgg {o:Obj}:zbv (zaz ρ o)=zbv o:=by cases o<;>rfl
theorem zkb (o:Obj):o.isChan=zbv o:=by cases o<;>rfl
theorem zhf {W:World} {b:Nat} {o:Obj} (h:W.heap[b]?=some o) (ho:isCells o=false):W.shape? b=none:=by
 unfold World.shape?
 cases o<;>first | (simp [isCells] at ho;done) | simp [h]
theorem WR.set {W W' W1 W1' : World} (h:WR G ρ D E Fz mf W W') (inj:∀ x y,ρ.p x=ρ.p y→x=y) {b:Nat} {o:Obj} (hz:¬ Fz b) (hc:zbv o=false)
  (e1:W1.heap[b]?=some o) (e1' : W1'.heap[ρ.p b]?=some (zaz ρ o)) (hs:zba G D E o) (hp:zaK mf o=true)
  (e2:∀ x,x≠b→W1.heap[x]?=W.heap[x]?) (e2' : ∀ x,x≠ρ.p b→W1'.heap[x]?=W'.heap[x]?)
  (r1:W1'.os=W1.os) (r2:W1'.output=W1.output) (r3:∀ k q,W1'.tape (W1'.drawn+k) q=W1.tape (W1.drawn+k) q):WR G ρ D E Fz mf W1 W1' where
 os:=r1
 output:=r2
 tape:=r3
 obj x ox hD ho:=by
  by_cases hx:x=b
  ·subst hx
   rw [e1] at ho;cases ho;exact⟨_,e1',.own hz⟩
  ·rw [e2 x hx] at ho
   obtain⟨o',ho',hr⟩:=h.obj x ox hD ho;exact⟨o',by rw [e2' _ fun e=>hx (inj _ _ e)];exact ho',hr⟩
 none x hD ho:=by
  by_cases hx:x=b
  ·subst hx;rw [e1] at ho;cases ho
  ·rw [e2 x hx] at ho
   rw [e2' _ fun e=>hx (inj _ _ e)];exact h.none x hD ho
 sup x ox hD ho:=by
  by_cases hx:x=b
  ·subst hx;rw [e1] at ho;cases ho;exact⟨hs,hp,hc⟩
  ·rw [e2 x hx] at ho;exact h.sup x ox hD ho
theorem ziM {c:Array Value} {e:TypeId} {fz fz' : Nat×Nat} (h:zba G D E (.cells c e fz)):zba G D E (.cells c e fz'):=by
 simp only [zba,zaz,Obj.cells.injEq,and_true] at h ⊢;exact h
theorem zhq {c:Array Value} {e:TypeId} {fz fz' : Nat×Nat} {off:Nat} {v:Value} (h:zba G D E (.cells c e fz)) (hv:supV G D E v):zba G D E (.cells (c.setIfInBounds off v) e fz'):=by
 simp only [zba,zaz,Obj.cells.injEq,and_true] at h ⊢;rw [jqp,jqp,h,show ren (RA G) v=ren (RB G D E) v from hv]
theorem SR.run (inj:∀ x y,ρ.p x=ρ.p y→x=y) {α β:Type} {r:α→β→Prop} {rs:α→Prop} {K:Nat→Prop} {s:Sem α} {s' : Sem β} (h:SR P mf false ρ r K s s') :
  ∀ {W W' : World} {a:α} {Wf:World},Sup P mf G D E rs s→WR G ρ D E Fz mf W W'→(∀ b,K b→¬ Fz b)→s.run P W=.ok a Wf→zk2 ρ D Fz W W' Wf →
   ∃ b Wf',s'.run P W'=.ok b Wf'∧r a b∧rs a∧WR G ρ D E Fz mf Wf Wf'∧Keeps ρ D Fz W' Wf'∧Wf'.heap.size+W.heap.size=W'.heap.size+Wf.heap.size ∧
    ∀ es e,e∈s'.events P W' es→e∈es∨EvOk ρ D Fz e:=by
 induction h with
 | dead h=>intro W W' a Wf _ _ _ hr _;exact (zaU h _ _ hr).elim
 | pure h =>
  intro W W' a Wf hs hw _ hr _;simp only [jqa,Result.ok.injEq] at hr;obtain⟨rfl,rfl⟩:=hr
  cases hs with
  | dead h=>exact h.elim
  | pure hs=>exact⟨_,_,rfl,h,hs,hw,.refl,rfl,fun es e he=>.inl he⟩
 | load _ ih =>
  intro W W' x Wf hs hw hK hr hf;rename_i K a k k' hk
  cases hs with
  | dead h=>exact (zaU h _ _ hr).elim
  | load ha hsk =>
   simp only [jqa] at hr
   cases hcell:W.cell? a with
   | none =>
    rw [hcell] at hr;obtain⟨e,he⟩:=zhT (P:=P) (W:=W) (a:=a) (m:=Mode.plain == Mode.atomic) fun o ho=>hw.plain ha ho;simp only [he] at hr;cases hr
   | some v =>
    rw [hcell] at hr;obtain⟨hv',hsv,_⟩:=hw.cell ha hcell;obtain⟨b,Wf',h1,h2,h3,h4,h5,h6,h7⟩:=ih v (hsk v hsv) hw hK hr hf;refine⟨b,Wf',by simp only [jqa,hv'];exact h1,h2,h3,h4,h5,h6,fun es e he=>?_⟩;simp only [jqd,Sem.runT,hv'] at he;rcases h7 _ e he with h | h
    ·rcases jqk.1 h with h | rfl
     ·exact .inl h
     ·exact .inr (.inl ⟨_,a.block,rfl,rfl,ha,rfl,fun h=>by cases h⟩)
    ·exact .inr h
 | store _ ih =>
  intro W W' x Wf hs hw hK hr hf;rename_i K a v k k' hk
  cases hs with
  | dead h=>exact (zaU h _ _ hr).elim
  | store ha hv hsk =>
   by_cases hagg:∃ c,v=.agg c
   ·obtain⟨c,rfl⟩:=hagg;simp [jqa] at hr
   by_cases htup:∃ c,v=.tuple c
   ·obtain⟨c,rfl⟩:=htup;simp [jqa] at hr
   have hagg' : ∀ c,v≠.agg c:=fun c e=>hagg ⟨c,e⟩;have htup' : ∀ c,v≠.tuple c:=fun c e=>htup ⟨c,e⟩;obtain⟨hagg2,htup2⟩:=zpa (ρ:=ρ) hagg' htup';have e0:∀ {α:Type} {W:World} {k:Sem α} {a:Addr} {v:Value},(∀ c,v≠.agg c)→(∀ c,v≠.tuple c)→(Sem.store .plain a v k).run P W=match W.cell? a with
     | some _=>if W.frozen? a then .halt (.unsupported (.unsafePointer "a write to bytes that a string shares")) W else k.run P (W.setCell a v)
     | none=>match W.farStore P a v false with
      | .ok (w,_)=>k.run P w
      | .error h=>.halt h W:=by
    intro α W k a v h1 h2
    cases v<;>first | (exact (h1 _ rfl).elim) | (exact (h2 _ rfl).elim) | rfl
   rw [e0 hagg' htup'] at hr
   cases hcell:W.cell? a with
   | none =>
    rw [hcell] at hr;obtain⟨e,he⟩:=zg4 (P:=P) (W:=W) (a:=a) (v:=v) (m:=false) fun o ho=>hw.plain ha ho;simp only [he] at hr;cases hr
   | some v0 =>
    rw [hcell] at hr;simp only at hr
    split at hr
    ·cases hr
    rename_i hfz;simp only [Bool.not_eq_true] at hfz;obtain⟨hv',hsv,hw2⟩:=hw.cell ha hcell;obtain⟨hnz,hfz'⟩:=hw2 hfz;obtain⟨o,ho⟩:∃ o,W.heap[a.block]?=some o:=by
     unfold jqi at hcell
     split at hcell
     ·exact⟨_,by assumption⟩
     ·cases hcell
    obtain⟨c,e,fz,rfl⟩:∃ c e fz,o=.cells c e fz:=by
     simp only [jqi,ho] at hcell
     cases o<;>simp_all
    obtain⟨o',ho',hor⟩:=hw.obj _ _ ha ho;have ho'' : W'.heap[ρ.p a.block]?=some (.cells (c.map (ren ρ)) e fz):=by
     rcases hor.get with ⟨c',e',f1,f2,h1,h2,_,h4⟩ | ⟨h1,_⟩
     ·cases h1;rw [ho',h2,h4 hnz]
     ·cases h1
    have hspot:a.spot.isSome=false:=by
     simp only [jqi,ho] at hcell
     cases hs:a.spot.isSome
     ·rfl
     ·simp [hs] at hcell
    have hsupo:=(hw.sup _ _ ha ho).1;have hw1:WR G ρ D E Fz mf (W.setCell a v) (W'.setCell (zak ρ a) (ren ρ v)):=by
     refine hw.set inj (b:=a.block) (o:=.cells (c.setIfInBounds a.off v) e fz) hnz rfl ?_ ?_ (zhq hsupo hv) rfl ?_ ?_ hw.os hw.output hw.tape
     ·exact setCell_at ho hspot
     ·rw [show (W'.setCell (zak ρ a) (ren ρ v)).heap[ρ.p a.block]?=_ from setCell_at (a:=zak ρ a) ho'' hspot]
      simp [zak,zaz,jqp]
     ·exact fun x hx=>zdc (Ne.symm hx)
     ·exact fun x hx=>zdc (a:=zak ρ a) (Ne.symm hx)
    have hf1:zk2 ρ D Fz (W.setCell a v) (W'.setCell (zak ρ a) (ren ρ v)) Wf:=by
     intro b;rw [size_setCell,size_setCell];exact hf b
    obtain⟨b,Wf',h1,h2,h3,h4,h5,h6,h7⟩:=ih hsk hw1 hK hr hf1;rw [size_setCell,size_setCell] at h6;refine⟨b,Wf',?_,h2,h3,h4,?_,h6,fun es e1 he=>?_⟩
    ·rw [e0 hagg2 htup2,hv'];simp only [hfz',jqm,if_false];exact h1
    ·refine Keeps.trans ⟨by rw [size_setCell];exact Nat.le_refl _,fun x hx hn=>?_⟩ h5
     exact zdc (a:=zak ρ a) (hn a.block ha hnz)
    ·have e2:(Sem.store .plain (zak ρ a) (ren ρ v) k').events P W' es=k'.events P (W'.setCell (zak ρ a) (ren ρ v)) (es.push ⟨.cell (zak ρ a),true,false⟩):=by
      cases hrv:ren ρ v<;>first
       | (exact (hagg2 _ hrv).elim)
       | (exact (htup2 _ hrv).elim)
       | (simp only [jqd,Sem.runT,hv',hfz'];rfl)
     rw [e2] at he;rcases h7 _ e1 he with h | h
     ·rcases jqk.1 h with h | rfl
      ·exact .inl h
      ·exact .inr (.inl ⟨_,a.block,rfl,rfl,ha,rfl,fun _=>hnz⟩)
     ·exact .inr h
 | new ho hoc h ih =>
  intro W W' x Wf hs hw hK hr hf;rename_i K o k k'
  cases hs with
  | dead h=>exact (zaU h _ _ hr).elim
  | new hso hsk =>
   simp only [jqa] at hr;have hsz:W.heap.size+1≤Wf.heap.size:=by have:=za9 hr;simpa using this
   obtain⟨hD,hnz,hρ⟩:=hf W.heap.size (Nat.le_refl _) (by omega);have hρ' : ρ.p W.heap.size=W'.heap.size:=by omega
   have hw1:WR G ρ D E Fz mf { W with heap:=W.heap.push o } { W' with heap:=W'.heap.push (zaz ρ o) }:=by
    refine hw.set inj (b:=W.heap.size) (o:=o) hnz hoc ?_ ?_ hso ho ?_ ?_ hw.os hw.output hw.tape
    ·simp
    ·simp [hρ']
    ·intro x hx;simp [jqq,hx]
    ·intro x hx;rw [hρ'] at hx;simp [jqq,hx]
   have hf1:zk2 ρ D Fz { W with heap:=W.heap.push o } { W' with heap:=W'.heap.push (zaz ρ o) } Wf:=by
    intro b h1 h2;simp only [Array.size_push] at h1 ⊢;obtain⟨a1,a2,a4⟩:=hf b (by omega) h2;exact⟨a1,a2,by omega⟩
   obtain⟨b,Wf',h1,h2,h3,h4,h5,h6,h7⟩:=ih W.heap.size (hsk _ hD) hw1 (fun b hb=>by
    rcases hb with hb | rfl
    ·exact hK b hb
    ·exact hnz) hr hf1
   simp only [Array.size_push] at h6;refine⟨b,Wf',?_,h2,h3,h4,?_,by omega,fun es e he=>?_⟩
   ·simp only [jqa];rw [← hρ'];exact h1
   ·refine Keeps.trans ⟨by simp,fun x hx _=>?_⟩ h5
    simp [jqq,Nat.ne_of_lt hx]
   ·have e2:(Sem.new (zaz ρ o) k').events P W' es=(k' (ρ.p W.heap.size)).events P { W' with heap:=W'.heap.push (zaz ρ o) } es:=by
     rw [hρ'];rfl
    rw [e2] at he;exact h7 _ e he
 | shape h ih =>
  intro W W' x Wf hs hw hK hr hf;rename_i K b k k'
  cases hs with
  | dead h=>exact (zaU h _ _ hr).elim
  | shape hb hsk =>
   simp only [jqa] at hr;have hsh:W'.shape? (ρ.p b)=W.shape? b:=by
    cases ho:W.heap[b]? with
    | none=>simp only [World.shape?,hw.none b hb ho,ho]
    | some o =>
     obtain⟨o',ho',hor⟩:=hw.obj _ _ hb ho;rcases hor.get with ⟨c',e',f1,f2,rfl,rfl,_,_⟩ | ⟨h1,rfl,_⟩
     ·simp only [World.shape?,ho,ho',Array.size_map]
     ·rw [zhf ho h1,zhf ho' (by rw [zez];exact h1)]
   obtain⟨b',Wf',h1,h2,h3,h4,h5,h6,h7⟩:=ih (W.shape? b) (hsk _) hw hK hr hf;refine⟨b',Wf',by simp only [jqa,hsh];exact h1,h2,h3,h4,h5,h6,fun es e he=>?_⟩;simp only [jqd,Sem.runT,hsh] at he;exact h7 _ e he
 | freeze hKb h ih =>
  intro W W' x Wf hs hw hK hr hf;rename_i K a n k k'
  cases hs with
  | dead h=>exact (zaU h _ _ hr).elim
  | freeze ha hsk =>
   simp only [jqa] at hr;have hnz:=hK _ hKb;have hw1:WR G ρ D E Fz mf (W.freeze a n) (W'.freeze (zak ρ a) n):=by
    have hos:∀ (W:World) (a:Addr),(W.freeze a n).os=W.os∧(W.freeze a n).output=W.output∧(W.freeze a n).tape=W.tape∧(W.freeze a n).drawn=W.drawn:=by
     intro W a;unfold jqj;split<;>exact⟨rfl,rfl,rfl,rfl⟩
    have q1:=hos W a;have q2:=hos W' (zak ρ a)
    cases ho:W.heap[a.block]? with
    | none =>
     have ho':=hw.none _ ha ho;have f1:∀ x:Nat,(W.freeze a n).heap[x]?=W.heap[x]?:=by
      intro x;by_cases hx:a.block=x
      ·rw [← hx,zes ho,ho]
      ·exact zbV hx
     have f2:∀ x:Nat,(W'.freeze (zak ρ a) n).heap[x]?=W'.heap[x]?:=by
      intro x;by_cases hx:ρ.p a.block=x
      ·have e1:(W'.freeze (zak ρ a) n).heap[ρ.p a.block]?=none:=zes (a:=zak ρ a) ho'
       rw [← hx,e1,ho']
      ·exact zbV (W:=W') (a:=zak ρ a) (n:=n) (b:=x) hx
     exact⟨by rw [q1.1,q2.1,hw.os],by rw [q1.2.1,q2.2.1,hw.output],by rw [q1.2.2.1,q2.2.2.1,q1.2.2.2,q2.2.2.2];exact hw.tape,
      fun b o hb h=>by rw [f1] at h;rw [f2];exact hw.obj b o hb h,fun b hb h=>by rw [f1] at h;rw [f2];exact hw.none b hb h,fun b o hb h=>by rw [f1] at h;exact hw.sup b o hb h⟩
    | some o =>
     obtain⟨o',ho',hor⟩:=hw.obj _ _ ha ho;have hsup:=hw.sup _ _ ha ho;rcases hor.get with ⟨c,e,f1,f2,rfl,rfl,_,h4⟩ | ⟨h1,rfl,_⟩
     ·have:=h4 hnz
      subst this;refine hw.set inj (b:=a.block) (o:=.cells c e (if n=0 then f2 else if f2.1 == f2.2 then (a.off,a.off+n) else (min f2.1 a.off,max f2.2 (a.off+n)))) hnz rfl ?_ ?_ (ziM hsup.1) rfl ?_ ?_
       (by rw [q1.1,q2.1,hw.os]) (by rw [q1.2.1,q2.2.1,hw.output]) (by rw [q1.2.2.1,q2.2.2.1,q1.2.2.2,q2.2.2.2];exact hw.tape)
      ·exact zgs ho
      ·exact zgs (a:=zak ρ a) ho'
      ·exact fun x hx=>zbV (Ne.symm hx)
      ·exact fun x hx=>zbV (a:=zak ρ a) (Ne.symm hx)
     ·refine hw.set inj (b:=a.block) (o:=o) hnz hsup.2.2 ?_ ?_ hsup.1 hsup.2.1 ?_ ?_
       (by rw [q1.1,q2.1,hw.os]) (by rw [q1.2.1,q2.2.1,hw.output]) (by rw [q1.2.2.1,q2.2.2.1,q1.2.2.2,q2.2.2.2];exact hw.tape)
      ·exact zdS ho h1
      ·exact zdS (a:=zak ρ a) ho' (by rw [zez];exact h1)
      ·exact fun x hx=>zbV (Ne.symm hx)
      ·exact fun x hx=>zbV (a:=zak ρ a) (Ne.symm hx)
   have hf1:zk2 ρ D Fz (W.freeze a n) (W'.freeze (zak ρ a) n) Wf:=by
    intro b;rw [zbE,zbE];exact hf b
   obtain⟨b,Wf',h1,h2,h3,h4,h5,h6,h7⟩:=ih hsk hw1 hK hr hf1;rw [zbE,zbE] at h6;refine⟨b,Wf',h1,h2,h3,h4,?_,h6,fun es e he=>h7 _ e he⟩;refine Keeps.trans ⟨by rw [zbE];exact Nat.le_refl _,fun x hx hn=>?_⟩ h5;exact zbV (a:=zak ρ a) (hn a.block ha hnz)
 | frozen h ih =>
  intro W W' x Wf hs hw hK hr hf;rename_i K a k k'
  cases hs with
  | dead h=>exact (zaU h _ _ hr).elim
  | frozen ha hsk =>
   simp only [jqa] at hr;obtain⟨b',Wf',h1,h2,h3,h4,h5,h6,h7⟩:=ih (W.frozen? a) (W'.frozen? (zak ρ a)) (hsk _) hw hK hr hf;exact⟨b',Wf',h1,h2,h3,h4,h5,h6,fun es e he=>h7 _ e he⟩
 | getObj h ih =>
  intro W W' x Wf hs hw hK hr hf;rename_i K b k k'
  cases hs with
  | dead h=>exact (zaU h _ _ hr).elim
  | getObj hb hsk =>
   simp only [jqa] at hr
   split at hr
   ·cases hr
   ·rename_i o hnc ho
    obtain⟨o',ho',hor⟩:=hw.obj _ _ hb ho;have hsup:=hw.sup _ _ hb ho;have hch:=hsup.2.2;rcases hor.get with ⟨c,e,f1,f2,rfl,rfl,_,_⟩ | ⟨h1,rfl,hfz⟩
    ·exact (hnc _ _ _ rfl).elim
    ·obtain⟨b',Wf',g1,g2,g3,g4,g5,g6,g7⟩:=ih o hch hsup.2.1 (hsk o hch hsup.2.1 hsup.1) hw (fun y hy=>by
      rcases hy with hy | ⟨rfl,hy⟩
      ·exact hK y hy
      ·intro hz
       rw [hfz hz] at hy;cases hy) hr hf
     have hrun:∀ es,(Sem.getObj (ρ.p b) k').runT P W' es=(k' (zaz ρ o)).runT P W' (es.push ⟨.obj (ρ.p b),false,(zaz ρ o).isChan⟩):=by
      intro es;simp only [Sem.runT,ho']
      cases o<;>first | (simp [isCells] at h1;done) | rfl
     refine⟨b',Wf',?_,g2,g3,g4,g5,g6,fun es e he=>?_⟩
     ·rw [← Sem.runT_fst P _ W' #[],hrun,Sem.runT_fst];exact g1
     ·simp only [jqd,hrun] at he
      rcases g7 _ e he with h | h
      ·rcases jqk.1 h with h | rfl
       ·exact .inl h
       ·refine .inr (.inr (.inl ⟨b,rfl,?_,hb,fun h=>by cases h⟩))
        show (zaz ρ o).isChan=false;rw [zkb,zgg];exact hch
      ·exact .inr h
   ·cases hr
 | setObj hKb ho hc h ih =>
  intro W W' x Wf hs hw hK hr hf;rename_i K b o k k'
  cases hs with
  | dead h=>exact (zaU h _ _ hr).elim
  | setObj hb hso hsk =>
   simp only [jqa] at hr;have hnz:=hK _ hKb
   split at hr
   ·cases hr
   ·rename_i o0 hnce ho0
    obtain⟨o',ho',hor⟩:=hw.obj _ _ hb ho0;have hblt:b<W.heap.size:=by
     rcases Nat.lt_or_ge b W.heap.size with h | h
     ·exact h
     ·rw [jqo h] at ho0;cases ho0
    have hblt' : ρ.p b<W'.heap.size:=by
     rcases Nat.lt_or_ge (ρ.p b) W'.heap.size with h | h
     ·exact h
     ·rw [jqo h] at ho';cases ho'
    have hno' : isCells o'=false:=by
     rcases hor.get with ⟨c,e,f1,f2,rfl,rfl,_,_⟩ | ⟨h1,rfl,_⟩
     ·exact (hnce _ _ _ rfl).elim
     ·rw [zez];exact h1
    have hw1:WR G ρ D E Fz mf { W with heap:=W.heap.setIfInBounds b o } { W' with heap:=W'.heap.setIfInBounds (ρ.p b) (zaz ρ o) }:=by
     refine hw.set inj (b:=b) (o:=o) hnz hc ?_ ?_ hso ho ?_ ?_ hw.os hw.output hw.tape
     ·simp [hblt]
     ·simp [hblt']
     ·intro x hx;simp [Ne.symm hx]
     ·intro x hx;simp [Ne.symm hx]
    have hf1:zk2 ρ D Fz { W with heap:=W.heap.setIfInBounds b o } { W' with heap:=W'.heap.setIfInBounds (ρ.p b) (zaz ρ o) } Wf:=by
     intro y;simp only [Array.size_setIfInBounds];exact hf y
    obtain⟨b',Wf',h1,h2,h3,h4,h5,h6,h7⟩:=ih hsk hw1 hK hr hf1;simp only [Array.size_setIfInBounds] at h6;have hrun:∀ es,(Sem.setObj (ρ.p b) (zaz ρ o) k').runT P W' es=k'.runT P { W' with heap:=W'.heap.setIfInBounds (ρ.p b) (zaz ρ o) } (es.push ⟨.obj (ρ.p b),true,(zaz ρ o).isChan⟩):=by
     intro es;simp only [Sem.runT,ho']
     cases o'<;>first | (simp [isCells] at hno';done) | rfl
    refine⟨b',Wf',?_,h2,h3,h4,?_,h6,fun es e he=>?_⟩
    ·rw [← Sem.runT_fst P _ W' #[],hrun,Sem.runT_fst];exact h1
    ·refine Keeps.trans ⟨by simp,fun x hx hn=>?_⟩ h5
     have:ρ.p b≠x:=hn b hb hnz;simp [this]
    ·simp only [jqd,hrun] at he
     rcases h7 _ e he with h | h
     ·rcases jqk.1 h with h | rfl
      ·exact .inl h
      ·refine .inr (.inr (.inl ⟨b,rfl,?_,hb,fun _=>hnz⟩))
       show (zaz ρ o).isChan=false;rw [zkb,zgg];exact hc
     ·exact .inr h
   ·cases hr
 | choose h ih =>
  intro W W' x Wf hs hw hK hr hf;rename_i K q k k'
  cases hs with
  | dead h=>exact (zaU h _ _ hr).elim
  | choose hsk =>
   simp only [jqa] at hr;by_cases hq:q.forced=true
   ·rw [if_pos hq] at hr
    obtain⟨b',Wf',h1,h2,h3,h4,h5,h6,h7⟩:=ih 0 (hsk _) hw hK hr hf;refine⟨b',Wf',by simp only [jqa,hq,if_true];exact h1,h2,h3,h4,h5,h6,fun es e he=>?_⟩;simp only [jqd,Sem.runT,hq,if_true] at he;exact h7 _ e he
   ·rw [if_neg hq] at hr
    have hw1:WR G ρ D E Fz mf { W with drawn:=W.drawn+1 } { W' with drawn:=W'.drawn+1 } :=
     ⟨hw.os,hw.output,fun k q=>by have:=hw.tape (k+1) q;rw [show W'.drawn+(k+1)=W'.drawn+1+k by omega,show W.drawn+(k+1)=W.drawn+1+k by omega] at this;exact this,hw.obj,hw.none,hw.sup⟩
    have ht0:W'.tape W'.drawn q=W.tape W.drawn q:=hw.tape 0 q;obtain⟨b',Wf',h1,h2,h3,h4,h5,h6,h7⟩:=ih _ (hsk _) hw1 hK hr hf;refine⟨b',Wf',by simp only [jqa,if_neg hq,ht0] at h1 ⊢;exact h1,h2,h3,h4,h5,h6,fun es e he=>?_⟩;simp only [jqd,Sem.runT,if_neg hq,ht0] at he h7;exact h7 _ e he
 | program h ih =>
  intro W W' x Wf hs hw hK hr hf
  cases hs with
  | dead h=>exact (zaU h _ _ hr).elim
  | program hsk =>
   simp only [jqa] at hr;obtain⟨b',Wf',h1,h2,h3,h4,h5,h6,h7⟩:=ih hsk hw hK hr hf;exact⟨b',Wf',h1,h2,h3,h4,h5,h6,fun es e he=>h7 _ e he⟩
 | mark h ih =>
  intro W W' x Wf hs hw hK hr hf
  cases hs with
  | dead h=>exact (zaU h _ _ hr).elim
  | mark hsk =>
   simp only [jqa] at hr;obtain⟨b',Wf',h1,h2,h3,h4,h5,h6,h7⟩:=ih hsk hw hK hr hf;refine⟨b',Wf',h1,h2,h3,h4,h5,h6,fun es e he=>?_⟩;rcases h7 _ e he with h | h
   ·rcases jqk.1 h with h | rfl
    ·exact .inl h
    ·exact .inr (.inr (.inr rfl))
   ·exact .inr h
end
end Go.Con
namespace Go.Con
open Go
variable [Lone]
section
variable {P:Program} {maps:Bool}
def ziG:Next→Prop
 | .value _ | .skip | .enter .. | .round ..=>True
 | _=>False
theorem zbU {s:Sem Value} {w w1:World} {n:Next} (h:(do pure (.value (← s)):Sem Next).run P w=.ok n w1):ziG n:=by
 rw [jqb] at h
 cases hs:s.run P w with
 | halt=>rw [hs] at h;cases h
 | ok v w2=>rw [hs] at h;cases h;trivial
theorem zox {s:Sem Unit} {w w1:World} {n:Next} (h:(do s;pure .skip:Sem Next).run P w=.ok n w1):ziG n:=by
 rw [jqb] at h
 cases hs:s.run P w with
 | halt=>rw [hs] at h;cases h
 | ok v w2=>rw [hs] at h;cases h;trivial
theorem zhL {f:FuncId} (hg:zaL P (.func f)=true) {args:Array Value} {w w1:World} {n:Next} (h:(callFunc f args).run P w=.ok n w1):ziG n:=by
 unfold callFunc at h;rw [jqb] at h;simp only [program,jqa,jql] at h;simp only [zaL] at hg
 cases hf:P.funcs[f]? with
 | none=>rw [hf] at hg;cases hg
 | some fn =>
  rw [hf] at hg h;simp only [jqn] at hg;have h1:(fn.name == "runtime.NumGoroutine")=false:=by
   have:=hg.1.2
   simpa [bne] using this
  have h2:fn.body.isNone=false:=by
   cases hb:fn.body<;>simp_all
  simp only [h1,h2,jqm,if_false] at h;cases h
  trivial
theorem zeo {f:Value} (hc:zcF P f=true) {args:Array Value} {w w1:World} {n:Next}
  (h:(do let d ← Deferred.ofValue f args;invoke d.target d.args).run P w=.ok n w1):ziG n:=by
 cases f with
 | func fn a b =>
  cases fn with
  | func g=>exact zhL hc h
  | yield l =>
   change (Instr.yield l (a++args)).run P w=_ at h;unfold Instr.yield at h;rw [jqb] at h
   cases hs:(Instr.getLoop l).run P w with
   | halt=>rw [hs] at h;cases h
   | ok r w2 =>
    rw [hs] at h;simp only [jql] at h
    split at h
    ·cases h
    ·cases h;trivial
  | method s =>
   exfalso
   obtain⟨x,rfl,rfl⟩:=zcb hc;have e:(#[Value.nilIface]++args)[0]?=some .nilIface:=by
    rw [Array.getElem?_append_left (by simp)];rfl
   change (invoke (.fn (.method s) #[.chan (some x)]) (#[.nilIface]++args)).run P w=_ at h;unfold invoke at h;rw [e] at h;exact zaU (zas (P:=P) (α:=Next) .nilDeref) _ _ h
  | _=>cases hc
 | nilFunc =>
  exfalso
  have:=zaU (zas (P:=P) (α:=Next) .nilDeref) (W:=w) n w1;exact this h
 | _=>cases h
theorem zjI {e:Operand→Value} {o:Oper} (ho:okOp P maps o.op=true) (hv:zgZ P e o.op=true) {w w1:World} {n:Next} (h:(execOp e o).run P w=.ok n w1):ziG n:=by
 unfold execOp at h;obtain⟨dst,op,ty,pos,after,guard⟩:=o
 cases op with
 | move x=>cases h;trivial
 | assign x=>cases h;trivial
 | pick c a b =>
  dsimp only at h;rw [jqb] at h
  cases hs:(asBool (e c)).run P w with
  | halt=>rw [hs] at h;cases h
  | ok v w2=>rw [hs] at h;cases h;trivial
 | nilCheck x =>
  have hv' : zcF P (e x)=true:=hv;dsimp only at h;have hp:∀ n w1,(runtimePanic .nilDeref:Sem Next).run P w≠.ok n w1:=fun n w1=>zaU (zas (P:=P) (α:=Next) .nilDeref) n w1
  cases hx:e x with
  | pointer a=>rw [hx] at h;cases a<;>first | exact (hp _ _ h).elim | (cases h;trivial)
  | nilIface=>rw [hx] at h;exact (hp _ _ h).elim
  | nilFunc=>rw [hx] at h;exact (hp _ _ h).elim
  | func fn a b =>
   rw [hx] at h hv'
   cases fn with
   | method s=>obtain⟨x,rfl,rfl⟩:=zcb hv';exact (hp _ _ h).elim
   | _=>first | (cases hv';done) | (cases h;trivial)
  | _=>rw [hx] at h;cases h;trivial
 | store t a x=>exact zox h
 | mapUpdate t m k x=>exact zox h
 | call c =>
  obtain⟨cal,args,ats⟩:=c;simp only [okOp,zj0,jqn] at ho;dsimp only [resolve] at h
  cases cal with
  | value f=>exact zeo hv h
  | builtin b =>
   change (builtin b ats ty _ _).run P w=_ at h;unfold builtin at h
   cases b<;>first | (cases ho.2;done) | exact zbU h
  | invoke=>cases ho.2
 | alloc=>exact zbU h
 | box=>exact zbU h
 | build=>exact zbU h
 | buildSlice=>exact zbU h
 | load=>exact zbU h
 | binOp=>exact zbU h
 | unOp=>exact zbU h
 | convert=>exact zbU h
 | makeFunc=>exact zbU h
 | makeMap=>exact zbU h
 | makeSlice=>exact zbU h
 | slice=>exact zbU h
 | fieldAddr=>exact zbU h
 | field=>exact zbU h
 | indexAddr=>exact zbU h
 | index=>exact zbU h
 | lookup=>exact zbU h
 | range=>exact zbU h
 | next=>exact zbU h
 | entry=>exact zbU h
 | extract=>exact zbU h
 | _=>cases ho
def zec (P:Program) (fr:Frame):Prop:=match fr.todo with
 | .code (.rangeFunc f ..) :: _=>zcF P (fr.eval f)=true
 | .inRegion ops (i :: _) :: _=>∀ o,ops[i]?=some o→zgZ P fr.eval o.op=true
 | _=>True
def fails (s:GStep) (cs:List Frame) (w:World):Prop :=
 (∃ o w es,s=.ended o w es) ∨
 ∃ fr v es,s=.go { frame:=Frame.raise fr [{ v,recovered:=false }],callers:=cs,status:=.running,dying:=none } w es∧fr.mode=.run∧fr.kind=.normal ∧
  (∀ d∈fr.defers,∃ r,d={ target:=.collected r,args:=#[] })
theorem zbn {s:GStep} {cs:List Frame} {es:Array Event} {w1:World} (h:fails s cs w1):fails (GStep.after es s) cs w1:=by
 rcases h with ⟨o,w,e,rfl⟩ | ⟨fr,v,e,rfl,h1,h2⟩
 ·exact .inl ⟨o,w,es++e,rfl⟩
 ·exact .inr ⟨fr,v,es++e,rfl,h1,h2⟩
theorem zdo {fr:Frame} {cs:List Frame} {s:Sem Next} {w w1:World} {hh:Halt} (hm:fr.mode=.run) (hk:fr.kind=.normal) (hd:∀ d∈fr.defers,∃ r,d={ target:=.collected r,args:=#[] })
  (h:s.run P w=.halt hh w1) (hok:zej hh):fails (stepG.apply P true fr cs none s w) cs w1:=by
 unfold stepG.apply;simp only [jqg,if_true];rw [h]
 cases hh with
 | panic v=>exact zbn (.inr ⟨fr,v,#[],rfl,hm,hk,hd⟩)
 | stuck v=>exact zbn (.inl ⟨_,_,#[],rfl⟩)
 | unsupported u=>cases u<;>first | exact hok.elim | exact zbn (.inl ⟨_,_,#[],rfl⟩)
 | _=>exact hok.elim
theorem zer {main:Bool} {fr:Frame} {cs:List Frame} {jump:Option Code} {w w1:World} {hh:Halt} (hcs:fr.roundOf=none∨cs≠[]) :
  (zbf fr cs jump).run P w=.halt hh w1 →
  fails (match fr.roundOf with
   | none=>if jump matches none | some .ret then .go { frame:={ fr with mode:=.returning },callers:=cs,status:=.running,dying:=none } w else .ended (.stuck "exit, goto: no such block or label" (fr.pos P)) w
   | some l =>
    let (r,es):=(Instr.endRound l jump).runT P w #[]
    GStep.after (seen P fr.fn es) <| match r with
    | .ok v w=>doReturn P main fr cs none v w
    | .halt _ w=>.ended (.stuck "range over a function: no such loop" (fr.pos P)) w) cs w1:=by
 intro h;obtain⟨fn,tmps,todo,defers,mode,kind,roundOf⟩:=fr
 cases roundOf with
 | none =>
  cases jump with
  | none=>cases h
  | some c=>cases c<;>first | (cases h;done) | exact .inl ⟨_,_,_,rfl⟩
 | some l =>
  dsimp only [zbf] at h ⊢;rw [jqb] at h;simp only [jqg]
  cases hs:(Instr.endRound l jump).run P w with
  | halt hh w1=>exact zbn (.inl ⟨_,_,_,rfl⟩)
  | ok v w1 =>
   rw [hs] at h;simp only [jql] at h
   cases cs with
   | nil=>exact absurd rfl (hcs.resolve_left (by simp))
   | cons c rest=>cases h
theorem zgS {fn:FuncId} {tmps:Array Value} {params:Array Tmp} {a b:Code} {around:Option Nat} {w w1:World} {x:Nat×List Deferred}
  (h:(Instr.enterLoop fn tmps params a b around).run P w=.ok x w1):∀ d∈x.2,∃ r,d={ target:=.collected r,args:=#[] }:=by
 unfold Instr.enterLoop at h
 cases around with
 | none =>
  dsimp only at h;rw [jqb] at h
  cases hs:(newObj (.deferred (some []))).run P w with
  | halt=>rw [hs] at h;cases h
  | ok r w2 =>
   rw [hs] at h;cases h
   intro d hd;exact⟨r,List.mem_singleton.1 hd⟩
 | some l =>
  dsimp only at h;rw [jqb] at h
  cases hs:(Instr.getLoop l).run P w with
  | halt=>rw [hs] at h;cases h
  | ok r w2 =>
   rw [hs] at h;cases h
   intro d hd;cases hd
theorem zlD {main:Bool} {fr:Frame} {cs:List Frame} {st:GoStatus} {off:Option (Array CommCase×CommShape)} {w w1:World} {hh:Halt} (hok:OkFrame P maps fr) (hc:zec P fr)
  (hcs:fr.roundOf=none∨cs≠[]) (hret:fr.mode=.returning→fr.defers=[]→cs≠[]) (h:(zao P fr cs).run P w=.halt hh w1) (hhok:zej hh) :
  fails (stepG P main { frame:=fr,callers:=cs,status:=st,dying:=none,offers:=off } w true) cs w1:=by
 have hk:=hok.kind;have hd:=hok.defers;rcases hok.mode with hm | hm
 ·unfold zao at h
  rw [hm] at h;have hst:stepG P main { frame:=fr,callers:=cs,status:=st,dying:=none,offers:=off } w true=stepG.exec P main true fr cs none w:=by
   unfold stepG;simp only [hm]
  rw [hst];have htodo:=hok.todo;obtain⟨fn,tmps,todo,defers,mode,kind,roundOf⟩:=fr;dsimp only at hm hk htodo hd hcs;subst hm hk;dsimp only at h;unfold stepG.exec;unfold zcD at h
  cases todo with
  | nil=>exact zer hcs h
  | cons it k =>
   simp only [List.all_cons,jqn] at htodo
   cases it with
   | code c =>
    cases c with
    | skip=>cases h
    | ret=>exact zer hcs h
    | seq a b=>cases h
    | block id b=>cases h
    | loop b=>cases h
    | cond c a b =>
     dsimp only at h ⊢
     split at h
     ·cases h
     ·rename_i hx
      split
      ·rename_i b hb
       exact (hx b hb).elim
      ·exact .inl ⟨_,_,_,rfl⟩
    | exit id =>
     dsimp only at h ⊢
     cases he:exitTo id k with
     | none=>rw [he] at h;exact zer hcs h
     | some k'=>rw [he] at h;cases h
    | region id ops draw =>
     cases draw
     ·cases h
     ·simp only [Bool.not_true,jqm,if_false] at h ⊢
      rw [jqb] at h
      cases hc:(choose (.order fn id)).run P w with
      | halt hh w1=>exact .inl ⟨_,_,_,rfl⟩
      | ok t w1=>rw [hc] at h;cases h
    | rangeFunc f params assign body =>
     dsimp only at h ⊢;simp only [jqg];rw [jqb] at h
     cases hs:(Instr.enterLoop fn tmps params assign body roundOf).run P w with
     | halt hh w1=>exact zbn (.inl ⟨_,_,_,rfl⟩)
     | ok x w2 =>
      have hmk:=zgS hs;obtain⟨l,mark⟩:=x;rw [hs] at h;simp only [jql] at h ⊢;have hres:resolve (jqh { fn:=fn,tmps:=tmps,todo:=Item.inRangeFunc l :: k,defers:=mark++defers,mode:=jqe,kind:=jqc,roundOf:=roundOf }) { callee:=.value f,args:=#[.const (.func (.yield l) #[] #[])],argTypes:=#[] } 0 =
        Deferred.ofValue (jqh { fn:=fn,tmps:=tmps,todo:=Item.code (Code.rangeFunc f params assign body) :: k,defers:=defers,mode:=jqe,kind:=jqc,roundOf:=roundOf } f) #[.func (.yield l) #[] #[]]:=by
       cases f<;>simp [resolve,jqh]
      rw [hres];rw [jqb] at h
      cases hn:(do let d ← Deferred.ofValue (jqh { fn:=fn,tmps:=tmps,todo:=Item.code (Code.rangeFunc f params assign body) :: k,defers:=defers,mode:=jqe,kind:=jqc,roundOf:=roundOf } f) #[.func (.yield l) #[] #[]];invoke d.target d.args:Sem Next).run P w2 with
      | ok n w3 =>
       rw [hn] at h;have:=zeo hc hn
       cases n<;>first | exact this.elim | (cases h;done)
      | halt hh3 w3 =>
       rw [hn] at h;cases h
       refine zbn (zdo rfl rfl ?_ hn hhok);intro d hdm;rcases List.mem_append.1 hdm with hdm | hdm
       ·exact hmk d hdm
       ·exact hd d hdm
    | _=>cases htodo.1
   | inBlock id=>cases h
   | inLoop b=>cases h
   | inRegion ops todo =>
    cases todo with
    | nil=>cases h
    | cons i rest =>
     dsimp only at h ⊢
     split at h
     ·rename_i hw
      rw [if_pos hw]
      cases ho:ops[i]? with
      | none=>rw [ho] at hw;cases hw
      | some o =>
       rw [ho] at h;have hop:okOp P maps o.op=true:=by
        have:=htodo.1;simp only [zbd,List.all_cons,ho,Option.all_some,jqn] at this;exact this.1
       have hf:({ fn:=fn,tmps:=tmps,todo:=Item.inRegion ops (i :: rest) :: k,defers:=defers,mode:=jqe,kind:=jqc,roundOf:=roundOf }:Frame).oper?=some o:=ho;unfold stepG.oper;rw [hf];dsimp only at h;rw [jqb] at h;have hg2:fails (stepG.apply P true { fn:=fn,tmps:=tmps,todo:=Item.inRegion ops (i :: rest) :: k,defers:=defers,mode:=jqe,kind:=jqc,roundOf:=roundOf } cs none
         (execOp (jqh { fn:=fn,tmps:=tmps,todo:=Item.inRegion ops (i :: rest) :: k,defers:=defers,mode:=jqe,kind:=jqc,roundOf:=roundOf }) o) w) cs w1:=by
        cases hn:(execOp (jqh { fn:=fn,tmps:=tmps,todo:=Item.inRegion ops (i :: rest) :: k,defers:=defers,mode:=jqe,kind:=jqc,roundOf:=roundOf }) o).run P w with
        | ok n w3 =>
         rw [hn] at h;have:=zjI hop (hc o ho) hn
         cases n<;>first | exact this.elim | (cases h;done)
        | halt hh3 w3 =>
         rw [hn] at h;cases h
         exact zdo rfl rfl hd hn hhok
       dsimp only;split
       ·rename_i l c hh
        rw [hh] at hop;cases hop
       ·exact hg2
     ·cases h
   | inRangeFunc l=>exact .inl ⟨_,_,_,rfl⟩
   | endRangeFunc l =>
    dsimp only at h ⊢;simp only [jqg];rw [jqb] at h
    cases hs:(Instr.endLoop l).run P w with
    | halt hh2 w2 =>
     rw [hs] at h;cases h
     cases hh with
     | panic v=>exact zbn (.inr ⟨_,v,#[],rfl,rfl,rfl,hd⟩)
     | _=>exact zbn (.inl ⟨_,_,_,rfl⟩)
    | ok jump w1=>rw [hs] at h;cases h
   | beginRound =>
    dsimp only at h ⊢;rw [jqb] at h
    cases hs:(roundOf.elim (stuck "") Instr.beginRound:Sem Unit).run P w with
    | ok u w1=>rw [hs] at h;cases h
    | halt hh2 w2 =>
     rw [hs] at h;cases h
     cases roundOf with
     | none =>
      change (Result.halt (.stuck "") w:Result Unit)=_ at hs;cases hs
      exact zdo (hh:=.stuck "beginRound: no round") rfl rfl hd rfl trivial
     | some l =>
      refine zdo rfl rfl hd (w1:=w1) ?_ hhok;rw [jqb];change ((Instr.beginRound l).run P w).andThen _=_;change (Instr.beginRound l).run P w=_ at hs;rw [hs];rfl
   | _=>cases htodo.1
 ·
  obtain⟨fn,tmps,todo,defers,mode,kind,roundOf⟩:=fr;dsimp only at hm hk hret;subst hm hk;have hst:stepG P main { frame:={ fn:=fn,tmps:=tmps,todo:=todo,defers:=defers,mode:=FrameMode.returning,kind:=jqc,roundOf:=roundOf },callers:=cs,status:=st,dying:=none,offers:=off } w true=unwind P main { fn:=fn,tmps:=tmps,todo:=todo,defers:=defers,mode:=FrameMode.returning,kind:=jqc,roundOf:=roundOf } cs none w:=by
   unfold stepG;rfl
  rw [hst];unfold unwind;unfold zao at h;dsimp only at h ⊢ hd
  cases defers with
  | cons d ds =>
   obtain⟨b,rfl⟩:=hd d (List.mem_cons_self ..);dsimp only at h ⊢;simp only [jqg];rw [jqb] at h
   cases hs:(Instr.takeDeferred b).run P w with
   | halt hh w1=>exact zbn (.inl ⟨_,_,_,rfl⟩)
   | ok calls w1=>rw [hs] at h;cases h
  | nil =>
   dsimp only at h ⊢
   cases hf:P.funcs[fn]? with
   | none =>
    rw [hf] at h
    cases cs with
    | nil=>exact absurd rfl (hret rfl rfl)
    | cons c rest=>cases h
   | some f =>
    rw [hf] at h;dsimp only at h ⊢;simp only [jqg];rw [jqb] at h
    cases hs:(results f tmps).run P w with
    | halt hh2 w2=>cases hh2<;>exact zbn (.inl ⟨_,_,_,rfl⟩)
    | ok v w1 =>
     rw [hs] at h;simp only [jql] at h
     cases cs with
     | nil=>exact absurd rfl (hret rfl rfl)
     | cons c rest=>cases h
end
end Go.Con
