import Derived.Test.YtedomogjmhommaaH31
import Derived.CallsIn
set_option linter.all false
set_option maxRecDepth 100000
set_option maxHeartbeats 8000000
namespace Go.Con
open Go
variable [Lone]
def LW (G:Gd) (D E:Nat→Prop) (mf:Md) (W:World):Prop :=
 ∀ b o,D b→W.heap[b]?=some o→za8 G D E o∧zaG mf o=true∧zbm o=false
section
variable {P:Program} {mf:Md} {G:Gd} {D E:Nat→Prop}
theorem LW.cell {W:World} (h:LW G D E mf W) {a:Addr} {v:Value} (hD:D a.block) (hv:W.cell? a=some v):supV G D E v:=by
 unfold World.cell? at hv
 split at hv
 ·rename_i c e fz ho
  obtain⟨hsup,_⟩:=h _ _ hD ho
  obtain⟨b,off,spot⟩:=a
  cases spot with
  | some s=>simp at hv
  | none =>
   simp only [Option.isSome_none,Bool.false_eq_true,if_false] at hv
   simp only [za8,zau,Obj.cells.injEq,and_true] at hsup
   have:=congrArg (fun a=>a[off]?) hsup
   show ren (RA G) v=ren (RB G D E) v
   simpa [hv] using this
 ·cases hv
theorem LW.set {W W1:World} (h:LW G D E mf W) {b:Nat} {o:Obj} (ho:za8 G D E o∧zaG mf o=true∧zbm o=false)
  (h1:∀ x,x≠b→W1.heap[x]?=W.heap[x]?) (h2:∀ x,W1.heap[b]?=some x→x=o):LW G D E mf W1:=by
 intro x y hD hx
 by_cases e:x=b
 ·subst e
  rw [h2 _ hx];exact ho
 ·rw [h1 x e] at hx
  exact h x y hD hx
theorem LW.noCell {W:World} (h:LW G D E mf W) {a:Addr} (hD:D a.block) {t:String}:zeb (W.noCell a t):=by
 unfold World.noCell
 split
 ·rename_i h1
  have:=(h _ _ hD h1).2.1
  cases this
 ·trivial
 ·trivial
theorem LW.load {W:World} (h:LW G D E mf W) {a:Addr} (hD:D a.block) {m:Bool}:W.farLoad P a m=.error (W.noCell a "load: no such cell"):=by
 unfold World.farLoad
 split
 ·rename_i h1
  have:=(h _ _ hD h1).2.1
  cases this
 ·rfl
theorem LW.store {W:World} (h:LW G D E mf W) {a:Addr} {v:Value} (hD:D a.block) {m:Bool}:∃ t,W.farStore P a v m=.error (W.noCell a t):=by
 unfold World.farStore
 split
 ·rename_i h1
  have:=(h _ _ hD h1).2.1
  cases this
 ·exact⟨_,rfl⟩
def Run1 (G:Gd) (D E:Nat→Prop) (mf:Md) (P:Program) {α:Type} (rs:α→Prop) (s:Sem α) (W:World):Prop :=
 match s.run P W with
 | .ok a Wf=>EmptyDef Wf∧rs a∧LW G D E mf Wf∧W.heap.size≤Wf.heap.size∧Wf.tape=W.tape∧W.drawn≤Wf.drawn∧Wf.os=W.os∧Wf.output=W.output ∧
   ∀ τ:Nat→Question→Nat,(∀ i q,i<Wf.drawn→τ i q=W.tape i q)→s.run P { W with tape:=τ }=.ok a { Wf with tape:=τ }
 | .halt hh Wf=>zeb hh∧EmptyDef Wf
theorem Run1.step {α:Type} {rs:α→Prop} {s s1:Sem α} {W W1:World} (h1:∀ τ:Nat→Question→Nat,(∀ i q,i<W1.drawn→τ i q=W.tape i q)→s.run P { W with tape:=τ }=s1.run P { W1 with tape:=τ })
  (ht:W1.tape=W.tape) (hd:W.drawn≤W1.drawn) (hs:W.heap.size≤W1.heap.size) (ho:W1.os=W.os) (hp:W1.output=W.output) (h:Run1 G D E mf P rs s1 W1):Run1 G D E mf P rs s W:=by
 have e:s.run P W=s1.run P W1:=by
  have:=h1 W.tape fun _ _ _=>rfl
  rw [← ht] at this
  have e1:({ W with tape:=W1.tape }:World)=W:=by rw [ht]
  rw [e1] at this
  exact this
 unfold Run1 at h ⊢
 rw [e]
 cases hr:s1.run P W1 with
 | halt hh Wf=>rw [hr] at h;exact h
 | ok a Wf =>
  rw [hr] at h
  obtain⟨a0,a1,a2,a3,a4,a5,a6,a7,a8⟩:=h
  refine⟨a0,a1,a2,Nat.le_trans hs a3,a4.trans ht,Nat.le_trans hd a5,a6.trans ho,a7.trans hp,fun τ hτ=>?_⟩
  rw [h1 τ fun i q hi=>hτ i q (Nat.lt_of_lt_of_le hi a5)]
  exact a8 τ fun i q hi=>by rw [hτ i q hi,ht]
theorem Run1.halts {α:Type} {rs:α→Prop} {s:Sem α} {W Wf:World} {hh:Halt} (h:s.run P W=.halt hh Wf) (hk:zeb hh) (hE:EmptyDef Wf):Run1 G D E mf P rs s W:=by
 unfold Run1
 rw [h]
 exact⟨hk,hE⟩
theorem zlO {W:World} {a:Addr} {v:Value} (h:W.cell? a=some v):∃ c e fz,W.heap[a.block]?=some (.cells c e fz)∧a.spot.isSome=false:=by
 unfold World.cell? at h
 split at h
 ·rename_i c e fz ho
  refine⟨c,e,fz,ho,?_⟩
  cases hs:a.spot.isSome with
  | false=>rfl
  | true=>rw [hs] at h;cases h
 ·cases h
theorem zgR {o:Obj} (h:zaG mf o=true):zkB o=true:=by
 cases o with
 | deferred c=>cases c with
  | none=>rfl
  | some l=>cases l with
   | nil=>rfl
   | cons=>cases h
 | _=>rfl
theorem Sup.run1 {α:Type} {rs:α→Prop} {s:Sem α} (h:Sup P mf G D E rs s):∀ {W:World},LW G D E mf W→EmptyDef W→(∀ b,W.heap.size≤b→D b)→Run1 G D E mf P rs s W:=by
 induction h with
 | dead h =>
  intro W _ hE _
  obtain⟨hh,Wf,h1,h2,h3⟩:=zbE (W:=W) h hE
  exact .halts h1 h2 h3
 | pure h=>intro W hw hE _;exact⟨hE,h,hw,Nat.le_refl _,rfl,Nat.le_refl _,rfl,rfl,fun _ _=>rfl⟩
 | load ha h ih =>
  intro W hw hE hD
  rename_i m a k
  cases hc:W.cell? a with
  | some v =>
   refine .step (s1:=k v) (W1:=W) (fun τ _=>?_) rfl (Nat.le_refl _) (Nat.le_refl _) rfl rfl (ih v (hw.cell ha hc) hw hE hD)
   have:({ W with tape:=τ }:World).cell? a=some v:=hc
   simp only [Sem.run,this]
  | none =>
   refine .halts (hh:=W.noCell a "load: no such cell") (Wf:=W) ?_ (hw.noCell ha) hE
   simp only [Sem.run,hc,hw.load (P:=P) ha]
 | store ha hv h ih =>
  intro W hw hE hD
  rename_i m a v k
  by_cases hagg:(∃ c,v=.agg c)∨∃ c,v=.tuple c
  ·rcases hagg with ⟨c,rfl⟩ | ⟨c,rfl⟩<;>exact .halts rfl trivial hE
  have hrun:∀ W:World,(Sem.store m a v k).run P W=match W.cell? a with
    | some _=>if W.frozen? a then .halt (.unsupported (.unsafePointer "a write to bytes that a string shares")) W else k.run P (W.setCell a v)
    | none=>match W.farStore P a v (m == .atomic) with
     | .ok (w,_)=>k.run P w
     | .error h=>.halt h W:=by
   intro W
   cases v<;>first | rfl | (exact (hagg (.inl ⟨_,rfl⟩)).elim) | (exact (hagg (.inr ⟨_,rfl⟩)).elim)
  cases hc:W.cell? a with
  | none =>
   obtain⟨t,ht⟩:=hw.store (P:=P) (a:=a) (v:=v) ha (m:=(m == .atomic))
   refine .halts (hh:=W.noCell a t) (Wf:=W) ?_ (hw.noCell ha) hE
   rw [hrun,hc]
   simp only [ht]
  | some v0 =>
   by_cases hf:W.frozen? a=true
   ·refine .halts (hh:=.unsupported (.unsafePointer "a write to bytes that a string shares")) (Wf:=W) ?_ trivial hE
    rw [hrun,hc]
    simp only [hf,if_true]
   ·obtain⟨c,e,fz,ho,hsp⟩:=zlO hc
    have hset:(W.setCell a v).heap[a.block]?=some (.cells (c.setIfInBounds a.off v) e fz):=by
     have:=setCell_at (W:=W) (a:=a) (v:=v) ho hsp
     exact this
    refine .step (s1:=k) (W1:=W.setCell a v) (fun τ _=>?_) rfl (Nat.le_refl _) (by rw [size_setCell];exact Nat.le_refl _) rfl rfl (ih ?_ (hE.set (b:=a.block) (o:=.cells (c.setIfInBounds a.off v) e fz) rfl (fun x hx=>zc5 (Ne.symm hx)) fun x hx=>(Option.some.inj (hset.symm.trans hx)).symm) ?_)
    ·rw [hrun]
     have h1:({ W with tape:=τ }:World).cell? a=some v0:=hc
     have h2:({ W with tape:=τ }:World).frozen? a=W.frozen? a:=rfl
     rw [h1]
     simp only [h2,hf,if_false,Bool.false_eq_true]
     rfl
    ·obtain⟨s1,s2,s3⟩:=hw _ _ ha ho
     refine hw.set (b:=a.block) (o:=.cells (c.setIfInBounds a.off v) e fz) ⟨zh6 s1 hv,rfl,rfl⟩ (fun x hx=>zc5 (Ne.symm hx)) fun x hx=>?_
     rw [hset] at hx
     exact (Option.some.inj hx).symm
    ·rw [size_setCell];exact hD
 | new ho h hc hp ih =>
  intro W hw hE hD
  rename_i o k
  refine .step (s1:=k W.heap.size) (W1:={ W with heap:=W.heap.push o }) (fun τ _=>rfl) rfl (Nat.le_refl _) (by simp) rfl rfl (ih _ (hD _ (Nat.le_refl _)) ?_ (hE.push (zgR hp)) ?_)
  ·refine hw.set (b:=W.heap.size) (o:=o) ⟨ho,hp,hc⟩ (fun x hx=>?_) fun x hx=>?_
   ·simp [Array.getElem?_push,hx]
   ·simpa using hx.symm
  ·intro b hb
   refine hD b ?_
   simp only [Array.size_push] at hb
   omega
 | shape hb h ih =>
  intro W hw hE hD
  rename_i b k
  exact .step (s1:=k (W.shape? b)) (W1:=W) (fun τ _=>rfl) rfl (Nat.le_refl _) (Nat.le_refl _) rfl rfl (ih _ hw hE hD)
 | freeze ha h ih =>
  intro W hw hE hD
  rename_i a n k
  refine .step (s1:=k) (W1:=W.freeze a n) (fun τ _=>?_) ?_ ?_ (by rw [zbz];exact Nat.le_refl _) ?_ ?_ (ih ?_ (hE.freeze a n) ?_)
  ·simp only [Sem.run]
   unfold World.freeze
   dsimp only
   split<;>rfl
  ·unfold World.freeze;split<;>rfl
  ·unfold World.freeze;split<;>exact Nat.le_refl _
  ·unfold World.freeze;split<;>rfl
  ·unfold World.freeze;split<;>rfl
  ·cases ho:W.heap[a.block]? with
   | none =>
    intro x y hDx hx
    by_cases e:x=a.block
    ·subst e;rw [zek ho] at hx;cases hx
    ·rw [zbJ (Ne.symm e)] at hx;exact hw x y hDx hx
   | some o =>
    obtain⟨s1,s2,s3⟩:=hw _ _ ha ho
    cases hcl:isCells o with
    | false =>
     refine hw.set (b:=a.block) (o:=o) ⟨s1,s2,s3⟩ (fun x hx=>zbJ (Ne.symm hx)) fun x hx=>?_
     rw [zdB ho hcl] at hx
     exact (Option.some.inj hx).symm
    | true =>
     cases o with
     | cells c e fz =>
      intro x y hDx hx
      by_cases e' : x=a.block
      ·subst e'
       rw [zgJ ho] at hx
       cases hx
       exact⟨zj0 s1,rfl,rfl⟩
      ·rw [zbJ (Ne.symm e')] at hx
       exact hw x y hDx hx
     | _=>cases hcl
  ·rw [zbz];exact hD
 | frozen ha h ih =>
  intro W hw hE hD
  rename_i a k
  exact .step (s1:=k (W.frozen? a)) (W1:=W) (fun τ _=>rfl) rfl (Nat.le_refl _) (Nat.le_refl _) rfl rfl (ih _ hw hE hD)
 | getObj hb h ih =>
  intro W hw hE hD
  rename_i b k
  cases ho:W.heap[b]? with
  | none=>exact .halts (hh:=.stuck "getObj: no such block") (Wf:=W) (by simp only [Sem.run,ho]) trivial hE
  | some o =>
   obtain⟨s1,s2,s3⟩:=hw _ _ hb ho
   cases o with
   | cells=>exact .halts (hh:=.stuck "getObj: a row of cells") (Wf:=W) (by simp only [Sem.run,ho]) trivial hE
   | _ =>
    refine .step (s1:=k _) (W1:=W) (fun τ _=>?_) rfl (Nat.le_refl _) (Nat.le_refl _) rfl rfl (ih _ s3 s2 s1 hw hE hD)
    simp only [Sem.run,ho]
 | setObj hb ho h hc hp ih =>
  intro W hw hE hD
  rename_i b o k
  cases ho1:W.heap[b]? with
  | none=>exact .halts (hh:=.stuck "setObj: no such block") (Wf:=W) (by simp only [Sem.run,ho1]) trivial hE
  | some o1 =>
   have hlt:b<W.heap.size:=by
    rcases Nat.lt_or_ge b W.heap.size with h | h
    ·exact h
    ·rw [Array.getElem?_eq_none h] at ho1;cases ho1
   have key:(∀ τ:Nat→Question→Nat,(Sem.setObj b o k).run P { W with tape:=τ }=k.run P { W with heap:=W.heap.setIfInBounds b o,tape:=τ })→Run1 G D E mf P _ (Sem.setObj b o k) W:=fun hrun=>by
    refine .step (s1:=k) (W1:={ W with heap:=W.heap.setIfInBounds b o }) (fun τ _=>hrun τ) rfl (Nat.le_refl _) (by simp) rfl rfl (ih ?_ (hE.set (b:=b) (o:=o) (zgR hp) (fun x hx=>by simp [Ne.symm hx]) fun x hx=>by simpa [hlt] using hx.symm) ?_)
    ·refine hw.set (b:=b) (o:=o) ⟨ho,hp,hc⟩ (fun x hx=>by simp [Ne.symm hx]) fun x hx=>?_
     simpa [hlt] using hx.symm
    ·simpa using hD
   cases o1 with
   | cells=>exact .halts (hh:=.stuck "setObj: a row of cells") (Wf:=W) (by simp only [Sem.run,ho1]) trivial hE
   | _=>exact key fun τ=>by simp only [Sem.run,ho1]
 | choose h ih =>
  intro W hw hE hD
  rename_i q k
  by_cases hq:q.forced=true
  ·refine .step (s1:=k 0) (W1:=W) (fun τ _=>?_) rfl (Nat.le_refl _) (Nat.le_refl _) rfl rfl (ih _ hw hE hD)
   simp only [Sem.run,hq,if_true]
  ·refine .step (s1:=k (q.cut (W.tape W.drawn q))) (W1:={ W with drawn:=W.drawn+1 }) (fun τ hτ=>?_) rfl (Nat.le_succ _) (Nat.le_refl _) rfl rfl (ih _ hw hE hD)
   simp only [Sem.run,if_neg hq]
   rw [hτ W.drawn q (Nat.lt_succ_self _)]
 | program h ih =>
  intro W hw hE hD
  rename_i k
  exact .step (s1:=k P) (W1:=W) (fun τ _=>rfl) rfl (Nat.le_refl _) (Nat.le_refl _) rfl rfl (ih hw hE hD)
 | mark h ih =>
  intro W hw hE hD
  rename_i m k
  exact .step (s1:=k) (W1:=W) (fun τ _=>rfl) rfl (Nat.le_refl _) (Nat.le_refl _) rfl rfl (ih hw hE hD)
end
end Go.Con
namespace Go.Con
open Go
variable [Lone]
def gd (P:Program):Gd:=⟨P.globals.size,zaR P⟩
section
variable {P:Program} {maps:Bool} {D E:Nat→Prop}
theorem zmf:RenOk P (RA (gd P)):=⟨zpQ _,fun _ h=>zpP h,fun _ _=>rfl⟩
theorem zmg:RenOk P (RB (gd P) D E):=⟨zou _ _,fun _ h=>zot h,fun _ h=>(badFn_eq.2 h).symm⟩
def supF (P:Program) (D E:Nat→Prop) (fr:Frame):Prop:=zab (RA (gd P)) fr=zab (RB (gd P) D E) fr
def Base (P:Program) (fr:Frame) (cs:List Frame):Prop:=match cs.getLast? with
 | none=>fr.roundOf=none∧P.inits.idxOf? fr.fn=none
 | some c=>c.roundOf=none∧P.inits.idxOf? c.fn=none
variable (P maps D E) in
structure Inv (fr:Frame) (cs:List Frame) (W:World):Prop where
 ok:OkFrame P maps fr
 oks:∀ c∈cs,OkFrame P maps c
 sup:supF P D E fr
 sups:∀ c∈cs,supF P D E c
 lw:LW (gd P) D E (mdOf P maps) W
 ed:EmptyDef W
 fresh:∀ b,W.heap.size≤b→D b
 base:Base P fr cs
 ne:∀ c∈cs,c.todo≠[]
theorem zf7 {fr:Frame} (h:supF P D E fr) (x:Operand) (hx:zaS P x=true):supV (gd P) D E (fr.eval x):=by
 show ren (RA (gd P)) (fr.eval x)=ren (RB (gd P) D E) (fr.eval x)
 rw [← zcf zmf x hx,← zcf zmg x hx,h]
theorem zdT {v:Value} (h:supV (gd P) D E v):zcs P v=true:=by
 cases v with
 | func fn a b =>
  cases ht:zem fn a b with
  | some x =>
   obtain⟨s,rfl,rfl,rfl⟩:=zhO ht
   rfl
  | none =>
  simp only [supV,ren,ht,Value.func.injEq] at h
  cases fn with
  | yield l=>rfl
  | func g=>exact badFn_eq.1 (show Fn.func g=ziY (zaR P) (Fn.func g) from h.1)
  | method n=>have hg:zaR P (.method n)=true:=badFn_eq.1 (show Fn.method n=ziY (zaR P) (Fn.method n) from h.1);cases hg
  | methodOf t n=>exact badFn_eq.1 (show Fn.methodOf t n=ziY (zaR P) (Fn.methodOf t n) from h.1)
  | via t p f q=>exact badFn_eq.1 (show Fn.via t p f q=ziY (zaR P) (Fn.via t p f q) from h.1)
 | _=>rfl
theorem Inv.callee {fr:Frame} {cs:List Frame} {W:World} (h:Inv P maps D E fr cs W):zdQ P fr:=by
 have htodo:=h.ok.todo
 unfold zdQ
 split
 ·rename_i f a b c k ht
  rw [ht] at htodo
  simp only [List.all_cons,Bool.and_eq_true,za3,za6] at htodo
  exact zdT (zf7 h.sup f htodo.1.1.1)
 ·rename_i ops i l k ht
  rw [ht] at htodo
  simp only [List.all_cons,Bool.and_eq_true,za3] at htodo
  intro o ho
  have hop:okOp P maps o.op=true:=by have:=htodo.1.1;rw [ho] at this;exact this
  unfold zhp
  split
  ·rename_i f x y he
   rw [he] at hop
   simp only [okOp,zln,Bool.and_eq_true] at hop
   exact zdT (zf7 h.sup f hop.2)
  ·rename_i x he
   rw [he] at hop
   exact zdT (zf7 h.sup x hop)
  ·rfl
 ·trivial
theorem sups_map {cs:List Frame}:(∀ c∈cs,supF P D E c)↔cs.map (zab (RA (gd P)))=cs.map (zab (RB (gd P) D E)):=by
 induction cs with
 | nil=>simp
 | cons c cs ih =>
  simp only [List.mem_cons,forall_eq_or_imp,List.map_cons,List.cons.injEq]
  exact and_congr Iff.rfl ih
theorem Inv.sup_step {fr:Frame} {cs:List Frame} {W:World} (hG:∀ b,b<P.globals.size→D b) (h:Inv P maps D E fr cs W) :
  Sup P (mdOf P maps) (gd P) D E (fun a=>Moves P maps fr cs a.1 a.2∧supF P D E a.1∧∀ c∈a.2,supF P D E c) (zan P fr cs):=by
 have hA:=zeu (nc:=false) (K:=fun _=>False) zmf h.ok h.oks h.callee
 have hB:=zeu (nc:=false) (K:=fun _=>False) (zmg (D:=D) (E:=E)) h.ok h.oks h.callee
 rw [← sups_map.1 h.sups,← show zab (RA (gd P)) fr=zab (RB (gd P) D E) fr from h.sup] at hB
 have:=zlE (mf:=mdOf P maps) (G:=gd P) (D:=D) (E:=E) hG hA hB
 refine Sup.mono this ?_
 rintro a ⟨b,h1,h2⟩
 refine⟨h1.2,?_,sups_map.2 ?_⟩
 ·have:=h1.1.symm.trans h2.1
  simp only [Prod.mk.injEq] at this
  exact this.1
 ·have:=h1.1.symm.trans h2.1
  simp only [Prod.mk.injEq] at this
  exact this.2
theorem zlM {fr fr' : Frame} {cs cs' : List Frame} (h:Base P fr cs) (hm:Moves P maps fr cs fr' cs'):Base P fr' cs':=by
 unfold Base at h ⊢
 rcases hm with ⟨rfl,h1,h2,_⟩ | ⟨fr1,rfl,h1,h2,_⟩ | ⟨c,rfl,h1,h2,_⟩
 ·cases hc:cs'.getLast? with
  | none=>rw [hc] at h;exact⟨h1.trans h.1,by rw [h2];exact h.2⟩
  | some c=>rw [hc] at h;exact h
 ·cases cs with
  | nil=>simp only [List.getLast?_nil] at h;simp only [List.getLast?_singleton];exact⟨h1.trans h.1,by rw [h2];exact h.2⟩
  | cons c rest=>rw [List.getLast?_cons_cons];exact h
 ·cases cs' with
  | nil=>simp only [List.getLast?_singleton] at h;exact⟨h1.trans h.1,by rw [h2];exact h.2⟩
  | cons c2 rest=>rw [List.getLast?_cons_cons] at h;exact h
theorem Base.or {fr:Frame} {cs:List Frame} (h:Base P fr cs):fr.roundOf=none∨cs≠[]:=by
 cases cs with
 | nil=>exact .inl h.1
 | cons=>exact .inr (by simp)
theorem zdm {cs bs:List Frame} (h:cs≠[]) {v:Value}:zdq (cs++bs) v=(do let x ← zdq cs v;pure (x.1,x.2++bs)):=by
 cases cs with
 | nil=>exact (h rfl).elim
 | cons c rest=>rfl
theorem zcE {fr:Frame} {cs bs:List Frame} {jump:Option Code} (h:fr.roundOf=none∨cs≠[]):zaU fr (cs++bs) jump=(do let x ← zaU fr cs jump;pure (x.1,x.2++bs)):=by
 unfold zaU
 cases hr:fr.roundOf with
 | none =>
  dsimp only
  cases jump with
  | none=>rfl
  | some c=>cases c<;>rfl
 | some l =>
  have hc:=h.resolve_left (by rw [hr];simp)
  dsimp only
  rw [bind_assoc]
  congr 1
  funext v
  exact zdm hc
theorem zd9 {fr:Frame} {cs bs:List Frame} {n:Next}:zbO P fr (cs++bs) n=(do let x ← zbO P fr cs n;pure (x.1,x.2++bs)):=by
 cases n<;>rfl
theorem zbV {fr:Frame} {cs bs:List Frame} (h:fr.roundOf=none∨cs≠[]) (hn:fr.mode=.returning→fr.defers=[]→cs≠[]) :
  zan P fr (cs++bs)=(do let x ← zan P fr cs;pure (x.1,x.2++bs)):=by
 unfold zan
 cases hm:fr.mode with
 | panicking=>rfl
 | run =>
  dsimp only
  unfold zb3
  split
  ·exact zcE h
  ·exact zcE h
  ·rfl
  ·rfl
  ·rfl
  ·rfl
  ·rfl
  ·rfl
  ·split<;>rfl
  ·rfl
  ·rfl
  ·rfl
  ·rfl
  ·split
   ·rfl
   ·exact zcE h
  ·simp only [bind_assoc,zd9]
  ·simp only [bind_assoc,pure_bind]
  ·simp only [bind_assoc,pure_bind]
  ·split
   ·rfl
   ·simp only [bind_assoc,pure_bind]
  ·split
   ·split
    ·rfl
    ·simp only [bind_assoc,zd9]
   ·rfl
  ·rfl
 | returning =>
  dsimp only
  split
  ·simp only [bind_assoc,pure_bind]
  ·rfl
  ·rename_i hd
   split
   ·exact zdm (hn hm hd)
   ·rw [bind_assoc]
    congr 1
    funext v
    exact zdm (hn hm hd)
theorem zdr {b:Nat} {w w' : World} {calls:List Deferred} (hE:EmptyDef w) (h:(Instr.takeDeferred b).run P w=.ok calls w'):calls=[]∧EmptyDef w':=by
 unfold Instr.takeDeferred at h
 rw [Sem.run_bind] at h
 simp only [getObj,Sem.run] at h
 cases ho:w.heap[b]? with
 | none=>rw [ho] at h;cases h
 | some o =>
  rw [ho] at h
  have hn:=hE b o ho
  cases o with
  | deferred c =>
   cases c with
   | none=>cases h
   | some l =>
    cases l with
    | cons=>cases hn
    | nil =>
     simp only [Result.andThen] at h
     rw [Sem.run_bind] at h
     simp only [setObj,Sem.run,ho] at h
     cases h
     exact⟨rfl,hE.set (b:=b) (o:=.deferred none) rfl (fun x hx=>by simp [Ne.symm hx]) fun x hx=>by
      have hlt:b<w.heap.size:=by
       rcases Nat.lt_or_ge b w.heap.size with h | h
       ·exact h
       ·rw [Array.getElem?_eq_none h] at ho;cases ho
      simpa [hlt] using hx.symm⟩
  | _=>cases h
def Collected (fr:Frame):Prop:=∀ d∈fr.defers,∃ r,d={ target:=.collected r,args:=#[] }
variable (P) in
def bot:Frame:={ fn:=P.funcs.size,tmps:=#[],todo:=[.code (.exit 0)],defers:=[{ target:=.nil,args:=#[] }],mode:=.run,kind:=.normal }
theorem ziw {F:Fence} {m m2:Machine} (h:StepsIn (Machine.fenced P F) P m m2):∀ {fr:Frame} {cs:List Frame} {w:World} {chain:List PanicEntry},m=lone fr (cs++[bot P]) w→fr.mode=.panicking chain →
  Collected fr→(∀ c∈cs,Collected c∧(c.mode=.run∨c.mode=.returning))→EmptyDef w→∀ {fr2:Frame} {w2:World},m2=lone fr2 [bot P] w2→¬ (fr2.mode=.run∨fr2.mode=.returning):=by
 induction h with
 | refl m =>
  rintro fr cs w chain rfl hm _ _ _ fr2 w2 h2 h3
  simp only [lone,Machine.mk.injEq,Array.mk.injEq,List.cons.injEq,Goroutine.mk.injEq,and_true] at h2
  rw [← h2.2.1,hm] at h3
  rcases h3 with h3 | h3<;>cases h3
 | @head m0 m₁ m₂ hI hs hrest ih =>
  rintro fr cs w chain rfl hm hd hcs hE fr2 w2 h2
  have hst:stepG P true { frame:=fr,callers:=cs++[bot P],status:=.running,dying:=none } w=unwind P true fr (cs++[bot P]) none w:=by
   unfold stepG
   simp only [hm]
  have hend:∀ {o w' es},unwind P true fr (cs++[bot P]) none w≠.ended o w' es:=by
   intro o w' es he
   have:=step_lone_ended (P:=P) (fr:=fr) (cs:=cs++[bot P]) (w:=w) (w':=w') (o:=o) (by rw [hst,he];rfl)
   rw [this] at hs
   cases hs
  have hgo:∀ {fr' : Frame} {cs' : List Frame} {w' : World} {es},unwind P true fr (cs++[bot P]) none w=.go { frame:=fr',callers:=cs',status:=.running,dying:=none } w' es→m₁=lone fr' cs' w':=by
   intro fr' cs' w' es he
   have:=step_lone_go (P:=P) (fr:=fr) (cs:=cs++[bot P]) (w:=w) (w':=w') (fr':=fr') (cs':=cs') (by rw [hst,he];rfl)
   rw [this] at hs
   cases hs
   rfl
  obtain⟨fn,tmps,todo,defers,mode,kind,roundOf⟩:=fr
  dsimp only at hm
  subst hm
  cases defers with
  | cons d ds =>
   obtain⟨b,rfl⟩:=hd d (List.mem_cons_self ..)
   unfold unwind at hend hgo
   dsimp only at hend hgo
   simp only [Sem.runT_eq] at hend hgo
   cases hr:(Instr.takeDeferred b).run P w with
   | halt hh w1 =>
    rw [hr] at hend
    exact (hend rfl).elim
   | ok calls w1 =>
    rw [hr] at hgo
    obtain⟨rfl,hE'⟩:=zdr hE hr
    refine ih (hgo rfl) rfl ?_ hcs hE' h2
    intro d hdm
    exact hd d (List.mem_cons_of_mem _ hdm)
  | nil =>
   unfold unwind at hend hgo hst
   dsimp only at hend hgo hst
   by_cases hcat:Frame.catches P { fn:=fn,tmps:=tmps,todo:=todo,defers:=[],mode:=.panicking chain,kind:=kind,roundOf:=roundOf }=true
   ·rw [if_pos hcat] at hend
    exact (hend rfl).elim
   ·rw [if_neg hcat] at hend hgo hst
    cases cs with
    | cons c rest =>
     obtain⟨hc1,hc2⟩:=hcs c (List.mem_cons_self ..)
     refine ih (hgo rfl) (chain:=chain) ?_ ?_ (fun c hc=>hcs c (List.mem_cons_of_mem _ hc)) hE h2
     ·rcases hc2 with h | h<;>simp [Frame.raise,h]
     ·rcases hc2 with h | h<;>simpa [Frame.raise,h,Collected] using hc1
    | nil =>
     have hm1:=hgo rfl
     generalize hA:m₁=mA at hrest
     generalize hB:m₂=mB at hrest
     cases hrest with
     | refl =>
      have h3:=hm1.symm.trans (hA.trans (hB.symm.trans h2))
      simp only [lone,Machine.mk.injEq,Array.mk.injEq,List.cons.injEq,Goroutine.mk.injEq,and_true] at h3
      exact absurd h3.2.2 (by simp)
     | head _ hs2 _ =>
      exfalso
      subst hA
      rw [hm1] at hs2
      have hst2:∃ o es,stepG P true { frame:=(bot P).raise chain,callers:=[],status:=.running,dying:=none } w=.ended o w es:=by
       unfold stepG
       dsimp only [bot,Frame.raise]
       unfold unwind
       dsimp only
       unfold callDeferred
       simp only [Bool.and_self,if_true]
       exact⟨_,_,rfl⟩
      obtain⟨o,es,hst2⟩:=hst2
      have:=step_lone_ended (P:=P) (fr:=(bot P).raise chain) (cs:=[]) (w:=w) (w':=w) (o:=o) (by rw [hst2];rfl)
      rw [this] at hs2
      cases hs2
variable (P) in
def Ends (F:Fence) (Stop:Frame→List Frame→Prop) (Q:Frame→World→Prop) (fr:Frame) (cs:List Frame) (W:World):Prop :=
 ∃ fr2 W2,StepsIn (Machine.fenced P F) P (lone fr (cs++[bot P]) W) (lone fr2 [bot P] W2)∧Stop fr2 []∧(fr2.mode=.run∨fr2.mode=.returning)∧Q fr2 W2
def okFn (P:Program) (maps:Bool) (f:FuncId):Prop:=∃ fn body,P.funcs[f]?=some fn∧fn.body=some body∧za6 P maps body=true
theorem zk7 {f:FuncId} {args:Array Value} (h:okFn P maps f):OkFrame P maps (Frame.enter P f args .normal):=by
 obtain⟨fn,body,h1,h2,h3⟩:=h
 refine⟨?_,.inl rfl,fun d hd=>(List.not_mem_nil hd).elim,rfl⟩
 simp [Frame.enter,h1,h2,za3,h3]
def zgg (fr:Frame) (cs:List Frame):Prop:=¬ (fr.mode=.returning∧fr.defers=[]∧cs=[])
theorem zdk {fr fr' : Frame} {cs cs' : List Frame} {w w' : World} (h:lone fr cs w=lone fr' cs' w'):fr=fr'∧cs=cs'∧w=w':=by
 simp only [lone,Machine.mk.injEq,Array.mk.injEq,List.cons.injEq,Goroutine.mk.injEq,and_true] at h
 exact⟨h.2.1,h.2.2,h.1⟩
theorem Inv.step {F:Fence} (hF:∀ f,F.fn f→zaR P (.func f)=true→okFn P maps f) (hG:∀ b,b<P.globals.size→D b) {Stop:Frame→List Frame→Prop} {Q:Frame→World→Prop} {fr:Frame} {cs:List Frame} {W:World}
  (hi:Inv P maps D E fr cs W) (hs0:¬ Stop fr cs) (hn:zgg fr cs) (he:Ends P F Stop Q fr cs W) :
  ∃ fr' cs' W',(zan P fr cs).run P W=.ok (fr',cs') W'∧Inv P maps D E fr' cs' W'∧Ends P F Stop Q fr' cs' W'∧W'.tape=W.tape∧W.drawn≤W'.drawn ∧
   ∀ τ:Nat→Question→Nat,(∀ i q,i<W'.drawn→τ i q=W.tape i q)→(zan P fr cs).run P { W with tape:=τ }=.ok (fr',cs') { W' with tape:=τ }:=by
 obtain⟨fr2,W2,hst,hd2,hm2,hq⟩:=he
 have hrun:=(hi.sup_step hG).run1 hi.lw hi.ed hi.fresh
 unfold Run1 at hrun
 generalize hA:lone fr (cs++[bot P]) W=mA at hst
 generalize hB:lone fr2 [bot P] W2=mB at hst
 cases hst with
 | refl =>
  obtain⟨rfl,hcs,rfl⟩:=zdk (hA.trans hB.symm)
  have hcs:cs=[]:=by simpa using hcs
  subst hcs
  exact (hs0 hd2).elim
 | @head _ m₁ _ hI hs hrest =>
  subst hA hB
  cases hr:(zan P fr cs).run P W with
  | halt hh Wf =>
   rw [hr] at hrun
   exfalso
   have hret:fr.mode=.returning→fr.defers=[]→cs≠[]:=fun a b c=>hn ⟨a,b,c⟩
   have hr0:(zan P fr (cs++[bot P])).run P W=.halt hh Wf:=by
    rw [zbV hi.base.or hret,Sem.run_bind,hr];rfl
   have hor:fr.roundOf=none∨cs++[bot P]≠[]:=.inr (by simp)
   rcases zmG (main:=true) (st:=.running) (off:=none) hi.ok hi.callee hor (fun _ _=>by simp) hr0 hrun.1 with ⟨o,w,es,h⟩ | ⟨fr1,v,es,h,h1,h2,h3⟩
   ·have:=step_lone_ended (P:=P) (fr:=fr) (cs:=cs++[bot P]) (w:=W) (by rw [h];rfl)
    rw [this] at hs
    cases hs
   ·have:=step_lone_go (P:=P) (fr:=fr) (cs:=cs++[bot P]) (w:=W) (by rw [h];rfl)
    rw [this] at hs
    cases hs
    refine ziw hrest (fr:=Frame.raise fr1 [{ v,recovered:=false }]) (cs:=cs) (w:=Wf) (chain:=[{ v,recovered:=false }]) rfl ?_ ?_ (fun c hc=>⟨(hi.oks c hc).defers,(hi.oks c hc).mode⟩) ?_ rfl hm2
    ·simp [Frame.raise,h1]
    ·simpa [Frame.raise,h1,Collected] using h3
    ·exact hrun.2
  | ok a W' =>
   obtain⟨fr',cs'⟩:=a
   rw [hr] at hrun
   obtain⟨a0,⟨hmv,hsf,hsc⟩,a2,a3,a4,a5,a6,a7,a8⟩:=hrun
   have hr0:(zan P fr (cs++[bot P])).run P W=.ok (fr',cs'++[bot P]) W':=by
    rw [zbV hi.base.or (fun a b c=>hn ⟨a,b,c⟩),Sem.run_bind,hr];rfl
   obtain⟨es,hgo,_⟩:=zdM (main:=true) (st:=.running) (off:=none) hi.ok.head hr0
   have:=step_lone_go (P:=P) (fr:=fr) (cs:=cs++[bot P]) (w:=W) (by rw [hgo];rfl)
   rw [this] at hs
   cases hs
   have hbase:=zlM hi.base hmv
   have hen:Ends P F Stop Q fr' cs' W':=⟨fr2,W2,hrest,hd2,hm2,hq⟩
   have hfr:(∀ b,W'.heap.size≤b→D b):=fun b hb=>hi.fresh b (Nat.le_trans a3 hb)
   have hne' : ∀ c∈cs',c.todo≠[]:=by
    rcases hmv with ⟨rfl,_⟩ | ⟨fr1,rfl,_,_,_,h1,_⟩ | ⟨c,rfl,_⟩
    ·exact hi.ne
    ·exact fun c hc=>(List.mem_cons.1 hc).elim (fun e=>e ▸ h1) (hi.ne c)
    ·exact fun x hx=>hi.ne x (List.mem_cons_of_mem _ hx)
   have hok' : OkFrame P maps fr'∧∀ c∈cs',OkFrame P maps c:=by
    rcases hmv with ⟨rfl,_,_,h⟩ | ⟨fr1,rfl,_,_,h1,_,h⟩ | ⟨c,rfl,_,_,h⟩
    ·exact⟨h,hi.oks⟩
    ·refine⟨?_,fun c hc=>(List.mem_cons.1 hc).elim (fun e=>e ▸ h1) (hi.oks c)⟩
     rcases h with ⟨f,args,rfl,hgood⟩ | h
     ·generalize hA:lone (Frame.enter P f args .normal) ((fr1 :: cs)++[bot P]) W'=mA at hrest
      generalize hB:lone fr2 [bot P] W2=mB at hrest
      cases hrest with
      | refl=>obtain⟨_,h,_⟩:=zdk (hA.trans hB.symm);simp at h
      | head hI2 hs2 _ =>
       subst hA
       have hmem:=Array.mem_of_getElem? (xs:=(lone (Frame.enter P f args .normal) ((fr1 :: cs)++[bot P]) W').gs) (i:=0) rfl
       rcases (hI2 _ hmem).2.1 with hf | hf
       ·exact zk7 (hF f hf hgood)
       ·exfalso
        change f=P.funcs.size at hf
        have hnone:P.funcs[f]?=none:=by rw [hf];simp
        have hrefuse:∃ o,stepG P true { frame:=Frame.enter P f args .normal,callers:=(fr1 :: cs)++[bot P],status:=.running,dying:=none } W'=.ended o W':=by
         unfold stepG stepG.exec
         simp [Frame.enter,hnone]
        obtain⟨o,hrefuse⟩:=hrefuse
        have:=step_lone_ended (P:=P) (by rw [hrefuse];rfl)
        rw [this] at hs2
        cases hs2
     ·exact h
    ·exact⟨h,fun x hx=>hi.oks x (List.mem_cons_of_mem _ hx)⟩
   exact⟨fr',cs',W',rfl,⟨hok'.1,hok'.2,hsf,hsc,a2,a0,hfr,hbase,hne'⟩,hen,a4,a5,a8⟩
end
end Go.Con
