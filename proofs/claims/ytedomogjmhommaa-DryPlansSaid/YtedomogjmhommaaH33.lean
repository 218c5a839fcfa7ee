import Derived.Test.YtedomogjmhommaaH32
set_option linter.all false
set_option maxRecDepth 100000
set_option maxHeartbeats 8000000
namespace Go.Con
open Go
variable [Lone]
section
variable {P:Program} {maps:Bool} {D E:Nat→Prop}
abbrev Tape:=Nat→Question→Nat
def Agree (n:Nat) (τ σ:Tape):Prop:=∀ i q,i<n→τ i q=σ i q
theorem Agree.refl {n:Nat} {τ:Tape}:Agree n τ τ:=fun _ _ _=>rfl
variable (P maps D E) in
inductive Fut (Stop:Frame→List Frame→Prop) (Q:Frame→World→Prop):Frame→List Frame→World→Prop
 | done {fr:Frame} {W:World} (hi:Inv P maps D E fr [] W) (hs:Stop fr []) (hq:Q fr W):Fut Stop Q fr [] W
 | step {fr:Frame} {cs:List Frame} {W:World} (hi:Inv P maps D E fr cs W) (hn:¬ Stop fr cs)
   (h1:∀ τ:Tape,Agree W.drawn τ W.tape→∃ x W',(zan P fr cs).run P { W with tape:=τ }=.ok x W')
   (h2:∀ (τ:Tape) (fr' : Frame) (cs' : List Frame) (W' : World),Agree W.drawn τ W.tape→(zan P fr cs).run P { W with tape:=τ }=.ok (fr',cs') W'→Fut Stop Q fr' cs' W'):Fut Stop Q fr cs W
theorem Inv.tape {fr:Frame} {cs:List Frame} {W:World} (h:Inv P maps D E fr cs W) (τ:Tape):Inv P maps D E fr cs { W with tape:=τ } :=
 ⟨h.ok,h.oks,h.sup,h.sups,h.lw,h.ed,h.fresh,h.base,h.ne⟩
theorem zoq {W:World}:∀ m,step P (lone (bot P) [] W)≠.next m:=by
 intro m h
 have hst:∃ o es,stepG P true { frame:=bot P,callers:=[],status:=.running,dying:=none } W=.ended o W es:=⟨_,_,rfl⟩
 obtain⟨o,es,hst⟩:=hst
 have:=step_lone_ended (P:=P) (fr:=bot P) (cs:=[]) (w:=W) (w':=W) (o:=o) (by rw [hst];rfl)
 rw [this] at h
 cases h
theorem zhD {I:Machine→Prop} {fr:Frame} {W:World} (hk:fr.kind=.normal) (hm:fr.mode=.returning) (hd:fr.defers=[]) {m m2:Machine} (hs:step P (lone fr [bot P] W)=.next m) (hrest:StepsIn I P m m2) {fr2:Frame} {W2:World}
  (h2:m2=lone fr2 [bot P] W2):False:=by
 have hst:(∃ w es,stepG P true { frame:=fr,callers:=[bot P],status:=.running,dying:=none } W=.go { frame:=bot P,callers:=[],status:=.running,dying:=none } w es) ∨
   ∃ o w es,stepG P true { frame:=fr,callers:=[bot P],status:=.running,dying:=none } W=.ended o w es:=by
  have h0:stepG P true { frame:=fr,callers:=[bot P],status:=.running,dying:=none } W=unwind P true fr [bot P] none W:=by
   unfold stepG
   simp only [hm]
  rw [h0]
  have hret:∀ v w,doReturn P true fr [bot P] none v w=.go { frame:=bot P,callers:=[],status:=.running,dying:=none } w:=by
   intro v w
   unfold doReturn
   simp only [hk]
   rfl
  unfold unwind
  simp only [hd,hm,Sem.runT_eq]
  cases hf:P.funcs[fr.fn]? with
  | none=>exact .inl ⟨_,_,hret _ _⟩
  | some f =>
   dsimp only
   cases hr:(results f fr.tmps).run P W with
   | ok v w=>dsimp only;rw [hret];exact .inl ⟨_,_,rfl⟩
   | halt hh w=>cases hh<;>exact .inr ⟨_,_,_,rfl⟩
 rcases hst with ⟨w,es,hst⟩ | ⟨o,w,es,hst⟩
 ·have:=step_lone_go (P:=P) (by rw [hst];rfl)
  rw [this] at hs
  cases hs
  generalize hA:lone (bot P) [] w=mA at hrest
  cases hrest with
  | refl=>subst h2;obtain⟨_,h,_⟩:=zdk hA;cases h
  | head _ hs2 _=>subst hA;exact zoq _ hs2
 ·have:=step_lone_ended (P:=P) (by rw [hst];rfl)
  rw [this] at hs
  cases hs
structure Bad (P:Program) (maps:Bool) (D E:Nat→Prop) (F:Fence) (Stop:Frame→List Frame→Prop) (Q:Frame→World→Prop) where
 fr:Frame
 cs:List Frame
 W:World
 inv:Inv P maps D E fr cs W
 ends:∀ τ:Tape,Agree W.drawn τ W.tape→Ends P F Stop Q fr cs { W with tape:=τ }
 no:¬ Fut P maps D E Stop Q fr cs W
structure zpJ {F:Fence} {Stop:Frame→List Frame→Prop} {Q:Frame→World→Prop} (x y:Bad P maps D E F Stop Q):Prop where
 notDone:¬ Stop x.fr x.cs
 drawn:x.W.drawn≤y.W.drawn
 agree:Agree x.W.drawn y.W.tape x.W.tape
 run:∀ τ:Tape,Agree y.W.drawn τ y.W.tape→(zan P x.fr x.cs).run P { x.W with tape:=τ }=.ok (y.fr,y.cs) { y.W with tape:=τ }
theorem Bad.next {F:Fence} (hF:∀ f,F.fn f→zaR P (.func f)=true→okFn P maps f) (hG:∀ b,b<P.globals.size→D b) {Stop:Frame→List Frame→Prop} {Q:Frame→World→Prop} (hsd:∀ fr cs,¬ Stop fr cs→zgg fr cs) (hst:∀ fr cs W,Inv P maps D E fr cs W→Stop fr cs→Ends P F Stop Q fr cs W→cs=[]∧Q fr W) (x:Bad P maps D E F Stop Q):∃ y:Bad P maps D E F Stop Q,zpJ x y:=by
 obtain⟨fr,cs,W,inv,ends,no⟩:=x
 have hn:¬ Stop fr cs:=by
  intro hs
  obtain⟨rfl,hq⟩:=hst fr cs W inv hs (ends W.tape .refl)
  exact no (.done inv hs hq)
 have:∃ τ:Tape,Agree W.drawn τ W.tape∧¬ ∃ fr' cs' W',(zan P fr cs).run P { W with tape:=τ }=.ok (fr',cs') W'∧Fut P maps D E Stop Q fr' cs' W':=by
  refine Classical.byContradiction fun hc=>?_
  have hall:∀ τ:Tape,Agree W.drawn τ W.tape→∃ fr' cs' W',(zan P fr cs).run P { W with tape:=τ }=.ok (fr',cs') W'∧Fut P maps D E Stop Q fr' cs' W' :=
   fun τ hτ=>Classical.byContradiction fun h=>hc ⟨τ,hτ,h⟩
  refine no (.step inv hn (fun τ hτ=>?_) fun τ fr' cs' W' hτ hr=>?_)
  ·obtain⟨a,b,c,h,_⟩:=hall τ hτ
   exact⟨_,_,h⟩
  ·obtain⟨a,b,c,h,hfu⟩:=hall τ hτ
   rw [h] at hr
   cases hr
   exact hfu
 obtain⟨τ,hτ,hno⟩:=this
 obtain⟨fr',cs',W',h1,h2,h3,h4,h5,h6⟩:=(inv.tape τ).step hF hG hn (hsd _ _ hn) (ends τ hτ)
 have hag:∀ σ:Tape,Agree W'.drawn σ W'.tape→Agree W.drawn σ W.tape:=by
  intro σ hσ i q hi
  rw [hσ i q (Nat.lt_of_lt_of_le hi h5),h4]
  exact hτ i q hi
 refine⟨⟨fr',cs',W',h2,fun σ hσ=>?_,fun hf=>hno ⟨fr',cs',W',h1,hf⟩⟩,hn,h5,hag _ .refl,fun σ hσ=>?_⟩
 ·obtain⟨fr3,cs3,W3,g1,_,g3,_⟩:=(inv.tape σ).step hF hG hn (hsd _ _ hn) (ends σ (hag σ hσ))
  have g:=h6 σ fun i q hi=>by rw [hσ i q hi,h4]
  have e:({ ({ W with tape:=τ }:World) with tape:=σ }:World)={ W with tape:=σ }:=rfl
  rw [e,g1] at g
  cases g
  exact g3
 ·exact h6 σ fun i q hi=>by rw [hσ i q hi,h4]
theorem zne {F:Fence} (hF:∀ f,F.fn f→zaR P (.func f)=true→okFn P maps f) (hG:∀ b,b<P.globals.size→D b) {Stop:Frame→List Frame→Prop} {Q:Frame→World→Prop}
  (hsd:∀ fr cs,¬ Stop fr cs→zgg fr cs) (hst:∀ fr cs W,Inv P maps D E fr cs W→Stop fr cs→Ends P F Stop Q fr cs W→cs=[]∧Q fr W) {fr:Frame} {cs:List Frame} {W:World}
  (hi:Inv P maps D E fr cs W) (H:∀ τ:Tape,Agree W.drawn τ W.tape→Ends P F Stop Q fr cs { W with tape:=τ }):Fut P maps D E Stop Q fr cs W:=by
 refine Classical.byContradiction fun hno=>?_
 let x0:Bad P maps D E F Stop Q:=⟨fr,cs,W,hi,H,hno⟩
 let nx:Bad P maps D E F Stop Q→Bad P maps D E F Stop Q:=fun x=>(x.next hF hG hsd hst).choose
 have hnx:∀ x,zpJ x (nx x):=fun x=>(x.next hF hG hsd hst).choose_spec
 let f:Nat→Bad P maps D E F Stop Q:=fun n=>Nat.rec x0 (fun _ x=>nx x) n
 have hf:∀ n,zpJ (f n) (f (n+1)):=fun n=>hnx (f n)
 have hmono:∀ k n,(f n).W.drawn≤(f (n+k)).W.drawn:=by
  intro k n
  induction k with
  | zero=>exact Nat.le_refl _
  | succ k ih=>exact Nat.le_trans ih (hf (n+k)).drawn
 have hag:∀ k n,Agree (f n).W.drawn (f (n+k)).W.tape (f n).W.tape:=by
  intro k n
  induction k with
  | zero=>exact .refl
  | succ k ih =>
   intro i q hi
   exact ((hf (n+k)).agree i q (Nat.lt_of_lt_of_le hi (hmono k n))).trans (ih i q hi)
 have hag2:∀ m n i q,i<(f m).W.drawn→i<(f n).W.drawn→(f m).W.tape i q=(f n).W.tape i q:=by
  intro m n i q h1 h2
  rcases Nat.le_total m n with h | h
  ·obtain⟨k,rfl⟩:=Nat.le.dest h
   exact (hag k m i q h1).symm
  ·obtain⟨k,rfl⟩:=Nat.le.dest h
   exact hag k n i q h2
 let τ:Tape:=fun i q=>open Classical in if h:∃ n,i<(f n).W.drawn then (f h.choose).W.tape i q else 0
 have hτ:∀ n,Agree (f n).W.drawn τ (f n).W.tape:=by
  intro n i q hi
  have h:∃ n,i<(f n).W.drawn:=⟨n,hi⟩
  show (open Classical in if h:∃ n,i<(f n).W.drawn then (f h.choose).W.tape i q else 0)=_
  rw [dif_pos h]
  exact hag2 _ _ _ _ h.choose_spec hi
 have key:∀ {m m2},StepsIn (Machine.fenced P F) P m m2→∀ n,m=lone (f n).fr ((f n).cs++[bot P]) { (f n).W with tape:=τ }→∀ {fr2 W2},m2=lone fr2 [bot P] W2→Stop fr2 []→False:=by
  intro m m2 h
  induction h with
  | refl m =>
   rintro n rfl fr2 W2 h2 h3
   obtain⟨e1,e2,_⟩:=zdk h2
   refine (hf n).notDone ?_
   have e2:(f n).cs=[]:=by simpa using e2
   rw [e1,e2]
   exact h3
  | @head m0 m₁ m₂ _ hs hrest ih =>
   rintro n rfl fr2 W2 h2 h3
   refine ih (n+1) ?_ h2 h3
   have hr:=(hf n).run τ (hτ (n+1))
   have hr0:(zan P (f n).fr ((f n).cs++[bot P])).run P { (f n).W with tape:=τ }=.ok ((f (n+1)).fr,(f (n+1)).cs++[bot P]) { (f (n+1)).W with tape:=τ }:=by
    rw [zbV (f n).inv.base.or (fun a b c=>hsd _ _ (hf n).notDone ⟨a,b,c⟩),Sem.run_bind,hr];rfl
   obtain⟨es,hgo,_⟩:=zdM (main:=true) (st:=.running) (off:=none) (f n).inv.ok.head hr0
   have:=step_lone_go (P:=P) (fr:=(f n).fr) (cs:=(f n).cs++[bot P]) (w:={ (f n).W with tape:=τ }) (by rw [hgo];rfl)
   rw [this] at hs
   cases hs
   rfl
 obtain⟨fr2,W2,hst2,hd2,_⟩:=(f 0).ends τ (hτ 0)
 exact key hst2 0 rfl rfl hd2
def zgi (fr:Frame) (cs:List Frame):Prop:=fr.mode=.returning∧fr.defers=[]∧cs=[]
theorem zjV (fr:Frame) (cs:List Frame) (h:¬ zgi fr cs):zgg fr cs:=h
theorem ziQ {F:Fence} {Q:Frame→World→Prop} (fr:Frame) (cs:List Frame) (W:World) (hi:Inv P maps D E fr cs W) (hs:zgi fr cs) (he:Ends P F zgi Q fr cs W):cs=[]∧Q fr W:=by
 obtain⟨h1,h2,rfl⟩:=hs
 obtain⟨fr2,W2,hst,_,_,hq⟩:=he
 rw [List.nil_append] at hst
 generalize hA:lone fr [bot P] W=mA at hst
 generalize hB:lone fr2 [bot P] W2=mB at hst
 cases hst with
 | refl =>
  obtain⟨rfl,_,rfl⟩:=zdk (hA.trans hB.symm)
  exact⟨rfl,hq⟩
 | head _ hs hrest =>
  subst hA
  exact (zhD hi.ok.kind h1 h2 hs hrest hB.symm).elim
def zcS (fr:Frame) (cs:List Frame):Prop:=cs=[]∧(fr.mode=.returning∨fr.todo=[])
theorem zfO (fr:Frame) (cs:List Frame) (h:¬ zcS fr cs):zgg fr cs:=fun ⟨a,_,c⟩=>h ⟨c,.inl a⟩
theorem zdI {F:Fence} {m m2:Machine} (h:StepsIn (Machine.fenced P F) P m m2):∀ {fr:Frame} {w:World},m=lone fr [bot P] w→fr.mode=.returning→Collected fr→fr.kind=.normal→P.inits.idxOf? fr.fn=none →
  fr.roundOf=none→EmptyDef w→∀ {fr2:Frame} {w2:World},m2=lone fr2 [bot P] w2→fr2.mode≠.run:=by
 induction h with
 | refl m =>
  rintro fr w rfl hm _ _ _ _ _ fr2 w2 h2 h3
  obtain⟨rfl,_,_⟩:=zdk h2
  rw [hm] at h3
  cases h3
 | @head m0 m₁ m₂ _ hs hrest ih =>
  rintro fr w rfl hm hd hk hin hro hE fr2 w2 h2
  cases hdd:fr.defers with
  | nil=>exact (zhD hk hm hdd hs hrest h2).elim
  | cons d ds =>
   obtain⟨b,rfl⟩:=hd d (by rw [hdd];exact List.mem_cons_self ..)
   have hst:stepG P true { frame:=fr,callers:=[bot P],status:=.running,dying:=none } w=unwind P true fr [bot P] none w:=by
    unfold stepG
    simp only [hm]
   unfold unwind at hst
   simp only [hdd,Sem.runT_eq] at hst
   cases hr:(Instr.takeDeferred b).run P w with
   | halt hh w1 =>
    rw [hr] at hst
    have:=step_lone_ended (P:=P) (by rw [hst];rfl)
    rw [this] at hs
    cases hs
   | ok calls w1 =>
    rw [hr] at hst
    obtain⟨rfl,hE'⟩:=zdr hE hr
    have:=step_lone_go (P:=P) (by rw [hst];rfl)
    rw [this] at hs
    cases hs
    refine ih rfl hm ?_ hk hin hro hE' h2
    intro d hdm
    exact hd d (by rw [hdd];exact List.mem_cons_of_mem _ hdm)
theorem ze3 {F:Fence} {Q:Frame→World→Prop} (hQ:∀ fr W,Q fr W→fr.mode=.run) (fr:Frame) (cs:List Frame) (W:World) (hi:Inv P maps D E fr cs W) (hs:zcS fr cs) (he:Ends P F zcS Q fr cs W):cs=[]∧Q fr W:=by
 obtain⟨rfl,h1⟩:=hs
 obtain⟨fr2,W2,hst,_,_,hq⟩:=he
 rw [List.nil_append] at hst
 have hb:=hi.base
 generalize hA:lone fr [bot P] W=mA at hst
 generalize hB:lone fr2 [bot P] W2=mB at hst
 rcases hi.ok.mode with hm | hm
 ·cases hst with
  | refl =>
   obtain⟨rfl,_,rfl⟩:=zdk (hA.trans hB.symm)
   exact⟨rfl,hq⟩
  | head _ hs hrest =>
   subst hA
   exfalso
   have ht:fr.todo=[]:=h1.resolve_left (by rw [hm];simp)
   have hst:stepG P true { frame:=fr,callers:=[bot P],status:=.running,dying:=none } W=.go { frame:={ fr with mode:=.returning },callers:=[bot P],status:=.running,dying:=none } W:=by
    have hb1:fr.roundOf=none:=hb.1
    obtain⟨fn,tmps,todo,defers,mode,kind,roundOf⟩:=fr
    dsimp only at hm ht hb1
    subst hm ht hb1
    rfl
   have:=step_lone_go (P:=P) (by rw [hst];rfl)
   rw [this] at hs
   cases hs
   exact zdI hrest (fr:={ fr with mode:=.returning }) rfl rfl hi.ok.defers hi.ok.kind hb.2 hb.1 hi.ed hB.symm (hQ _ _ hq)
 ·exact (zdI hst hA.symm hm hi.ok.defers hi.ok.kind hb.2 hb.1 hi.ed hB.symm (hQ _ _ hq)).elim
end
end Go.Con
namespace Go.Con
open Go
variable [Lone]
section
variable {P:Program} {maps:Bool} {D D' E Fz:Nat→Prop} {ρ σ:Rn}
theorem rarb (hD:∀ b,D b→D' b):(∀ b,b<(gd P).n∨D b→(RA (gd P)).p b=(RB (gd P) D' E).p b)∧(∀ b,(RA (gd P)).c b=(RB (gd P) D' E).c b) ∧
  (∀ f,(gd P).good f=true→(RA (gd P)).o f=(RB (gd P) D' E).o f) :=
 ⟨fun b h=>dbl_eq.2 (h.imp id (hD b)),fun _=>rfl,fun _ h=>badFn_eq.2 h⟩
theorem zcJ (h:∀ b,b<(gd P).n∨D b→ρ.p b=σ.p b) (hE:∀ b,ρ.c b=σ.c b) (hF:∀ f,(gd P).good f=true→ρ.o f=σ.o f) {it:Item}
  (hi:zal (RA (gd P)) it=zal (RB (gd P) D E) it):zal ρ it=zal σ it:=by
 cases it with
 | inRangeFunc l=>simp only [zal,Item.inRangeFunc.injEq] at hi ⊢;exact h _ (dbl_eq.1 hi)
 | endRangeFunc l=>simp only [zal,Item.endRangeFunc.injEq] at hi ⊢;exact h _ (dbl_eq.1 hi)
 | call d w r s =>
  simp only [zal,Item.call.injEq,true_and] at hi ⊢
  exact⟨zfs h hE hF hi.1,zcT (fun v=>zcd h hE hF v) hi.2⟩
 | extern row args=>simp only [zal,Item.extern.injEq,true_and] at hi ⊢;exact zcT (fun v=>zcd h hE hF v) hi
 | _=>rfl
theorem zbC (h:∀ b,b<(gd P).n∨D b→ρ.p b=σ.p b) (hE:∀ b,ρ.c b=σ.c b) (hF:∀ f,(gd P).good f=true→ρ.o f=σ.o f) {fr:Frame}
  (hi:supF P D E fr):zab ρ fr=zab σ fr:=by
 obtain⟨fn,tmps,todo,defers,mode,kind,roundOf⟩:=fr
 simp only [supF,zab,Frame.mk.injEq,true_and] at hi ⊢
 refine⟨zcT (fun v=>zcd h hE hF v) hi.1,zcQ (fun it=>zcJ h hE hF) hi.2.1,zcQ (fun d=>zfs h hE hF) hi.2.2.1,?_⟩
 have:=hi.2.2.2
 cases roundOf with
 | none=>rfl
 | some l =>
  simp only [Option.map_some,Option.some.injEq] at this ⊢
  exact h _ (dbl_eq.1 this)
theorem zbB (hD:∀ b,D b→D' b) {fr:Frame} (h:supF P D E fr):supF P D' E fr :=
 let ⟨a,b,c⟩:=rarb (P:=P) (E:=E) hD
 zbC a b c h
theorem zcc (hD:∀ b,D b→D' b) {o:Obj} (h:za8 (gd P) D E o):za8 (gd P) D' E o :=
 let ⟨a,b,c⟩:=rarb (P:=P) (E:=E) hD
 zft a b c h
theorem ObjR.ren {mf:Md} {b:Nat} {o o' : Obj} (h:ObjR ρ Fz mf b o o') (e:zau ρ o=zau σ o):ObjR σ Fz mf b o o':=by
 cases h with
 | frozen hf c t fz =>
  simp only [zau,Obj.cells.injEq,and_true] at e
  rw [e]
  exact .frozen hf c t fz
 | still hf h1 h2=>rw [e];exact .still hf h1 h2
 | own hf=>rw [e];exact .own hf
def shift (W W' : World):Tape:=fun i q=>if i<W.drawn then W.tape i q else W'.tape (W'.drawn+(i-W.drawn)) q
variable (P maps E) in
structure Sim (ρ:Rn) (D Fz:Nat→Prop) (fr:Frame) (cs:List Frame) (W W' : World):Prop where
 rok:RenOk P ρ
 hG:∀ b,b<P.globals.size→D b
 lt:∀ b,D b→b<W.heap.size
 bd:∀ b,b<W.heap.size→ρ.p b<W'.heap.size
 fz:∀ b,Fz b→D b
 sup:supF P D E fr
 sups:∀ c∈cs,supF P D E c
 os:W'.os=W.os
 output:W'.output=W.output
 obj:∀ b o,D b→W.heap[b]?=some o→∃ o',W'.heap[ρ.p b]?=some o'∧ObjR ρ Fz (mdOf P maps) b o o'
 supo:∀ b o,D b→W.heap[b]?=some o→za8 (gd P) D E o∧zaG (mdOf P maps) o=true∧zbm o=false
theorem zky {a:Array Obj} {b:Nat} (h:b<a.size):∃ o,a[b]?=some o:=⟨a[b],Array.getElem?_eq_getElem h⟩
theorem Sim.env {fr:Frame} {cs:List Frame} {W W' W'' : World} (h:Sim P maps E ρ D Fz fr cs W W') (h1:∀ b,D b→W''.heap[ρ.p b]?=W'.heap[ρ.p b]?) (h2:W'.heap.size≤W''.heap.size)
  (h3:W''.os=W'.os) (h4:W''.output=W'.output):Sim P maps E ρ D Fz fr cs W W'' :=
 ⟨h.rok,h.hG,h.lt,fun b hb=>Nat.lt_of_lt_of_le (h.bd b hb) h2,h.fz,h.sup,h.sups,h3.trans h.os,h4.trans h.output,fun b o hb ho=>by rw [h1 b hb];exact h.obj b o hb ho,h.supo⟩
def ext (ρ:Rn) (n n' : Nat):Rn:=⟨fun b=>if b<n then ρ.p b else b-n+n',ρ.c,ρ.o⟩
def SRH (P:Program) (maps:Bool) (fr:Frame) (cs:List Frame):Prop:=∀ σ:Rn,RenOk P σ →
 SR P (mdOf P maps) false σ (fun a b=>b=(zab σ a.1,a.2.map (zab σ))) (fun _=>False) (zan P fr cs) (zan P (zab σ fr) (cs.map (zab σ)))
theorem Sim.stepS {fr:Frame} {cs:List Frame} {W W' : World} (h:Sim P maps E ρ D Fz fr cs W W') (hsr:SRH P maps fr cs) :
  ∃ τ:Tape,Agree W.drawn τ W.tape∧∀ {fr' : Frame} {cs' : List Frame} {Wf:World},(zan P fr cs).run P { W with tape:=τ }=.ok (fr',cs') Wf →
  ∃ W'f,(zan P (zab ρ fr) (cs.map (zab ρ))).run P W'=.ok (zab (ext ρ W.heap.size W'.heap.size) fr',cs'.map (zab (ext ρ W.heap.size W'.heap.size))) W'f ∧
   Sim P maps E (ext ρ W.heap.size W'.heap.size) (fun b=>D b∨(W.heap.size≤b∧b<Wf.heap.size)) Fz fr' cs' Wf W'f ∧
   Keeps (ext ρ W.heap.size W'.heap.size) (fun b=>D b∨(W.heap.size≤b∧b<Wf.heap.size)) Fz W' W'f ∧
   W'f.heap.size+W.heap.size=W'.heap.size+Wf.heap.size ∧
   ∀ e,e∈(zan P (zab ρ fr) (cs.map (zab ρ))).events P W' #[]→EvOk (ext ρ W.heap.size W'.heap.size) (fun b=>D b∨(W.heap.size≤b∧b<Wf.heap.size)) Fz e:=by
 have hold:∀ b,b<W.heap.size→(ext ρ W.heap.size W'.heap.size).p b=ρ.p b:=fun b hb=>by simp [ext,hb]
 have hnew:∀ b,W.heap.size≤b→(ext ρ W.heap.size W'.heap.size).p b=b-W.heap.size+W'.heap.size:=fun b hb=>by simp [ext,Nat.not_lt.2 hb]
 generalize hρ:ext ρ W.heap.size W'.heap.size=ρ' at hold hnew ⊢
 have hco:ρ'.c=ρ.c∧ρ'.o=ρ.o:=by subst hρ;exact⟨rfl,rfl⟩
 have same:∀ b,b<(gd P).n∨D b→ρ.p b=ρ'.p b:=fun b hb=>(hold b (h.lt b (hb.elim (h.hG b) id))).symm
 have sameE:∀ b,ρ.c b=ρ'.c b:=fun b=>by rw [hco.1]
 have sameF:∀ f,(gd P).good f=true→ρ.o f=ρ'.o f:=fun f _=>by rw [hco.2]
 have efr:zab ρ fr=zab ρ' fr:=zbC same sameE sameF h.sup
 have ecs:cs.map (zab ρ)=cs.map (zab ρ'):=by
  apply List.map_congr_left
  intro c hcm
  exact zbC same sameE sameF (h.sups c hcm)
 rw [efr,ecs]
 have inj:∀ x y,ρ'.p x=ρ'.p y→x=y:=by
  intro x y e
  rcases Nat.lt_or_ge x W.heap.size with hx | hx<;>rcases Nat.lt_or_ge y W.heap.size with hy | hy
  ·rw [hold x hx,hold y hy] at e;exact h.rok.inj _ _ e
  ·rw [hold x hx,hnew y hy] at e;have:=h.bd x hx;omega
  ·rw [hnew x hx,hold y hy] at e;have:=h.bd y hy;omega
  ·rw [hnew x hx,hnew y hy] at e;omega
 have R:RenOk P ρ':=⟨inj,fun b hb=>by rw [hold b (h.lt b (h.hG b hb))];exact h.rok.fix b hb,by rw [hco.2];exact h.rok.fixo⟩
 obtain⟨τ,hτ,hrun⟩:=SR.run (G:=gd P) (E:=E) (Fz:=Fz) inj (hsr _ R) (W:=W) (W':=W')
 refine⟨τ,hτ,fun {fr' cs' Wf} hr=>?_⟩
 have hle:W.heap.size≤Wf.heap.size:=za2 (W:={ W with tape:=τ }) hr
 generalize hDD:(fun b=>D b∨(W.heap.size≤b∧b<Wf.heap.size))=D'
 have hDe:∀ b,D' b↔(D b∨(W.heap.size≤b∧b<Wf.heap.size)):=fun b=>by subst hDD;exact Iff.rfl
 have hDD' : ∀ b,D b→D' b:=fun b hb=>(hDe b).2 (.inl hb)
 have hG' : ∀ b,b<P.globals.size→D' b:=fun b hb=>hDD' b (h.hG b hb)
 have hS:Sup P (mdOf P maps) (gd P) D' E (fun a=>supF P D' E a.1∧∀ c∈a.2,supF P D' E c) (zan P fr cs):=by
  have hA:=hsr _ zmf
  have hB:=hsr _ (zmg (D:=D') (E:=E))
  rw [← sups_map.1 fun c hcm=>zbB hDD' (h.sups c hcm),← show zab (RA (gd P)) fr=zab (RB (gd P) D' E) fr from zbB hDD' h.sup] at hB
  have:=zlE (mf:=mdOf P maps) (G:=gd P) (D:=D') (E:=E) hG' hA hB
  refine Sup.mono this ?_
  rintro a ⟨b,h1,h2⟩
  refine⟨?_,sups_map.2 ?_⟩
  ·have:=h1.symm.trans h2
   simp only [Prod.mk.injEq] at this
   exact this.1
  ·have:=h1.symm.trans h2
   simp only [Prod.mk.injEq] at this
   exact this.2
 have hw:WR (gd P) ρ' D' E Fz (mdOf P maps) W W':=by
  refine⟨h.os,h.output,fun b o hb ho=>?_,fun b hb ho=>?_,fun b o hb ho=>?_⟩
  ·have hlt:b<W.heap.size:=by
    rcases Nat.lt_or_ge b W.heap.size with h | h
    ·exact h
    ·rw [Array.getElem?_eq_none h] at ho;cases ho
   have hDb:D b:=((hDe b).1 hb).elim id fun h=>absurd h.1 (Nat.not_le.2 hlt)
   obtain⟨o',h1,h2⟩:=h.obj b o hDb ho
   rw [hold b hlt]
   exact⟨o',h1,h2.ren (zft same sameE sameF (h.supo b o hDb ho).1)⟩
  ·have hge:W.heap.size≤b:=by
    rcases Nat.lt_or_ge b W.heap.size with h | h
    ·obtain⟨o,ho'⟩:=zky h
     rw [ho'] at ho
     cases ho
    ·exact h
   rw [hnew b hge]
   exact Array.getElem?_eq_none (by omega)
  ·have hlt:b<W.heap.size:=by
    rcases Nat.lt_or_ge b W.heap.size with h | h
    ·exact h
    ·rw [Array.getElem?_eq_none h] at ho;cases ho
   have hDb:D b:=((hDe b).1 hb).elim id fun h=>absurd h.1 (Nat.not_le.2 hlt)
   obtain⟨h1,h2⟩:=h.supo b o hDb ho
   exact⟨zcc hDD' h1,h2⟩
 have hfresh:zlJ ρ' D' Fz W W' Wf:=by
  intro b h1 h2
  have h1' : W.heap.size≤b:=h1
  refine⟨(hDe b).2 (.inr ⟨h1',h2⟩),fun hz=>absurd (h.lt b (h.fz b hz)) (Nat.not_lt.2 h1'),?_⟩
  show ρ'.p b+W.heap.size=W'.heap.size+b
  rw [hnew b h1']
  omega
 obtain⟨b,W'f,g1,g2,g3,g4,g5,g6,g7⟩:=hrun hS hw (fun _ hk=>hk.elim) hr hfresh
 subst g2
 refine⟨W'f,g1,?_,g5,g6,fun e he=>(g7 #[] e he).resolve_left (Array.not_mem_empty e)⟩
 have g6' : W'f.heap.size+W.heap.size=W'.heap.size+Wf.heap.size:=g6
 refine⟨R,hG',fun b hb=>?_,fun b hb=>?_,fun b hb=>hDD' b (h.fz b hb),g3.1,g3.2,g4.os,g4.output,fun b o hb ho=>g4.obj b o hb ho,fun b o hb ho=>g4.sup b o hb ho⟩
 ·rcases (hDe b).1 hb with hb | hb
  ·exact Nat.lt_of_lt_of_le (h.lt b hb) hle
  ·exact hb.2
 ·rcases Nat.lt_or_ge b W.heap.size with hx | hx
  ·rw [hold b hx]
   have:=h.bd b hx
   omega
  ·rw [hnew b hx]
   omega
theorem zqN {fr:Frame} {cs:List Frame} (hok:OkFrame P maps fr) (hoks:∀ c∈cs,OkFrame P maps c) (hc:zdQ P fr):SRH P maps fr cs:=fun _ R=>(zeu R hok hoks hc).mono fun _ _ h=>h.1
theorem Sim.step {fr:Frame} {cs:List Frame} {W W' : World} (h:Sim P maps E ρ D Fz fr cs W W') (hok:OkFrame P maps fr) (hoks:∀ c∈cs,OkFrame P maps c) (hc:zdQ P fr) :
  ∃ τ:Tape,Agree W.drawn τ W.tape∧∀ {fr' : Frame} {cs' : List Frame} {Wf:World},(zan P fr cs).run P { W with tape:=τ }=.ok (fr',cs') Wf →
  ∃ W'f,(zan P (zab ρ fr) (cs.map (zab ρ))).run P W'=.ok (zab (ext ρ W.heap.size W'.heap.size) fr',cs'.map (zab (ext ρ W.heap.size W'.heap.size))) W'f ∧
   Sim P maps E (ext ρ W.heap.size W'.heap.size) (fun b=>D b∨(W.heap.size≤b∧b<Wf.heap.size)) Fz fr' cs' Wf W'f ∧
   Keeps (ext ρ W.heap.size W'.heap.size) (fun b=>D b∨(W.heap.size≤b∧b<Wf.heap.size)) Fz W' W'f ∧
   W'f.heap.size+W.heap.size=W'.heap.size+Wf.heap.size ∧
   ∀ e,e∈(zan P (zab ρ fr) (cs.map (zab ρ))).events P W' #[]→EvOk (ext ρ W.heap.size W'.heap.size) (fun b=>D b∨(W.heap.size≤b∧b<Wf.heap.size)) Fz e:=h.stepS (zqN hok hoks hc)
end
end Go.Con
namespace Go.Con
open Go
variable [Lone]
section
variable {P:Program} {maps:Bool}
def low (κ:CallKind) (k:List Item) (bs:List Frame):List Frame→List Frame
 | []=>bs
 | [c]=>{ c with todo:=c.todo++k,kind:=κ } :: bs
 | c :: c2 :: rest=>c :: low κ k bs (c2 :: rest)
def up (κ:CallKind) (k:List Item) (bs:List Frame) (fr:Frame) (cs:List Frame):Frame×List Frame:=match cs with
 | []=>({ fr with todo:=fr.todo++k,kind:=κ },bs)
 | c :: rest=>(fr,low κ k bs (c :: rest))
theorem zdf {κ:CallKind} {fr:Frame} {v:Value} (k:List Item) (h:fr.todo≠[]):Frame.finish { fr with todo:=fr.todo++k,kind:=κ } v={ fr.finish v with todo:=(fr.finish v).todo++k,kind:=κ }:=by
 obtain⟨fn,tmps,todo,defers,mode,kind,roundOf⟩:=fr
 cases todo with
 | nil=>exact (h rfl).elim
 | cons it t =>
  cases it with
  | inRegion ops l=>cases l<;>rfl
  | _=>rfl
theorem zde (id:Nat):∀ {t k k' : List Item},exitTo id t=some k'→exitTo id (t++k)=some (k'++k)
 | [],_,_,h=>by cases h
 | it :: t,k,k',h=>by
  cases it<;>simp only [List.cons_append,exitTo] at h ⊢
  case inBlock =>
   split at h
   ·rename_i hc;rw [if_pos hc];cases h;rfl
   ·rename_i hc;rw [if_neg hc];exact zde id h
  all_goals exact zde id h
theorem zm8 {κ:CallKind} {fr:Frame} {t:List Item}:Frame.eval { fr with todo:=t,kind:=κ }=fr.eval:=by
 funext x
 cases x<;>rfl
abbrev lift (κ:CallKind) (k:List Item) (bs:List Frame) (s:Sem (Frame×List Frame)):Sem (Frame×List Frame):=s >>= fun x=>pure (up κ k bs x.1 x.2)
theorem zg1 {κ:CallKind} {k:List Item} {bs:List Frame} {c:Frame} {cs:List Frame} (hne:∀ d∈c :: cs,d.todo≠[]) {v:Value}:zdq (low κ k bs (c :: cs)) v=lift κ k bs (zdq (c :: cs) v):=by
 cases cs with
 | nil =>
  show pure (Frame.finish { c with todo:=c.todo++k,kind:=κ } v,bs)=pure ({ c.finish v with todo:=(c.finish v).todo++k,kind:=κ },bs)
  rw [zdf k (hne c (List.mem_cons_self ..))]
 | cons c2 rest=>rfl
theorem zkw {κ:CallKind} {k:List Item} {bs:List Frame} {fr:Frame} {cs:List Frame} {jump:Option Code} (h:fr.roundOf=none∨cs≠[]) (hne:∀ c∈cs,c.todo≠[]) :
  zaU (up κ k bs fr cs).1 (up κ k bs fr cs).2 jump=lift κ k bs (zaU fr cs jump):=by
 cases cs with
 | nil =>
  have hr:=h.resolve_right (by simp)
  obtain⟨fn,tmps,todo,defers,mode,kind,roundOf⟩:=fr
  dsimp only at hr
  subst hr
  cases jump with
  | none=>rfl
  | some c=>cases c<;>rfl
 | cons c rest =>
  unfold zaU up
  dsimp only
  cases hr:fr.roundOf with
  | none =>
   cases jump with
   | none=>rfl
   | some c=>cases c<;>rfl
  | some l =>
   dsimp only [lift]
   rw [bind_assoc]
   congr 1
   funext v
   exact zg1 hne
theorem zc0 {κ:CallKind} {k:List Item} {bs:List Frame} {fr:Frame} {cs:List Frame} {n:Next} (h:fr.todo≠[]):zbO P (up κ k bs fr cs).1 (up κ k bs fr cs).2 n=lift κ k bs (zbO P fr cs n):=by
 cases cs with
 | nil =>
  cases n<;>first
   | rfl
   | exact congrArg (fun f=>(pure (f,bs):Sem (Frame×List Frame))) (zdf k h)
 | cons c rest=>cases n<;>rfl
theorem zgG {κ:CallKind} {k:List Item} {bs:List Frame} {fr:Frame} {cs:List Frame} (h:fr.roundOf=none∨cs≠[]) (hne:∀ c∈cs,c.todo≠[]) (hm:cs=[]→fr.mode=.run∧fr.todo≠[])
  {W W' : World} {x:Frame×List Frame} (hr:(zan P fr cs).run P W=.ok x W'):zan P (up κ k bs fr cs).1 (up κ k bs fr cs).2=lift κ k bs (zan P fr cs):=by
 have hmode:(up κ k bs fr cs).1.mode=fr.mode:=by cases cs<;>rfl
 cases hmo:fr.mode with
 | panicking =>
  unfold zan
  rw [hmode,hmo]
  rfl
 | returning =>
  cases cs with
  | nil=>have:=(hm rfl).1;rw [hmo] at this;cases this
  | cons c rest =>
   unfold zan up
   dsimp only
   rw [hmo]
   dsimp only
   split
   ·dsimp only [lift];simp only [bind_assoc,pure_bind];rfl
   ·rfl
   ·split
    ·exact zg1 hne
    ·dsimp only [lift]
     rw [bind_assoc]
     congr 1
     funext v
     exact zg1 hne
 | run =>
  have hst:fr.todo≠[]∨cs≠[]:=by
   cases cs with
   | nil=>exact .inl (hm rfl).2
   | cons=>exact .inr (by simp)
  unfold zan at hr ⊢
  rw [hmode]
  rw [hmo] at hr ⊢
  dsimp only at hr ⊢
  have hlv:∀ jump,zaU (up κ k bs fr cs).1 (up κ k bs fr cs).2 jump=lift κ k bs (zaU fr cs jump):=fun jump=>zkw h hne
  have hnx:∀ {fr1:Frame} {n:Next},fr1.todo≠[]→zbO P (up κ k bs fr1 cs).1 (up κ k bs fr1 cs).2 n=lift κ k bs (zbO P fr1 cs n):=fun h=>zc0 h
  have hev:(up κ k bs fr cs).1.eval=fr.eval:=by
   cases cs with
   | nil=>exact zm8
   | cons=>rfl
  obtain⟨fn,tmps,todo,defers,mode,kind,roundOf⟩:=fr
  cases todo with
  | nil =>
   cases cs with
   | nil=>exact absurd rfl (hst.resolve_right (by simp))
   | cons c rest=>exact hlv none
  | cons it t =>
   have hset:∀ t',((up κ k bs ⟨fn,tmps,it :: t,defers,mode,kind,roundOf⟩ cs).1,(up κ k bs ⟨fn,tmps,it :: t,defers,mode,kind,roundOf⟩ cs).2)=(up κ k bs ⟨fn,tmps,it :: t,defers,mode,kind,roundOf⟩ cs) ∧
     (cs=[]→(up κ k bs ⟨fn,tmps,t',defers,mode,kind,roundOf⟩ cs)=(⟨fn,tmps,t'++k,defers,mode,κ,roundOf⟩,bs)):=fun t'=>⟨rfl,fun e=>by subst e;rfl⟩
   cases it with
   | code c =>
    cases c with
    | ret=>cases cs<;>exact hlv (some .ret)
    | cond c a b =>
     unfold zb3
     rw [hev]
     cases cs<;>(dsimp only [up,List.cons_append];split<;>rfl)
    | exit id =>
     unfold zb3 at hr ⊢
     cases cs with
     | nil =>
      dsimp only [up,List.cons_append] at hr ⊢
      cases he:exitTo id t with
      | none =>
       rw [he] at hr
       have hro:=h.resolve_right (by simp)
       dsimp only at hro
       subst hro
       cases hr
      | some k'=>rw [zde id he];rfl
     | cons c rest =>
      dsimp only [up]
      cases he:exitTo id t with
      | none=>exact hlv (some (.exit id))
      | some k'=>rfl
    | rangeFunc f params a b =>
     unfold zb3
     rw [hev]
     cases cs with
     | nil =>
      dsimp only [up,List.cons_append,lift]
      simp only [bind_assoc]
      congr 1
      funext x
      congr 1
      funext y
      congr 1
      funext n
      exact zc0 (k:=k) (bs:=bs) (cs:=[]) (fr:=⟨fn,tmps,.inRangeFunc x.1 :: t,x.2++defers,mode,kind,roundOf⟩) (by simp)
     | cons c rest =>
      dsimp only [up,lift]
      simp only [bind_assoc]
      congr 1
      funext x
      congr 1
      funext y
      congr 1
      funext n
      exact zc0 (k:=k) (bs:=bs) (cs:=c :: rest) (fr:=⟨fn,tmps,.inRangeFunc x.1 :: t,x.2++defers,mode,kind,roundOf⟩) (by simp)
    | region id ops draw=>cases cs<;>cases draw<;>rfl
    | _=>cases cs<;>rfl
   | inRegion ops l =>
    cases l with
    | nil=>cases cs<;>rfl
    | cons i rest =>
     have hne1:(⟨fn,tmps,.inRegion ops (i :: rest) :: t,defers,mode,kind,roundOf⟩:Frame).todo≠[]:=by simp
     unfold zb3
     rw [hev]
     by_cases hw:((ops[i]?).map (Region.wanted · (yielded ops tmps))).getD false=true
     ·cases cs with
      | nil =>
       dsimp only [up,List.cons_append]
       rw [if_pos hw]
       refine (if_pos hw).trans ?_
       cases ops[i]? with
       | none=>rfl
       | some o =>
        dsimp only [lift]
        simp only [bind_assoc]
        congr 1
        funext n
        exact zc0 (k:=k) (bs:=bs) (cs:=[]) hne1
      | cons c rest2 =>
       dsimp only [up]
       rw [if_pos hw]
       refine (if_pos hw).trans ?_
       cases ops[i]? with
       | none=>rfl
       | some o =>
        dsimp only [lift]
        simp only [bind_assoc]
        congr 1
        funext n
        exact zc0 (k:=k) (bs:=bs) (cs:=c :: rest2) hne1
     ·cases cs with
      | nil =>
       dsimp only [up,List.cons_append]
       rw [if_neg hw]
       refine (if_neg hw).trans ?_
       exact congrArg (fun f=>(pure (f,bs):Sem (Frame×List Frame))) (zdf k hne1)
      | cons c rest2 =>
       dsimp only [up]
       rw [if_neg hw]
       refine (if_neg hw).trans ?_
       rfl
   | endRangeFunc l =>
    unfold zb3
    cases cs with
    | nil =>
     dsimp only [up,List.cons_append,lift]
     simp only [bind_assoc,pure_bind,List.append_assoc]
    | cons c rest =>
     dsimp only [up,lift]
     simp only [bind_assoc,pure_bind]
   | beginRound =>
    have hne1:(⟨fn,tmps,.beginRound :: t,defers,mode,kind,roundOf⟩:Frame).todo≠[]:=by simp
    unfold zb3
    cases cs with
    | nil =>
     dsimp only [up,List.cons_append,lift]
     simp only [bind_assoc,pure_bind]
     congr 1
    | cons c rest =>
     dsimp only [up,lift]
     simp only [bind_assoc,pure_bind]
   | _=>cases cs<;>rfl
end
end Go.Con
