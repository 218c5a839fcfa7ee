import Derived.Test.YtbbanmifdbeneaaDoorF18
set_option linter.all false
open List renaming cons_append → jqa
open Nat renaming lt_or_ge → jqb, lt_of_lt_of_le → jqc
open Array renaming getElem?_eq_none → jqd
namespace Go.Con
open Go
variable [Lone]
section
variable {P:Program} {maps:Bool} {D E:Nat→Prop}
abbrev Tape:=Nat→Question→Nat
def Agree (n:Nat) (τ σ:Tape):Prop:=∀ i q,i<n→τ i q=σ i q
theorem Agree.refl {n:Nat} {τ:Tape}:Agree n τ τ:=fun _ _ _=>rfl
variable (P maps D E) in
inductive Fut (Stop:Frame→List Frame→Prop) (Q:Frame→World→Prop):Frame→List Frame→World→Prop
 | done {fr:Frame} {W:World} (hi:Inv P maps D E fr [] W) (hs:Stop fr []) (hq:Q fr W):Fut Stop Q fr [] W
 | step {fr:Frame} {cs:List Frame} {W:World} (hi:Inv P maps D E fr cs W) (hn:¬ Stop fr cs)
   (h1:∀ τ:Tape,Agree W.drawn τ W.tape→∃ x W',(zao P fr cs).run P { W with tape:=τ }=.ok x W')
   (h2:∀ (τ:Tape) (fr' : Frame) (cs' : List Frame) (W' : World),Agree W.drawn τ W.tape→(zao P fr cs).run P { W with tape:=τ }=.ok (fr',cs') W'→Fut Stop Q fr' cs' W'):Fut Stop Q fr cs W
theorem Inv.tape {fr:Frame} {cs:List Frame} {W:World} (h:Inv P maps D E fr cs W) (τ:Tape):Inv P maps D E fr cs { W with tape:=τ } :=
 ⟨h.ok,h.oks,h.sup,h.sups,h.lw,h.ed,h.fresh,h.base,h.ne⟩
theorem zkD {fr:Frame} {W:World} (hb:Base P fr []) (hk:fr.kind=.normal) (hm:fr.mode=.returning) (hd:fr.defers=[]):∀ m,step P (lone fr [] W)≠.next m:=by
 intro m h;have hin:=hb.2;have hst:∃ o w es,stepG P true { frame:=fr,callers:=[],status:=.running,dying:=none } W=.ended o w es:=by
  have h0:stepG P true { frame:=fr,callers:=[],status:=.running,dying:=none } W=unwind P true fr [] none W:=by
   unfold stepG;simp only [hm]
  rw [h0];have hret:∀ v w,doReturn P true fr [] none v w=.ended (.done v) w:=by
   intro v w;unfold doReturn;simp only [hk,hin,Bool.not_true,Bool.false_eq_true,if_false]
  unfold unwind;simp only [hd,hm,Sem.runT_eq]
  cases hf:P.funcs[fr.fn]? with
  | none=>exact⟨_,_,_,hret _ _⟩
  | some f =>
   dsimp only
   cases hr:(results f fr.tmps).run P W with
   | ok v w=>dsimp only;rw [hret];exact⟨_,_,_,rfl⟩
   | halt hh w=>cases hh<;>exact⟨_,_,_,rfl⟩
 obtain⟨o,w,es,hst⟩:=hst;have:=step_lone_ended (P:=P) (by rw [hst];rfl);rw [this] at h;cases h
structure Bad (P:Program) (maps:Bool) (D E:Nat→Prop) (F:Fence) (Stop:Frame→List Frame→Prop) (Q:Frame→World→Prop) where
 fr:Frame
 cs:List Frame
 W:World
 inv:Inv P maps D E fr cs W
 ends:∀ τ:Tape,Agree W.drawn τ W.tape→Ends P F Stop Q fr cs { W with tape:=τ }
 no:¬ Fut P maps D E Stop Q fr cs W
structure zpr {F:Fence} {Stop:Frame→List Frame→Prop} {Q:Frame→World→Prop} (x y:Bad P maps D E F Stop Q):Prop where
 notDone:¬ Stop x.fr x.cs
 drawn:x.W.drawn≤y.W.drawn
 agree:Agree x.W.drawn y.W.tape x.W.tape
 run:∀ τ:Tape,Agree y.W.drawn τ y.W.tape→(zao P x.fr x.cs).run P { x.W with tape:=τ }=.ok (y.fr,y.cs) { y.W with tape:=τ }
theorem Bad.next {F:Fence} (hal:F.alive=true) (hF:∀ f,F.fn f→zaL P (.func f)=true→okFn P maps f) (hG:∀ b,b<P.globals.size→D b) {Stop:Frame→List Frame→Prop} {Q:Frame→World→Prop} (hsd:∀ fr cs,¬ Stop fr cs→zhS fr cs) (hst:∀ fr cs W,Inv P maps D E fr cs W→Stop fr cs→Ends P F Stop Q fr cs W→cs=[]∧Q fr W) (x:Bad P maps D E F Stop Q):∃ y:Bad P maps D E F Stop Q,zpr x y:=by
 obtain⟨fr,cs,W,inv,ends,no⟩:=x;have hn:¬ Stop fr cs:=by
  intro hs;obtain⟨rfl,hq⟩:=hst fr cs W inv hs (ends W.tape .refl);exact no (.done inv hs hq)
 have:∃ τ:Tape,Agree W.drawn τ W.tape∧¬ ∃ fr' cs' W',(zao P fr cs).run P { W with tape:=τ }=.ok (fr',cs') W'∧Fut P maps D E Stop Q fr' cs' W':=by
  refine Classical.byContradiction fun hc=>?_;have hall:∀ τ:Tape,Agree W.drawn τ W.tape→∃ fr' cs' W',(zao P fr cs).run P { W with tape:=τ }=.ok (fr',cs') W'∧Fut P maps D E Stop Q fr' cs' W' :=
   fun τ hτ=>Classical.byContradiction fun h=>hc ⟨τ,hτ,h⟩
  refine no (.step inv hn (fun τ hτ=>?_) fun τ fr' cs' W' hτ hr=>?_)
  ·obtain⟨a,b,c,h,_⟩:=hall τ hτ
   exact⟨_,_,h⟩
  ·obtain⟨a,b,c,h,hfu⟩:=hall τ hτ
   rw [h] at hr;cases hr
   exact hfu
 obtain⟨τ,hτ,hno⟩:=this;obtain⟨fr',cs',W',h1,h2,h3,h4,h5,h6⟩:=(inv.tape τ).step hal hF hG hn (hsd _ _ hn) (ends τ hτ);have hag:∀ σ:Tape,Agree W'.drawn σ W'.tape→Agree W.drawn σ W.tape:=by
  intro σ hσ i q hi;rw [hσ i q (jqc hi h5),h4];exact hτ i q hi
 refine⟨⟨fr',cs',W',h2,fun σ hσ=>?_,fun hf=>hno ⟨fr',cs',W',h1,hf⟩⟩,hn,h5,hag _ .refl,fun σ hσ=>?_⟩
 ·obtain⟨fr3,cs3,W3,g1,_,g3,_⟩:=(inv.tape σ).step hal hF hG hn (hsd _ _ hn) (ends σ (hag σ hσ))
  have g:=h6 σ fun i q hi=>by rw [hσ i q hi,h4]
  have e:({ ({ W with tape:=τ }:World) with tape:=σ }:World)={ W with tape:=σ }:=rfl;rw [e,g1] at g;cases g
  exact g3
 ·exact h6 σ fun i q hi=>by rw [hσ i q hi,h4]
theorem zoA {F:Fence} (hal:F.alive=true) (hF:∀ f,F.fn f→zaL P (.func f)=true→okFn P maps f) (hG:∀ b,b<P.globals.size→D b) {Stop:Frame→List Frame→Prop} {Q:Frame→World→Prop}
  (hsd:∀ fr cs,¬ Stop fr cs→zhS fr cs) (hst:∀ fr cs W,Inv P maps D E fr cs W→Stop fr cs→Ends P F Stop Q fr cs W→cs=[]∧Q fr W) {fr:Frame} {cs:List Frame} {W:World}
  (hi:Inv P maps D E fr cs W) (H:∀ τ:Tape,Agree W.drawn τ W.tape→Ends P F Stop Q fr cs { W with tape:=τ }):Fut P maps D E Stop Q fr cs W:=by
 refine Classical.byContradiction fun hno=>?_
 let x0:Bad P maps D E F Stop Q:=⟨fr,cs,W,hi,H,hno⟩
 let nx:Bad P maps D E F Stop Q→Bad P maps D E F Stop Q:=fun x=>(x.next hal hF hG hsd hst).choose
 have hnx:∀ x,zpr x (nx x):=fun x=>(x.next hal hF hG hsd hst).choose_spec
 let f:Nat→Bad P maps D E F Stop Q:=fun n=>Nat.rec x0 (fun _ x=>nx x) n
 have hf:∀ n,zpr (f n) (f (n+1)):=fun n=>hnx (f n);have hmono:∀ k n,(f n).W.drawn≤(f (n+k)).W.drawn:=by
  intro k n
  induction k with
  | zero=>exact Nat.le_refl _
  | succ k ih=>exact Nat.le_trans ih (hf (n+k)).drawn
 have hag:∀ k n,Agree (f n).W.drawn (f (n+k)).W.tape (f n).W.tape:=by
  intro k n
  induction k with
  | zero=>exact .refl
  | succ k ih =>
   intro i q hi;exact ((hf (n+k)).agree i q (jqc hi (hmono k n))).trans (ih i q hi)
 have hag2:∀ m n i q,i<(f m).W.drawn→i<(f n).W.drawn→(f m).W.tape i q=(f n).W.tape i q:=by
  intro m n i q h1 h2;rcases Nat.le_total m n with h | h
  ·obtain⟨k,rfl⟩:=Nat.le.dest h
   exact (hag k m i q h1).symm
  ·obtain⟨k,rfl⟩:=Nat.le.dest h
   exact hag k n i q h2
 let τ:Tape:=fun i q=>open Classical in if h:∃ n,i<(f n).W.drawn then (f h.choose).W.tape i q else 0
 have hτ:∀ n,Agree (f n).W.drawn τ (f n).W.tape:=by
  intro n i q hi;have h:∃ n,i<(f n).W.drawn:=⟨n,hi⟩;show (open Classical in if h:∃ n,i<(f n).W.drawn then (f h.choose).W.tape i q else 0)=_;rw [dif_pos h];exact hag2 _ _ _ _ h.choose_spec hi
 have key:∀ {m m2},StepsIn (Machine.fenced P F) P m m2→∀ n,m=lone (f n).fr (f n).cs { (f n).W with tape:=τ }→∀ {fr2 W2},m2=lone fr2 [] W2→Stop fr2 []→False:=by
  intro m m2 h
  induction h with
  | refl m =>
   rintro n rfl fr2 W2 h2 h3;obtain⟨e1,e2,_⟩:=zeX h2;refine (hf n).notDone ?_;rw [e1,e2];exact h3
  | @head m0 m₁ m₂ _ hs hrest ih =>
   rintro n rfl fr2 W2 h2 h3;refine ih (n+1) ?_ h2 h3;have hr:=(hf n).run τ (hτ (n+1));obtain⟨es,hgo,_⟩:=zdX (main:=true) (st:=.running) (off:=none) (f n).inv.ok.head hr;have:=step_lone_go (P:=P) (fr:=(f n).fr) (cs:=(f n).cs) (w:={ (f n).W with tape:=τ }) (by rw [hgo];rfl);rw [this] at hs;cases hs
   rfl
 obtain⟨fr2,W2,hst2,hd2,_⟩:=(f 0).ends τ (hτ 0);exact key hst2 0 rfl rfl hd2
def zc5 (fr:Frame) (cs:List Frame):Prop:=cs=[]∧(fr.mode=.returning∨fr.todo=[])
theorem zfC (fr:Frame) (cs:List Frame) (h:¬ zc5 fr cs):zhS fr cs:=fun ⟨a,_,c⟩=>h ⟨c,.inl a⟩
theorem zd0 {F:Fence} {m m2:Machine} (h:StepsIn (Machine.fenced P F) P m m2):∀ {fr:Frame} {w:World},m=lone fr [] w→fr.mode=.returning→Collected fr→fr.kind=.normal→P.inits.idxOf? fr.fn=none →
  fr.roundOf=none→EmptyDef w→∀ {fr2:Frame} {w2:World},m2=lone fr2 [] w2→fr2.mode≠.run:=by
 induction h with
 | refl m =>
  rintro fr w rfl hm _ _ _ _ _ fr2 w2 h2 h3;obtain⟨rfl,_,_⟩:=zeX h2;rw [hm] at h3;cases h3
 | @head m0 m₁ m₂ _ hs hrest ih =>
  rintro fr w rfl hm hd hk hin hro hE fr2 w2 h2
  cases hdd:fr.defers with
  | nil=>exact (zkD (P:=P) (fr:=fr) (W:=w) ⟨hro,hin⟩ hk hm hdd _ hs).elim
  | cons d ds =>
   obtain⟨b,rfl⟩:=hd d (by rw [hdd];exact List.mem_cons_self ..);have hst:stepG P true { frame:=fr,callers:=[],status:=.running,dying:=none } w=unwind P true fr [] none w:=by
    unfold stepG;simp only [hm]
   unfold unwind at hst;simp only [hdd,Sem.runT_eq] at hst
   cases hr:(Instr.takeDeferred b).run P w with
   | halt hh w1 =>
    rw [hr] at hst;have:=step_lone_ended (P:=P) (by rw [hst];rfl);rw [this] at hs;cases hs
   | ok calls w1 =>
    rw [hr] at hst;obtain⟨rfl,hE'⟩:=zdF hE hr;have:=step_lone_go (P:=P) (by rw [hst];rfl);rw [this] at hs;cases hs
    refine ih rfl hm ?_ hk hin hro hE' h2;intro d hdm;exact hd d (by rw [hdd];exact List.mem_cons_of_mem _ hdm)
theorem ze5 {F:Fence} {Q:Frame→World→Prop} (hQ:∀ fr W,Q fr W→fr.mode=.run) (fr:Frame) (cs:List Frame) (W:World) (hi:Inv P maps D E fr cs W) (hs:zc5 fr cs) (he:Ends P F zc5 Q fr cs W):cs=[]∧Q fr W:=by
 obtain⟨rfl,h1⟩:=hs;obtain⟨fr2,W2,hst,_,_,hq⟩:=he;have hb:=hi.base;generalize hA:lone fr [] W=mA at hst;generalize hB:lone fr2 [] W2=mB at hst;rcases hi.ok.mode with hm | hm
 ·cases hst with
  | refl =>
   obtain⟨rfl,_,rfl⟩:=zeX (hA.trans hB.symm);exact⟨rfl,hq⟩
  | head _ hs hrest =>
   subst hA;exfalso
   have ht:fr.todo=[]:=h1.resolve_left (by rw [hm];simp);have hst:stepG P true { frame:=fr,callers:=[],status:=.running,dying:=none } W=.go { frame:={ fr with mode:=.returning },callers:=[],status:=.running,dying:=none } W:=by
    have hb1:fr.roundOf=none:=hb.1;obtain⟨fn,tmps,todo,defers,mode,kind,roundOf⟩:=fr;dsimp only at hm ht hb1;subst hm ht hb1;rfl
   have:=step_lone_go (P:=P) (by rw [hst];rfl);rw [this] at hs;cases hs
   exact zd0 hrest (fr:={ fr with mode:=.returning }) rfl rfl hi.ok.defers hi.ok.kind hb.2 hb.1 hi.ed hB.symm (hQ _ _ hq)
 ·exact (zd0 hst hA.symm hm hi.ok.defers hi.ok.kind hb.2 hb.1 hi.ed hB.symm (hQ _ _ hq)).elim
end
end Go.Con
namespace Go.Con
open Go
variable [Lone]
section
variable {P:Program} {maps:Bool} {D D' E Fz:Nat→Prop} {ρ σ:Rn}
theorem rarb (hD:∀ b,D b→D' b):(∀ b,b<(gd P).n∨D b→(RA (gd P)).p b=(RB (gd P) D' E).p b)∧(∀ b,(RA (gd P)).c b=(RB (gd P) D' E).c b) ∧
  (∀ f,(gd P).good f=true→(RA (gd P)).o f=(RB (gd P) D' E).o f) :=
 ⟨fun b h=>dbl_eq.2 (h.imp id (hD b)),fun _=>rfl,fun _ h=>badFn_eq.2 h⟩
theorem zcU (h:∀ b,b<(gd P).n∨D b→ρ.p b=σ.p b) (hE:∀ b,ρ.c b=σ.c b) (hF:∀ f,(gd P).good f=true→ρ.o f=σ.o f) {it:Item}
  (hi:zal (RA (gd P)) it=zal (RB (gd P) D E) it):zal ρ it=zal σ it:=by
 cases it with
 | inRangeFunc l=>simp only [zal,Item.inRangeFunc.injEq] at hi ⊢;exact h _ (dbl_eq.1 hi)
 | endRangeFunc l=>simp only [zal,Item.endRangeFunc.injEq] at hi ⊢;exact h _ (dbl_eq.1 hi)
 | call d w r s =>
  simp only [zal,Item.call.injEq,true_and] at hi ⊢;exact⟨zfa h hE hF hi.1,zc6 (fun v=>zcq h hE hF v) hi.2⟩
 | extern row args=>simp only [zal,Item.extern.injEq,true_and] at hi ⊢;exact zc6 (fun v=>zcq h hE hF v) hi
 | _=>rfl
theorem zb2 (h:∀ b,b<(gd P).n∨D b→ρ.p b=σ.p b) (hE:∀ b,ρ.c b=σ.c b) (hF:∀ f,(gd P).good f=true→ρ.o f=σ.o f) {fr:Frame}
  (hi:supF P D E fr):zaa ρ fr=zaa σ fr:=by
 obtain⟨fn,tmps,todo,defers,mode,kind,roundOf⟩:=fr;simp only [supF,zaa,Frame.mk.injEq,true_and] at hi ⊢;refine⟨zc6 (fun v=>zcq h hE hF v) hi.1,zc4 (fun it=>zcU h hE hF) hi.2.1,zc4 (fun d=>zfa h hE hF) hi.2.2.1,?_⟩;have:=hi.2.2.2
 cases roundOf with
 | none=>rfl
 | some l =>
  simp only [Option.map_some,Option.some.injEq] at this ⊢;exact h _ (dbl_eq.1 this)
theorem zbW (hD:∀ b,D b→D' b) {fr:Frame} (h:supF P D E fr):supF P D' E fr :=
 let ⟨a,b,c⟩:=rarb (P:=P) (E:=E) hD
 zb2 a b c h
theorem zcr (hD:∀ b,D b→D' b) {o:Obj} (h:zba (gd P) D E o):zba (gd P) D' E o :=
 let ⟨a,b,c⟩:=rarb (P:=P) (E:=E) hD
 zfk a b c h
theorem ObjR.ren {mf:Md} {b:Nat} {o o' : Obj} (h:ObjR ρ Fz mf b o o') (e:zaz ρ o=zaz σ o):ObjR σ Fz mf b o o':=by
 cases h with
 | frozen hf c t fz =>
  simp only [zaz,Obj.cells.injEq,and_true] at e;rw [e];exact .frozen hf c t fz
 | still hf h1 h2=>rw [e];exact .still hf h1 h2
 | own hf=>rw [e];exact .own hf
def shift (W W' : World):Tape:=fun i q=>if i<W.drawn then W.tape i q else W'.tape (W'.drawn+(i-W.drawn)) q
theorem zdm (W W' : World):Agree W.drawn (shift W W') W.tape:=fun i q h=>by simp [shift,h]
variable (P maps E) in
structure Sim (ρ:Rn) (D Fz:Nat→Prop) (fr:Frame) (cs:List Frame) (W W' : World):Prop where
 rok:RenOk P ρ
 hG:∀ b,b<P.globals.size→D b
 lt:∀ b,D b→b<W.heap.size
 bd:∀ b,b<W.heap.size→ρ.p b<W'.heap.size
 fz:∀ b,Fz b→D b
 sup:supF P D E fr
 sups:∀ c∈cs,supF P D E c
 os:W'.os=W.os
 output:W'.output=W.output
 obj:∀ b o,D b→W.heap[b]?=some o→∃ o',W'.heap[ρ.p b]?=some o'∧ObjR ρ Fz (mdOf P maps) b o o'
 supo:∀ b o,D b→W.heap[b]?=some o→zba (gd P) D E o∧zaK (mdOf P maps) o=true∧zbv o=false
theorem zjB {a:Array Obj} {b:Nat} (h:b<a.size):∃ o,a[b]?=some o:=⟨a[b],Array.getElem?_eq_getElem h⟩
theorem Sim.env {fr:Frame} {cs:List Frame} {W W' W'' : World} (h:Sim P maps E ρ D Fz fr cs W W') (h1:∀ b,D b→W''.heap[ρ.p b]?=W'.heap[ρ.p b]?) (h2:W'.heap.size≤W''.heap.size)
  (h3:W''.os=W'.os) (h4:W''.output=W'.output):Sim P maps E ρ D Fz fr cs W W'' :=
 ⟨h.rok,h.hG,h.lt,fun b hb=>jqc (h.bd b hb) h2,h.fz,h.sup,h.sups,h3.trans h.os,h4.trans h.output,fun b o hb ho=>by rw [h1 b hb];exact h.obj b o hb ho,h.supo⟩
def ext (ρ:Rn) (n n' : Nat):Rn:=⟨fun b=>if b<n then ρ.p b else b-n+n',ρ.c,ρ.o⟩
def SRH (P:Program) (maps:Bool) (fr:Frame) (cs:List Frame):Prop:=∀ σ:Rn,RenOk P σ →
 SR P (mdOf P maps) false σ (fun a b=>b=(zaa σ a.1,a.2.map (zaa σ))) (fun _=>False) (zao P fr cs) (zao P (zaa σ fr) (cs.map (zaa σ)))
theorem Sim.stepS {fr fr' : Frame} {cs cs' : List Frame} {W W' Wf:World} (h:Sim P maps E ρ D Fz fr cs W W') (hsr:SRH P maps fr cs)
  (hr:(zao P fr cs).run P { W with tape:=shift W W' }=.ok (fr',cs') Wf) :
  ∃ W'f,(zao P (zaa ρ fr) (cs.map (zaa ρ))).run P W'=.ok (zaa (ext ρ W.heap.size W'.heap.size) fr',cs'.map (zaa (ext ρ W.heap.size W'.heap.size))) W'f ∧
   Sim P maps E (ext ρ W.heap.size W'.heap.size) (fun b=>D b∨(W.heap.size≤b∧b<Wf.heap.size)) Fz fr' cs' Wf W'f ∧
   Keeps (ext ρ W.heap.size W'.heap.size) (fun b=>D b∨(W.heap.size≤b∧b<Wf.heap.size)) Fz W' W'f ∧
   W'f.heap.size+W.heap.size=W'.heap.size+Wf.heap.size ∧
   ∀ e,e∈(zao P (zaa ρ fr) (cs.map (zaa ρ))).events P W' #[]→EvOk (ext ρ W.heap.size W'.heap.size) (fun b=>D b∨(W.heap.size≤b∧b<Wf.heap.size)) Fz e:=by
 have hle:W.heap.size≤Wf.heap.size:=za9 (W:={ W with tape:=shift W W' }) hr;have hold:∀ b,b<W.heap.size→(ext ρ W.heap.size W'.heap.size).p b=ρ.p b:=fun b hb=>by simp [ext,hb]
 have hnew:∀ b,W.heap.size≤b→(ext ρ W.heap.size W'.heap.size).p b=b-W.heap.size+W'.heap.size:=fun b hb=>by simp [ext,Nat.not_lt.2 hb]
 generalize hρ:ext ρ W.heap.size W'.heap.size=ρ' at hold hnew ⊢;have hco:ρ'.c=ρ.c∧ρ'.o=ρ.o:=by subst hρ;exact⟨rfl,rfl⟩
 generalize hDD:(fun b=>D b∨(W.heap.size≤b∧b<Wf.heap.size))=D';have hDe:∀ b,D' b↔(D b∨(W.heap.size≤b∧b<Wf.heap.size)):=fun b=>by subst hDD;exact Iff.rfl
 have hDD' : ∀ b,D b→D' b:=fun b hb=>(hDe b).2 (.inl hb);have hG' : ∀ b,b<P.globals.size→D' b:=fun b hb=>hDD' b (h.hG b hb);have inj:∀ x y,ρ'.p x=ρ'.p y→x=y:=by
  intro x y e;rcases jqb x W.heap.size with hx | hx<;>rcases jqb y W.heap.size with hy | hy
  ·rw [hold x hx,hold y hy] at e;exact h.rok.inj _ _ e
  ·rw [hold x hx,hnew y hy] at e;have:=h.bd x hx;omega
  ·rw [hnew x hx,hold y hy] at e;have:=h.bd y hy;omega
  ·rw [hnew x hx,hnew y hy] at e;omega
 have R:RenOk P ρ':=⟨h.rok.keys.imp id (fun ⟨f,h1,h2⟩=>⟨f,by rw [hco.1];exact h1,h2⟩),inj,fun b hb=>by rw [hold b (h.lt b (h.hG b hb))];exact h.rok.fix b hb,by rw [hco.2];exact h.rok.fixo⟩;have same:∀ b,b<(gd P).n∨D b→ρ.p b=ρ'.p b:=fun b hb=>(hold b (h.lt b (hb.elim (h.hG b) id))).symm;have sameE:∀ b,ρ.c b=ρ'.c b:=fun b=>by rw [hco.1]
 have sameF:∀ f,(gd P).good f=true→ρ.o f=ρ'.o f:=fun f _=>by rw [hco.2]
 have efr:zaa ρ fr=zaa ρ' fr:=zb2 same sameE sameF h.sup;have ecs:cs.map (zaa ρ)=cs.map (zaa ρ'):=by
  apply List.map_congr_left;intro c hcm;exact zb2 same sameE sameF (h.sups c hcm)
 rw [efr,ecs];have hS:Sup P (mdOf P maps) (gd P) D' E (fun a=>supF P D' E a.1∧∀ c∈a.2,supF P D' E c) (zao P fr cs):=by
  have hA:=hsr _ zlx;have hB:=hsr _ (zkP (D:=D') (E:=E));rw [← sups_map.1 fun c hcm=>zbW hDD' (h.sups c hcm),← show zaa (RA (gd P)) fr=zaa (RB (gd P) D' E) fr from zbW hDD' h.sup] at hB;have:=zkB (mf:=mdOf P maps) (G:=gd P) (D:=D') (E:=E) hG' hA hB;refine Sup.mono this ?_;rintro a ⟨b,h1,h2⟩;refine⟨?_,sups_map.2 ?_⟩
  ·have:=h1.symm.trans h2
   simp only [Prod.mk.injEq] at this;exact this.1
  ·have:=h1.symm.trans h2
   simp only [Prod.mk.injEq] at this;exact this.2
 have hw:WR (gd P) ρ' D' E Fz (mdOf P maps) { W with tape:=shift W W' } W':=by
  refine⟨h.os,h.output,fun k q=>?_,fun b o hb ho=>?_,fun b hb ho=>?_,fun b o hb ho=>?_⟩
  ·show W'.tape (W'.drawn+k) q=if W.drawn+k<W.drawn then W.tape (W.drawn+k) q else W'.tape (W'.drawn+(W.drawn+k-W.drawn)) q
   rw [if_neg (by omega),Nat.add_sub_cancel_left]
  ·have hlt:b<W.heap.size:=by
    rcases jqb b W.heap.size with h | h
    ·exact h
    ·rw [show ({ W with tape:=shift W W' }:World).heap=W.heap from rfl,jqd h] at ho;cases ho
   have hDb:D b:=((hDe b).1 hb).elim id fun h=>absurd h.1 (Nat.not_le.2 hlt);obtain⟨o',h1,h2⟩:=h.obj b o hDb ho;rw [hold b hlt];exact⟨o',h1,h2.ren (zfk same sameE sameF (h.supo b o hDb ho).1)⟩
  ·have hge:W.heap.size≤b:=by
    rcases jqb b W.heap.size with h | h
    ·obtain⟨o,ho'⟩:=zjB h
     rw [show ({ W with tape:=shift W W' }:World).heap=W.heap from rfl,ho'] at ho;cases ho
    ·exact h
   rw [hnew b hge];exact jqd (by omega)
  ·have hlt:b<W.heap.size:=by
    rcases jqb b W.heap.size with h | h
    ·exact h
    ·rw [show ({ W with tape:=shift W W' }:World).heap=W.heap from rfl,jqd h] at ho;cases ho
   have hDb:D b:=((hDe b).1 hb).elim id fun h=>absurd h.1 (Nat.not_le.2 hlt);obtain⟨h1,h2⟩:=h.supo b o hDb ho;exact⟨zcr hDD' h1,h2⟩
 have hfresh:zk2 ρ' D' Fz { W with tape:=shift W W' } W' Wf:=by
  intro b h1 h2;have h1' : W.heap.size≤b:=h1;refine⟨(hDe b).2 (.inr ⟨h1',h2⟩),fun hz=>absurd (h.lt b (h.fz b hz)) (Nat.not_lt.2 h1'),?_⟩;show ρ'.p b+W.heap.size=W'.heap.size+b;rw [hnew b h1'];omega
 obtain⟨b,W'f,g1,g2,g3,g4,g5,g6,g7⟩:=SR.run inj (hsr _ R) hS hw (fun _ hk=>hk.elim) hr hfresh;subst g2;refine⟨W'f,g1,?_,g5,g6,fun e he=>(g7 #[] e he).resolve_left (Array.not_mem_empty e)⟩;have g6' : W'f.heap.size+W.heap.size=W'.heap.size+Wf.heap.size:=g6;refine⟨R,hG',fun b hb=>?_,fun b hb=>?_,fun b hb=>hDD' b (h.fz b hb),g3.1,g3.2,g4.os,g4.output,fun b o hb ho=>g4.obj b o hb ho,fun b o hb ho=>g4.sup b o hb ho⟩
 ·rcases (hDe b).1 hb with hb | hb
  ·exact jqc (h.lt b hb) hle
  ·exact hb.2
 ·rcases jqb b W.heap.size with hx | hx
  ·rw [hold b hx]
   have:=h.bd b hx;omega
  ·rw [hnew b hx]
   omega
theorem zqk {fr:Frame} {cs:List Frame} (hok:OkFrame P maps fr) (hoks:∀ c∈cs,OkFrame P maps c) (hc:zec P fr):SRH P maps fr cs:=fun _ R=>(zeu R hok hoks hc).mono fun _ _ h=>h.1
theorem Sim.step {fr fr' : Frame} {cs cs' : List Frame} {W W' Wf:World} (h:Sim P maps E ρ D Fz fr cs W W') (hok:OkFrame P maps fr) (hoks:∀ c∈cs,OkFrame P maps c) (hc:zec P fr)
  (hr:(zao P fr cs).run P { W with tape:=shift W W' }=.ok (fr',cs') Wf) :
  ∃ W'f,(zao P (zaa ρ fr) (cs.map (zaa ρ))).run P W'=.ok (zaa (ext ρ W.heap.size W'.heap.size) fr',cs'.map (zaa (ext ρ W.heap.size W'.heap.size))) W'f ∧
   Sim P maps E (ext ρ W.heap.size W'.heap.size) (fun b=>D b∨(W.heap.size≤b∧b<Wf.heap.size)) Fz fr' cs' Wf W'f ∧
   Keeps (ext ρ W.heap.size W'.heap.size) (fun b=>D b∨(W.heap.size≤b∧b<Wf.heap.size)) Fz W' W'f ∧
   W'f.heap.size+W.heap.size=W'.heap.size+Wf.heap.size ∧
   ∀ e,e∈(zao P (zaa ρ fr) (cs.map (zaa ρ))).events P W' #[]→EvOk (ext ρ W.heap.size W'.heap.size) (fun b=>D b∨(W.heap.size≤b∧b<Wf.heap.size)) Fz e:=h.stepS (zqk hok hoks hc) hr
end
end Go.Con
namespace Go.Con
open Go
variable [Lone]
section
variable {P:Program} {maps:Bool}
def low (κ:CallKind) (k:List Item) (bs:List Frame):List Frame→List Frame
 | []=>bs
 | [c]=>{ c with todo:=c.todo++k,kind:=κ } :: bs
 | c :: c2 :: rest=>c :: low κ k bs (c2 :: rest)
def up (κ:CallKind) (k:List Item) (bs:List Frame) (fr:Frame) (cs:List Frame):Frame×List Frame:=match cs with
 | []=>({ fr with todo:=fr.todo++k,kind:=κ },bs)
 | c :: rest=>(fr,low κ k bs (c :: rest))
theorem zdC {κ:CallKind} {fr:Frame} {v:Value} (k:List Item) (h:fr.todo≠[]):Frame.finish { fr with todo:=fr.todo++k,kind:=κ } v={ fr.finish v with todo:=(fr.finish v).todo++k,kind:=κ }:=by
 obtain⟨fn,tmps,todo,defers,mode,kind,roundOf⟩:=fr
 cases todo with
 | nil=>exact (h rfl).elim
 | cons it t =>
  cases it with
  | inRegion ops l=>cases l<;>rfl
  | _=>rfl
theorem zdx (id:Nat):∀ {t k k' : List Item},exitTo id t=some k'→exitTo id (t++k)=some (k'++k)
 | [],_,_,h=>by cases h
 | it :: t,k,k',h=>by
  cases it<;>simp only [jqa,exitTo] at h ⊢
  case inBlock =>
   split at h
   ·rename_i hc;rw [if_pos hc];cases h;rfl
   ·rename_i hc;rw [if_neg hc];exact zdx id h
  all_goals exact zdx id h
theorem zl9 {κ:CallKind} {fr:Frame} {t:List Item}:Frame.eval { fr with todo:=t,kind:=κ }=fr.eval:=by
 funext x
 cases x<;>rfl
abbrev lift (κ:CallKind) (k:List Item) (bs:List Frame) (s:Sem (Frame×List Frame)):Sem (Frame×List Frame):=s >>= fun x=>pure (up κ k bs x.1 x.2)
theorem zf1 {κ:CallKind} {k:List Item} {bs:List Frame} {c:Frame} {cs:List Frame} (hne:∀ d∈c :: cs,d.todo≠[]) {v:Value}:zel (low κ k bs (c :: cs)) v=lift κ k bs (zel (c :: cs) v):=by
 cases cs with
 | nil =>
  show pure (Frame.finish { c with todo:=c.todo++k,kind:=κ } v,bs)=pure ({ c.finish v with todo:=(c.finish v).todo++k,kind:=κ },bs);rw [zdC k (hne c (List.mem_cons_self ..))]
 | cons c2 rest=>rfl
theorem zjm {κ:CallKind} {k:List Item} {bs:List Frame} {fr:Frame} {cs:List Frame} {jump:Option Code} (h:fr.roundOf=none∨cs≠[]) (hne:∀ c∈cs,c.todo≠[]) :
  zbf (up κ k bs fr cs).1 (up κ k bs fr cs).2 jump=lift κ k bs (zbf fr cs jump):=by
 cases cs with
 | nil =>
  have hr:=h.resolve_right (by simp);obtain⟨fn,tmps,todo,defers,mode,kind,roundOf⟩:=fr;dsimp only at hr;subst hr
  cases jump with
  | none=>rfl
  | some c=>cases c<;>rfl
 | cons c rest =>
  unfold zbf up;dsimp only
  cases hr:fr.roundOf with
  | none =>
   cases jump with
   | none=>rfl
   | some c=>cases c<;>rfl
  | some l =>
   dsimp only [lift];rw [bind_assoc];congr 1
   funext v
   exact zf1 hne
theorem zda {κ:CallKind} {k:List Item} {bs:List Frame} {fr:Frame} {cs:List Frame} {n:Next} (h:fr.todo≠[]):zcn P (up κ k bs fr cs).1 (up κ k bs fr cs).2 n=lift κ k bs (zcn P fr cs n):=by
 cases cs with
 | nil =>
  cases n<;>first
   | rfl
   | exact congrArg (fun f=>(pure (f,bs):Sem (Frame×List Frame))) (zdC k h)
 | cons c rest=>cases n<;>rfl
theorem zgk {κ:CallKind} {k:List Item} {bs:List Frame} {fr:Frame} {cs:List Frame} (h:fr.roundOf=none∨cs≠[]) (hne:∀ c∈cs,c.todo≠[]) (hm:cs=[]→fr.mode=.run∧fr.todo≠[])
  {W W' : World} {x:Frame×List Frame} (hr:(zao P fr cs).run P W=.ok x W'):zao P (up κ k bs fr cs).1 (up κ k bs fr cs).2=lift κ k bs (zao P fr cs):=by
 have hmode:(up κ k bs fr cs).1.mode=fr.mode:=by cases cs<;>rfl
 cases hmo:fr.mode with
 | panicking =>
  unfold zao;rw [hmode,hmo];rfl
 | returning =>
  cases cs with
  | nil=>have:=(hm rfl).1;rw [hmo] at this;cases this
  | cons c rest =>
   unfold zao up;dsimp only;rw [hmo];dsimp only;split
   ·dsimp only [lift];simp only [bind_assoc,pure_bind];rfl
   ·rfl
   ·split
    ·exact zf1 hne
    ·dsimp only [lift]
     rw [bind_assoc];congr 1
     funext v
     exact zf1 hne
 | run =>
  have hst:fr.todo≠[]∨cs≠[]:=by
   cases cs with
   | nil=>exact .inl (hm rfl).2
   | cons=>exact .inr (by simp)
  unfold zao at hr ⊢;rw [hmode];rw [hmo] at hr ⊢;dsimp only at hr ⊢;have hlv:∀ jump,zbf (up κ k bs fr cs).1 (up κ k bs fr cs).2 jump=lift κ k bs (zbf fr cs jump):=fun jump=>zjm h hne;have hnx:∀ {fr1:Frame} {n:Next},fr1.todo≠[]→zcn P (up κ k bs fr1 cs).1 (up κ k bs fr1 cs).2 n=lift κ k bs (zcn P fr1 cs n):=fun h=>zda h;have hev:(up κ k bs fr cs).1.eval=fr.eval:=by
   cases cs with
   | nil=>exact zl9
   | cons=>rfl
  obtain⟨fn,tmps,todo,defers,mode,kind,roundOf⟩:=fr
  cases todo with
  | nil =>
   cases cs with
   | nil=>exact absurd rfl (hst.resolve_right (by simp))
   | cons c rest=>exact hlv none
  | cons it t =>
   have hset:∀ t',((up κ k bs ⟨fn,tmps,it :: t,defers,mode,kind,roundOf⟩ cs).1,(up κ k bs ⟨fn,tmps,it :: t,defers,mode,kind,roundOf⟩ cs).2)=(up κ k bs ⟨fn,tmps,it :: t,defers,mode,kind,roundOf⟩ cs) ∧
     (cs=[]→(up κ k bs ⟨fn,tmps,t',defers,mode,kind,roundOf⟩ cs)=(⟨fn,tmps,t'++k,defers,mode,κ,roundOf⟩,bs)):=fun t'=>⟨rfl,fun e=>by subst e;rfl⟩
   cases it with
   | code c =>
    cases c with
    | ret=>cases cs<;>exact hlv (some .ret)
    | cond c a b =>
     unfold zcD;rw [hev]
     cases cs<;>(dsimp only [up,jqa];split<;>rfl)
    | exit id =>
     unfold zcD at hr ⊢
     cases cs with
     | nil =>
      dsimp only [up,jqa] at hr ⊢
      cases he:exitTo id t with
      | none =>
       rw [he] at hr;have hro:=h.resolve_right (by simp);dsimp only at hro;subst hro;cases hr
      | some k'=>rw [zdx id he];rfl
     | cons c rest =>
      dsimp only [up]
      cases he:exitTo id t with
      | none=>exact hlv (some (.exit id))
      | some k'=>rfl
    | rangeFunc f params a b =>
     unfold zcD;rw [hev]
     cases cs with
     | nil =>
      dsimp only [up,jqa,lift];simp only [bind_assoc];congr 1
      funext x
      congr 1
      funext y
      congr 1
      funext n
      exact zda (k:=k) (bs:=bs) (cs:=[]) (fr:=⟨fn,tmps,.inRangeFunc x.1 :: t,x.2++defers,mode,kind,roundOf⟩) (by simp)
     | cons c rest =>
      dsimp only [up,lift];simp only [bind_assoc];congr 1
      funext x
      congr 1
      funext y
      congr 1
      funext n
      exact zda (k:=k) (bs:=bs) (cs:=c :: rest) (fr:=⟨fn,tmps,.inRangeFunc x.1 :: t,x.2++defers,mode,kind,roundOf⟩) (by simp)
    | region id ops draw=>cases cs<;>cases draw<;>rfl
    | _=>cases cs<;>rfl
   | inRegion ops l =>
    cases l with
    | nil=>cases cs<;>rfl
    | cons i rest =>
     have hne1:(⟨fn,tmps,.inRegion ops (i :: rest) :: t,defers,mode,kind,roundOf⟩:Frame).todo≠[]:=by simp
     unfold zcD;rw [hev];by_cases hw:((ops[i]?).map (Region.wanted · (yielded ops tmps))).getD false=true
     ·cases cs with
      | nil =>
       dsimp only [up,jqa];rw [if_pos hw];refine (if_pos hw).trans ?_
       cases ops[i]? with
       | none=>rfl
       | some o =>
        dsimp only [lift];simp only [bind_assoc];congr 1
        funext n
        exact zda (k:=k) (bs:=bs) (cs:=[]) hne1
      | cons c rest2 =>
       dsimp only [up];rw [if_pos hw];refine (if_pos hw).trans ?_
       cases ops[i]? with
       | none=>rfl
       | some o =>
        dsimp only [lift];simp only [bind_assoc];congr 1
        funext n
        exact zda (k:=k) (bs:=bs) (cs:=c :: rest2) hne1
     ·cases cs with
      | nil =>
       dsimp only [up,jqa];rw [if_neg hw];refine (if_neg hw).trans ?_;exact congrArg (fun f=>(pure (f,bs):Sem (Frame×List Frame))) (zdC k hne1)
      | cons c rest2 =>
       dsimp only [up];rw [if_neg hw];refine (if_neg hw).trans ?_;rfl
   | endRangeFunc l =>
    unfold zcD
    cases cs with
    | nil =>
     dsimp only [up,jqa,lift];simp only [bind_assoc,pure_bind,List.append_assoc]
    | cons c rest =>
     dsimp only [up,lift];simp only [bind_assoc,pure_bind]
   | beginRound =>
    have hne1:(⟨fn,tmps,.beginRound :: t,defers,mode,kind,roundOf⟩:Frame).todo≠[]:=by simp
    unfold zcD
    cases cs with
    | nil =>
     dsimp only [up,jqa,lift];simp only [bind_assoc,pure_bind];congr 1
    | cons c rest =>
     dsimp only [up,lift];simp only [bind_assoc,pure_bind]
   | _=>cases cs<;>rfl
end
end Go.Con
namespace Go.Con
open Go
variable [Lone]
section
variable {P:Program} {maps:Bool} {D D' E Fz:Nat→Prop} {ρ σ:Rn}
theorem zlv (it:Item):zbd P maps (zal ρ it)=zbd P maps it:=by cases it<;>rfl
theorem zjs {fr:Frame} (h:OkFrame P maps fr):OkFrame P maps (zaa ρ fr):=by
 refine⟨?_,h.mode,fun d hd=>?_,h.kind⟩
 ·have:=h.todo
  simp only [zaa,List.all_map];have e:(zbd P maps ∘ zal ρ)=zbd P maps:=funext fun it=>zlv it;rw [e];exact this
 ·obtain⟨d0,h0,rfl⟩:=List.mem_map.1 hd
  obtain⟨r,rfl⟩:=h.defers d0 h0;exact⟨ρ.p r,by simp [zaM,zdf]⟩
structure Env (A:Nat→Prop) (W W' : World):Prop where
 heap:∀ x,A x→W'.heap[x]?=W.heap[x]?
 size:W.heap.size≤W'.heap.size
 os:W'.os=W.os
 output:W'.output=W.output
theorem Env.refl {A:Nat→Prop} {W:World}:Env A W W:=⟨fun _ _=>rfl,Nat.le_refl _,rfl,rfl⟩
theorem Env.trans {A:Nat→Prop} {W W' W'' : World} (h:Env A W W') (h' : Env A W' W''):Env A W W'' :=
 ⟨fun x hx=>(h'.heap x hx).trans (h.heap x hx),Nat.le_trans h.size h'.size,h'.os.trans h.os,h'.output.trans h.output⟩
def grow (S:Nat→Prop) (W W' : World):Nat→Prop:=fun x=>S x∨(W.heap.size≤x∧x<W'.heap.size)
def EvA (own A:Nat→Prop) (e:Event):Prop :=
 (∃ a,e.loc=.cell a∧e.sync=false∧A a.block∧(e.write=true→own a.block)) ∨
 (∃ b,e.loc=.obj b∧e.sync=false∧A b∧(e.write=true→own b))∨e=⟨.mark .noRoom,false,true⟩
structure Does (own A:Nat→Prop) (W W1:World) (es:Array Event):Prop where
 ev:∀ e∈es,EvA (grow own W W1) (grow A W W1) e
 size:W.heap.size≤W1.heap.size
 keep:∀ x,x<W.heap.size→¬ own x→W1.heap[x]?=W.heap[x]?
 os:W1.os=W.os
 output:W1.output=W.output
inductive Act (P:Program) (Q:(Nat→Prop)→(Nat→Prop)→Frame→List Frame→World→Prop):(Nat→Prop)→(Nat→Prop)→Frame→List Frame→World→Prop
 | done {own A:Nat→Prop} {fr:Frame} {cs:List Frame} {W:World} (h:Q own A fr cs W):Act P Q own A fr cs W
 | step {own A:Nat→Prop} {fr:Frame} {cs:List Frame} {W:World}
   (h1:∀ W' main st off,Env A W W'→∃ fr' cs' W1 es,stepG P main { frame:=fr,callers:=cs,status:=st,dying:=none,offers:=off } W' true =
    .go { frame:=fr',callers:=cs',status:=.running,dying:=none } W1 es∧Does own A W' W1 es)
   (h2:∀ W' main st off fr' cs' W1 es,Env A W W'→stepG P main { frame:=fr,callers:=cs,status:=st,dying:=none,offers:=off } W' true =
    .go { frame:=fr',callers:=cs',status:=.running,dying:=none } W1 es→Act P Q (grow own W' W1) (grow A W' W1) fr' cs' W1):Act P Q own A fr cs W
structure UpOk (P:Program) (maps:Bool) (Dl E:Nat→Prop) (Stop:Frame→List Frame→Prop) (upf:Frame→List Frame→Frame×List Frame):Prop where
 eq:∀ fr cs W,Inv P maps Dl E fr cs W→¬ Stop fr cs→∀ (ρ:Rn) W1 W2 x,(zao P (zaa ρ fr) (cs.map (zaa ρ))).run P W1=.ok x W2 →
  zao P (upf (zaa ρ fr) (cs.map (zaa ρ))).1 (upf (zaa ρ fr) (cs.map (zaa ρ))).2=(do let x ← zao P (zaa ρ fr) (cs.map (zaa ρ));pure (upf x.1 x.2))
 head:∀ fr cs W,Inv P maps Dl E fr cs W→¬ Stop fr cs→∀ ρ:Rn,zgn P maps (upf (zaa ρ fr) (cs.map (zaa ρ))).1
theorem zkz (Dl E:Nat→Prop) {κ:CallKind} (hκ:κ=.normal∨κ=.deferred) (k:List Item) (bs:List Frame):UpOk P maps Dl E zc5 (up κ k bs):=by
 have hb:∀ {fr:Frame} {cs:List Frame} {W:World},Inv P maps Dl E fr cs W→¬ zc5 fr cs→cs=[]→fr.mode=.run∧fr.todo≠[]:=by
  rintro fr cs W hi hn rfl;refine⟨hi.ok.mode.resolve_right fun h=>hn ⟨rfl,.inl h⟩,fun h=>hn ⟨rfl,.inr h⟩⟩
 refine⟨fun fr cs W hi hn ρ W1 W2 x hr=>zgk ?_ ?_ ?_ hr,fun fr cs W hi hn ρ=>?_⟩
 ·rcases hi.base.or with h | h
  ·exact .inl (by simp [zaa,h])
  ·exact .inr (by simpa using h)
 ·intro c hc
  obtain⟨c0,h0,rfl⟩:=List.mem_map.1 hc
  simpa [zaa] using hi.ne c0 h0
 ·intro e
  obtain⟨h1,h2⟩:=hb hi hn (List.map_eq_nil_iff.1 e);exact⟨h1,by simpa [zaa] using h2⟩
 ·have ho:=zjs (ρ:=ρ) hi.ok
  cases cs with
  | cons c rest=>exact ho.head
  | nil =>
   obtain⟨h1,h2⟩:=hb hi hn rfl;have hne:(zaa ρ fr).todo≠[]:=by simpa [zaa] using h2
   refine⟨fun it t e=>?_,ho.mode,ho.defers,hκ.imp id fun h=>⟨h,h1,by show (zaa ρ fr).roundOf=none;simp [zaa,hi.base.1]⟩⟩;change (zaa ρ fr).todo++k=it :: t at e
   cases htd:(zaa ρ fr).todo with
   | nil=>exact (hne htd).elim
   | cons it2 t2 =>
    rw [htd] at e;cases e
    exact ho.head.todo it t2 htd
variable (P maps E) in
def Came (n0:Nat) (Stop:Frame→List Frame→Prop) (Q:Frame→World→Prop) (ρ0:Rn) (D0 Fz:Nat→Prop) (upf:Frame→List Frame→Frame×List Frame) (own A:Nat→Prop) (fr' : Frame) (cs' : List Frame) (W' : World):Prop :=
 ∃ ρ D fr W,Sim P maps E ρ D Fz fr [] W W'∧Stop fr []∧Q fr W∧(fr',cs')=upf (zaa ρ fr) [] ∧
  (∀ x,own x↔∃ b,D b∧¬ Fz b∧ρ.p b=x)∧(∀ x,A x↔∃ b,D b∧ρ.p b=x)∧(∀ b,D0 b→D b∧ρ.p b=ρ0.p b)∧EmptyDef W∧ρ.c=ρ0.c∧fr.kind=.normal∧(∀ b,b<n0→ρ.p b=ρ0.p b∧(D b→D0 b))∧(∀ b,n0≤b→b<W.heap.size→D b)
theorem zoL {Dl:Nat→Prop} (hGl:∀ b,b<P.globals.size→Dl b) {Stop:Frame→List Frame→Prop} {upf:Frame→List Frame→Frame×List Frame} (hup:UpOk P maps Dl E Stop upf) {Q:Frame→World→Prop} {fr:Frame} {cs:List Frame} {W:World} (hfut:Fut P maps Dl E Stop Q fr cs W) (n0:Nat) (ρ0:Rn) (D0 Fz:Nat→Prop) :
  ∀ {ρ:Rn} {D own A:Nat→Prop} {W' : World},Sim P maps E ρ D Fz fr cs W W'→(∀ x,own x↔∃ b,D b∧¬ Fz b∧ρ.p b=x)→(∀ x,A x↔∃ b,D b∧ρ.p b=x) →
   (∀ b,D0 b→D b∧ρ.p b=ρ0.p b)→ρ.c=ρ0.c→n0≤W.heap.size→(∀ b,b<n0→ρ.p b=ρ0.p b∧(D b→D0 b))→(∀ b,n0≤b→b<W.heap.size→D b)→Act P (Came P maps E n0 Stop Q ρ0 D0 Fz upf) own A (upf (zaa ρ fr) (cs.map (zaa ρ))).1 (upf (zaa ρ fr) (cs.map (zaa ρ))).2 W':=by
 induction hfut with
 | done hi hst hq =>
  intro ρ D own A W' hs ho hA h0 hc0 hn0 hn1 hn2;exact .done ⟨ρ,D,_,_,hs,hst,hq,rfl,ho,hA,h0,hi.ed,hc0,hi.ok.kind,hn1,hn2⟩
 | @step fr cs W hi hn h1 h2 ih =>
  intro ρ D own A W' hs ho hA h0 hc0 hn0 hn1 hn2;have key:∀ W'' main st off,Env A W' W''→∃ fr' cs' Wf W1 es ρ',(zao P fr cs).run P { W with tape:=shift W W'' }=.ok (fr',cs') Wf∧Agree W.drawn (shift W W'') W.tape ∧
    stepG P main { frame:=(upf (zaa ρ fr) (cs.map (zaa ρ))).1,callers:=(upf (zaa ρ fr) (cs.map (zaa ρ))).2,status:=st,dying:=none,offers:=off } W'' true =
     .go { frame:=(upf (zaa ρ' fr') (cs'.map (zaa ρ'))).1,callers:=(upf (zaa ρ' fr') (cs'.map (zaa ρ'))).2,status:=.running,dying:=none } W1 es∧Does own A W'' W1 es ∧
    Sim P maps E ρ' (fun b=>D b∨(W.heap.size≤b∧b<Wf.heap.size)) Fz fr' cs' Wf W1 ∧
    (∀ x,grow own W'' W1 x↔∃ b,(D b∨(W.heap.size≤b∧b<Wf.heap.size))∧¬ Fz b∧ρ'.p b=x) ∧
    (∀ x,grow A W'' W1 x↔∃ b,(D b∨(W.heap.size≤b∧b<Wf.heap.size))∧ρ'.p b=x)∧(∀ b,b<W.heap.size→ρ'.p b=ρ.p b)∧ρ'.c=ρ.c∧W.heap.size≤Wf.heap.size:=by
   intro W'' main st off henv;have hs2:Sim P maps E ρ D Fz fr cs W W'':=hs.env (fun b hb=>henv.heap _ ((hA _).2 ⟨b,hb,rfl⟩)) henv.size henv.os henv.output;obtain⟨⟨fr',cs'⟩,Wf,hr⟩:=h1 (shift W W'') (zdm W W'');obtain⟨W1,g1,g2,g3,g4,g5⟩:=hs2.step hi.ok hi.oks hi.callee hr;have hle:W.heap.size≤Wf.heap.size:=za9 (W:={ W with tape:=shift W W'' }) hr;have hrun1:Wf.os=W.os∧Wf.output=W.output:=by
    have hi':=hi.tape (shift W W'');have h:=(hi'.sup_step hGl).run1 hi'.lw hi'.ed hi'.fresh;unfold Run1 at h;rw [hr] at h;exact⟨h.2.2.2.2.2.2.1,h.2.2.2.2.2.2.2.1⟩
   have hold:∀ b,b<W.heap.size→(ext ρ W.heap.size W''.heap.size).p b=ρ.p b:=fun b hb=>by simp [ext,hb]
   have hnew:∀ b,W.heap.size≤b→(ext ρ W.heap.size W''.heap.size).p b=b-W.heap.size+W''.heap.size:=fun b hb=>by simp [ext,Nat.not_lt.2 hb]
   have hcc:(ext ρ W.heap.size W''.heap.size).c=ρ.c:=rfl;generalize hρ:ext ρ W.heap.size W''.heap.size=ρ' at g1 g2 g3 g5 hold hnew hcc;have hg:∀ x,grow own W'' W1 x↔∃ b,(D b∨(W.heap.size≤b∧b<Wf.heap.size))∧¬ Fz b∧ρ'.p b=x:=by
    intro x;unfold grow;rw [ho]
    constructor
    ·rintro (⟨b,hb,hz,rfl⟩ | ⟨hx1,hx2⟩)
     ·exact⟨b,.inl hb,hz,hold b (hs.lt b hb)⟩
     ·refine⟨x-W''.heap.size+W.heap.size,.inr ⟨by omega,by omega⟩,fun hz=>?_,?_⟩
      ·have:=hs.lt _ (hs.fz _ hz);omega
      ·rw [hnew _ (by omega)];omega
    ·rintro ⟨b,hb | hb,hz,rfl⟩
     ·exact .inl ⟨b,hb,hz,(hold b (hs.lt b hb)).symm⟩
     ·rw [hnew b hb.1];exact .inr ⟨by omega,by omega⟩
   have hgA:∀ x,grow A W'' W1 x↔∃ b,(D b∨(W.heap.size≤b∧b<Wf.heap.size))∧ρ'.p b=x:=by
    intro x;unfold grow;rw [hA]
    constructor
    ·rintro (⟨b,hb,rfl⟩ | ⟨hx1,hx2⟩)
     ·exact⟨b,.inl hb,hold b (hs.lt b hb)⟩
     ·refine⟨x-W''.heap.size+W.heap.size,.inr ⟨by omega,by omega⟩,?_⟩
      rw [hnew _ (by omega)];omega
    ·rintro ⟨b,hb | hb,rfl⟩
     ·exact .inl ⟨b,hb,(hold b (hs.lt b hb)).symm⟩
     ·rw [hnew b hb.1];exact .inr ⟨by omega,by omega⟩
   have happ:=hup.eq fr cs W hi hn ρ _ _ _ g1;have hrun:(zao P (upf (zaa ρ fr) (cs.map (zaa ρ))).1 (upf (zaa ρ fr) (cs.map (zaa ρ))).2).run P W''=.ok ((upf (zaa ρ' fr') (cs'.map (zaa ρ'))).1,(upf (zaa ρ' fr') (cs'.map (zaa ρ'))).2) W1:=by
    rw [happ,Sem.run_bind,g1];rfl
   have hev:(zao P (upf (zaa ρ fr) (cs.map (zaa ρ))).1 (upf (zaa ρ fr) (cs.map (zaa ρ))).2).events P W'' #[]=(zao P (zaa ρ fr) (cs.map (zaa ρ))).events P W'' #[]:=by
    rw [happ,Sem.events_bind,g1];rfl
   obtain⟨es,hgo,hes⟩:=zdX (main:=main) (st:=st) (off:=off) (hup.head fr cs W hi hn ρ) hrun;rw [hev] at hes;refine⟨fr',cs',Wf,W1,es,ρ',hr,zdm W W'',hgo,⟨fun e he=>?_,g3.1,fun x hx hnx=>?_,?_,?_⟩,g2,hg,hgA,hold,hcc,hle⟩
   ·rcases g5 e (hes e he) with ⟨a,b,e1,e2,e3,e4,e5⟩ | ⟨b,e1,e2,e3,e5⟩ | h
    ·exact .inl ⟨a,e1,e2,(hgA _).2 ⟨b,e3,e4.symm⟩,fun hw=>(hg _).2 ⟨b,e3,e5 hw,e4.symm⟩⟩
    ·exact .inr (.inl ⟨_,e1,e2,(hgA _).2 ⟨b,e3,rfl⟩,fun hw=>(hg _).2 ⟨b,e3,e5 hw,rfl⟩⟩)
    ·exact .inr (.inr h)
   ·refine g3.2 x hx fun b hb hz e=>?_
    have:grow own W'' W1 x:=(hg x).2 ⟨b,hb,hz,e⟩;rcases this with h | h
    ·exact hnx h
    ·omega
   ·rw [g2.os,hs2.os,hrun1.1]
   ·rw [g2.output,hs2.output,hrun1.2]
  refine .step (fun W'' main st off henv=>?_) fun W'' main st off fr1 cs1 W1 es henv hgo=>?_
  ·obtain⟨fr',cs',Wf,W1,es,ρ',k1,k2,k3,k4,_⟩:=key W'' main st off henv
   exact⟨_,_,W1,es,k3,k4⟩
  ·obtain⟨fr',cs',Wf,W1',es',ρ',k1,k2,k3,k4,k5,k6,k7,k8,k9,k10⟩:=key W'' main st off henv
   rw [k3] at hgo;cases hgo
   exact ih _ _ _ _ k2 k1 k5 k6 k7 (fun b hb=>⟨.inl (h0 b hb).1,(k8 b (hs.lt b (h0 b hb).1)).trans (h0 b hb).2⟩) (k9.trans hc0) (Nat.le_trans hn0 k10) (fun b hb=>⟨(k8 b (jqc hb hn0)).trans (hn1 b hb).1,fun hd=>hd.elim (hn1 b hb).2 fun hd=>absurd hd.1 (by omega)⟩) fun b h1 h2=>(jqb b W.heap.size).elim (fun h=>.inl (hn2 b h1 h)) fun h=>.inr ⟨h,h2⟩
end
end Go.Con
