import Derived.Test.YtbbanmifdbeneaaDoorF22
import Derived.Conc.CompanyCalls
set_option linter.all false
open Go.Region renaming wanted → jqa
open Nat renaming ne_of_lt → jqb, lt_or_ge → jqd
open Go.Frame renaming enter → jqc
open List renaming not_mem_nil → jqe, map_congr_left → jqg
open Array renaming getElem?_push → jqf
namespace Go.Con
open Go Go.Conc
variable [Lone]
section
variable {P:Program} {maps:Bool} {E Fz Arg:Nat→Prop} {W0:World} {ρ:Rn} {D own A:Nat→Prop} {fr:Frame} {cs:List Frame} {W W' W'' : World}
variable {Q:(Nat→Prop)→(Nat→Prop)→Goroutine→World→Prop} {φ:Ph} {pend:List Nat}
theorem zf4 {D:Nat→Prop} (h:supF P D E fr) {t0 k:List Item} (ht:fr.todo=t0++k):supF P D E { fr with todo:=t0 }∧k.map (zal (RA (gd P)))=k.map (zal (RB (gd P) D E)):=by
 obtain⟨fn,tmps,todo,defers,mode,kind,roundOf⟩:=fr;dsimp only at ht;subst ht;simp only [supF,zaa,Frame.mk.injEq,List.map_append,true_and] at h ⊢;have:=List.append_inj h.2.1 (by simp);exact⟨⟨h.1,this.1,h.2.2⟩,this.2⟩
theorem ziN {D:Nat→Prop} {k:List Item} (h:supF P D E fr) (hk:k.map (zal (RA (gd P)))=k.map (zal (RB (gd P) D E))):supF P D E { fr with todo:=fr.todo++k }:=by
 obtain⟨fn,tmps,todo,defers,mode,kind,roundOf⟩:=fr;simp only [supF,zaa,Frame.mk.injEq,List.map_append,true_and] at h ⊢;exact⟨h.1,by rw [h.2.1,hk],h.2.2⟩
theorem Here.inv (h:Here P maps E Fz Arg W0 ρ D own A fr cs W W') {fr0:Frame} (hok:OkFrame P maps fr0) (hs:supF P D E fr0) (hb:fr0.roundOf=none∧P.inits.idxOf? fr0.fn=none):Inv P maps (fun b=>D b∨W.heap.size≤b) E fr0 [] W:=by
 refine⟨hok,fun c hc=>(jqe hc).elim,zbW (fun b hb=>.inl hb) hs,fun c hc=>(jqe hc).elim,fun b o hb ho=>?_,h.ed,fun b hb=>.inr hb,hb,fun c hc=>(jqe hc).elim⟩;have hlt:b<W.heap.size:=by
  rcases jqd b W.heap.size with h | h
  ·exact h
  ·rw [Array.getElem?_eq_none h] at ho;cases ho
 obtain⟨h1,h2⟩:=h.sim.supo b o (hb.resolve_right (Nat.not_le.2 hlt)) ho;exact⟨zcr (fun b hb=>.inl hb) h1,h2⟩
theorem Here.frames (h:Here P maps E Fz Arg W0 ρ D own A fr cs W W') {fr1:Frame} {cs1:List Frame} (hs:supF P D E fr1) (hss:∀ c∈cs1,supF P D E c):Here P maps E Fz Arg W0 ρ D own A fr1 cs1 W W' :=
 ⟨⟨h.sim.rok,h.sim.hG,h.sim.lt,h.sim.bd,h.sim.fz,hs,hss,h.sim.os,h.sim.output,h.sim.obj,h.sim.supo⟩,h.hown,h.hA,h.keep,h.ed,h.tok,h.junk,h.far⟩
theorem GoM.seg {F:Fence} (hal:F.alive=true) (hF:∀ f,F.fn f→zaL P (.func f)=true→okFn P maps f) {t0 k:List Item} (ht:fr.todo=t0++k) (hok:OkFrame P maps { fr with todo:=t0 })
  (hb:fr.roundOf=none∧P.inits.idxOf? fr.fn=none) {R:Frame→World→Prop} (hR:∀ fr W,R fr W→fr.mode=.run)
  (hp:∀ τ:Tape,Agree W.drawn τ W.tape→Ends P F zc5 R { fr with todo:=t0 } [] { W with tape:=τ })
  (hq:∀ fr1 W1,R fr1 W1→zc5 fr1 []→GoM P maps E Fz Arg W0 Q φ pend { fr1 with todo:=fr1.todo++k } cs W1):GoM P maps E Fz Arg W0 Q φ pend fr cs W:=by
 intro ρ D own A W' h;obtain⟨hs0,hk0⟩:=zf4 h.sim.sup ht;have hinv:=h.inv hok hs0 hb;have hGl:∀ b,b<P.globals.size→D b∨W.heap.size≤b:=fun b hb=>.inl (h.sim.hG b hb);have hfut:=zoA hal hF hGl zfC (ze5 hR) hinv hp;have hact:=zoL hGl (zkz (κ:=.normal) (fun b=>D b∨W.heap.size≤b) E (.inl rfl) (k.map (zal ρ)) (cs.map (zaa ρ))) hfut W.heap.size ρ D Fz (h.frames hs0 (fun c hc=>(jqe hc).elim)).sim (own:=fun x=>∃ b,D b∧¬ Fz b∧ρ.p b=x) (A:=fun x=>∃ b,D b∧ρ.p b=x)
  (fun _=>Iff.rfl) (fun _=>Iff.rfl) (fun b hb=>⟨hb,rfl⟩) rfl (Nat.le_refl _) (fun _ _=>⟨rfl,id⟩) (fun b h1 h2=>absurd h1 (Nat.not_le.2 h2))
 have hfrm:=hact.frame (own':=own) (A':=A) (fun x ⟨b,h1,h2,h3⟩=>h3 ▸ h.hown b h1 h2) (fun x ⟨b,h1,h3⟩=>h3 ▸ h.hA b h1);have hkd:fr.kind=.normal:=hok.kind;have e1:up .normal (k.map (zal ρ)) (cs.map (zaa ρ)) (zaa ρ { fr with todo:=t0 }) (([]:List Frame).map (zaa ρ))=(zaa ρ fr,cs.map (zaa ρ)):=by
  simp only [up,List.map_nil,Prod.mk.injEq,and_true];obtain⟨fn,tmps,todo,defers,mode,kind,roundOf⟩:=fr;dsimp only at ht hkd;subst ht hkd;simp [zaa]
 rw [e1] at hfrm;refine Mn.of_act hfrm fun o' a' fr' cs' W2 hc=>?_;obtain⟨o,a,⟨ρ1,D1,fr1,W1,hsim,hst,hR1,heq,ho1,hA1,h01,hed1,hcc,hkd1,hn1,hn2⟩,hf⟩:=hc;have same:∀ b,b<(gd P).n∨D b→ρ.p b=ρ1.p b:=fun b hb=>((h01 b (hb.elim (h.sim.hG b) id)).2).symm;have key:∀ {x:Frame},supF P D E x→zaa ρ x=zaa ρ1 x:=fun hx=>zb2 same (fun b=>by rw [hcc]) (fun f hf=>by rw [h.sim.rok.fixo f hf,hsim.rok.fixo f hf]) hx;have hD:∀ b,D b→D1 b:=fun b hb=>(h01 b hb).1;have hbs:cs.map (zaa ρ)=cs.map (zaa ρ1):=jqg fun c hc=>key (h.sim.sups c hc);have hks:k.map (zal ρ)=k.map (zal ρ1):=zc4 (fun it hi=>zcU same (fun b=>by rw [hcc]) (fun f hf=>by rw [h.sim.rok.fixo f hf,hsim.rok.fixo f hf]) hi) hk0;have hk1:k.map (zal (RA (gd P)))=k.map (zal (RB (gd P) D1 E)) :=
  let ⟨a,b,c⟩:=rarb (P:=P) (E:=E) hD
  zc4 (fun it hi=>zcU a b c hi) hk0
 have hk1' : fr1.kind=.normal:=hkd1;have e2:({ frame:=fr',callers:=cs',status:=.running,dying:=none }:Goroutine)=gor ρ1 { fr1 with todo:=fr1.todo++k } cs:=by
  simp only [up,Prod.mk.injEq] at heq;obtain⟨rfl,rfl⟩:=heq;unfold gor;rw [hbs,hks];simp [zaa,hk1']
 rw [e2];refine hq fr1 W1 hR1 hst ρ1 D1 o' a' W2 ⟨⟨hsim.rok,hsim.hG,hsim.lt,hsim.bd,hsim.fz,ziN hsim.sup hk1,fun c hc=>zbW hD (h.sim.sups c hc),hsim.os,hsim.output,hsim.obj,hsim.supo⟩,fun b hb hz=>hf.oo _ ((ho1 _).2 ⟨b,hb,hz,rfl⟩),fun b hb=>hf.aa _ ((hA1 _).2 ⟨b,hb,rfl⟩),fun x hx=>?_,hed1,fun x=>by rw [hcc];exact h.tok x,fun x hx=>(jqd x W.heap.size).elim (fun hlt=>by rw [(hn1 x hlt).1];exact (h.junk x hlt).imp (hf.aa' _) id) fun hge=>.inl (hf.aa _ ((hA1 _).2 ⟨x,hn2 x hge hx,rfl⟩)),Nat.le_trans h.far.1 hf.size,fun b hb=>?_⟩
 ·obtain⟨c1,c2,c3,c4⟩:=h.keep x hx
  refine⟨hf.aa' x c1,fun ho=>(hf.ob' x ho).elim c2 fun hx2=>by omega,Nat.lt_of_lt_of_le c3 hf.size,(hf.keep x c1 c3 fun ⟨b,d1,d2,d3⟩=>c2 (d3 ▸ h.hown b d1 d2)).trans c4⟩
 ·rcases jqd b W.heap.size with hlt | hge
  ·rw [(hn1 b hlt).1];exact h.far.2 b ((hn1 b hlt).2 hb)
  ·have hz:¬ Fz b:=fun hz=>by have:=h.sim.lt _ (h.sim.fz _ hz);omega
   rcases hf.ob _ ((ho1 _).2 ⟨b,hb,hz,rfl⟩) with ⟨b0,d1,d2,d3⟩ | hx
   ·have h1:=h.sim.lt _ d1
    rw [← (hn1 b0 h1).1] at d3;have:=hsim.rok.inj b0 b d3;omega
   ·exact .inr (Nat.le_trans h.far.1 hx)
end
end Go.Con
namespace Go.Con
open Go Go.Conc
variable [Lone]
section
variable {P:Program} {maps:Bool} {E Fz Arg:Nat→Prop} {W0:World} {ρ:Rn} {D own A:Nat→Prop} {fr fr' : Frame} {cs:List Frame} {W W' W'' : World}
variable {Q:(Nat→Prop)→(Nat→Prop)→Goroutine→World→Prop} {φ:Ph} {pend:List Nat}
theorem zlH {b:Frame} (hm:b.mode=.run) (hr:b.roundOf=none):b.at ⟨b.tmps,b.defers⟩ b.todo=b:=by
 obtain⟨fn,tmps,todo,defers,mode,kind,roundOf⟩:=b;dsimp only at hm hr;subst hm hr;rfl
def ziq:Item→Bool
 | .code _ | .inBlock _ | .inLoop _ | .inRegion _ _ | .beginRound | .inScope _=>true
 | _=>false
theorem zmN {σ:Rn} {it:Item} (h:ziq it=true):zal σ it=it:=by
 cases it<;>first | rfl | cases h
theorem zbZ {D:Nat→Prop} (h:supF P D E fr) {t0 t1 k:List Item} (ht:fr.todo=t0++k) (h1:t1.all ziq=true):supF P D E { fr with todo:=t1++k }:=by
 obtain⟨_,hk⟩:=zf4 h ht;have h2:∀ σ:Rn,t1.map (zal σ)=t1:=fun σ=>by
  rw [List.all_eq_true] at h1
  conv=>rhs;rw [← List.map_id t1]
  exact jqg fun it hit=>zmN (h1 it hit)
 obtain⟨fn,tmps,todo,defers,mode,kind,roundOf⟩:=fr;simp only [supF,zaa,Frame.mk.injEq,List.map_append,true_and,h2] at h ⊢;exact⟨h.1,by rw [hk],h.2.2⟩
theorem GoM.ctl (hs:∀ D,supF P D E fr→supF P D E fr') (h:∀ (ρ:Rn) (W' : World),stepG P true (gor ρ fr cs) W'=.go (gor ρ fr' cs) W' #[]) (hg:GoM P maps E Fz Arg W0 Q φ pend fr' cs W):GoM P maps E Fz Arg W0 Q φ pend fr cs W:=by
 intro ρ D own A W' hh;exact .ctl rfl rfl (h ρ) (hg ρ D own A W' (hh.frames (hs D hh.sim.sup) hh.sim.sups))
section
variable {k:List Item} (hm:fr.mode=.run) (hr:fr.roundOf=none)
include hm hr
theorem zbD {todo:List Item} (ht:fr.todo=todo) (σ:Rn):gor σ fr cs=G ((zaa σ fr).at ⟨fr.tmps.map (ren σ),fr.defers.map (zaM σ)⟩ (todo.map (zal σ))) (cs.map (zaa σ)):=by
 obtain⟨fn,tmps,todo,defers,mode,kind,roundOf⟩:=fr;dsimp only at hm hr ht;subst hm hr ht;rfl
theorem GoM.seq {x y:Code} (ht:fr.todo=.code (.seq x y) :: k) (hg:GoM P maps E Fz Arg W0 Q φ pend { fr with todo:=.code x :: .code y :: k } cs W):GoM P maps E Fz Arg W0 Q φ pend fr cs W:=by
 refine .ctl (fr':={ fr with todo:=.code x :: .code y :: k }) (fun D h=>zbZ h (t0:=[.code (.seq x y)]) (t1:=[.code x,.code y]) ht rfl) (fun σ W'=>?_) hg;rw [zbD hm hr ht,zbD (fr:={ fr with todo:=.code x :: .code y :: k }) hm hr rfl];exact stepG_seq
theorem GoM.cond {c:Operand} {x y:Code} {t:Bool} (ht:fr.todo=.code (.cond c x y) :: k) (hc:za2 P c=true) (he:fr.eval c=.bool t) (hg:GoM P maps E Fz Arg W0 Q φ pend { fr with todo:=.code (if t then x else y) :: k } cs W):GoM P maps E Fz Arg W0 Q φ pend fr cs W:=by
 intro ρ D own A W' hh;have hev:(zaa ρ fr).eval c=.bool t:=by rw [zcH hh.sim.rok c hc,he];simp [ren]
 refine .ctl rfl rfl (fun W2=>?_) (hg ρ D own A W' (hh.frames (zbZ hh.sim.sup (t0:=[.code (.cond c x y)]) (t1:=[.code (if t then x else y)]) ht rfl) hh.sim.sups));rw [zbD hm hr ht,zbD (fr:={ fr with todo:=.code (if t then x else y) :: k }) hm hr rfl];exact stepG_cond (by cases c<;>exact hev)
theorem GoM.block {id:Nat} {x:Code} (ht:fr.todo=.code (.block id x) :: k) (hg:GoM P maps E Fz Arg W0 Q φ pend { fr with todo:=.code x :: .inBlock id :: k } cs W):GoM P maps E Fz Arg W0 Q φ pend fr cs W:=by
 refine .ctl (fr':={ fr with todo:=.code x :: .inBlock id :: k }) (fun D h=>zbZ h (t0:=[.code (.block id x)]) (t1:=[.code x,.inBlock id]) ht rfl) (fun σ W'=>?_) hg;rw [zbD hm hr ht,zbD (fr:={ fr with todo:=.code x :: .inBlock id :: k }) hm hr rfl];exact stepG_block
theorem GoM.loop {x:Code} (ht:fr.todo=.code (.loop x) :: k) (hg:GoM P maps E Fz Arg W0 Q φ pend { fr with todo:=.code x :: .inLoop x :: k } cs W):GoM P maps E Fz Arg W0 Q φ pend fr cs W:=by
 refine .ctl (fr':={ fr with todo:=.code x :: .inLoop x :: k }) (fun D h=>zbZ h (t0:=[.code (.loop x)]) (t1:=[.code x,.inLoop x]) ht rfl) (fun σ W'=>?_) hg;rw [zbD hm hr ht,zbD (fr:={ fr with todo:=.code x :: .inLoop x :: k }) hm hr rfl];exact stepG_loop
theorem GoM.inLoop {x:Code} (ht:fr.todo=.inLoop x :: k) (hg:GoM P maps E Fz Arg W0 Q φ pend { fr with todo:=.code x :: .inLoop x :: k } cs W):GoM P maps E Fz Arg W0 Q φ pend fr cs W:=by
 refine .ctl (fr':={ fr with todo:=.code x :: .inLoop x :: k }) (fun D h=>zbZ h (t0:=[.inLoop x]) (t1:=[.code x,.inLoop x]) ht rfl) (fun σ W'=>?_) hg;rw [zbD hm hr ht,zbD (fr:={ fr with todo:=.code x :: .inLoop x :: k }) hm hr rfl];exact stepG_inLoop
theorem GoM.inBlock {id:Nat} (ht:fr.todo=.inBlock id :: k) (hg:GoM P maps E Fz Arg W0 Q φ pend { fr with todo:=k } cs W):GoM P maps E Fz Arg W0 Q φ pend fr cs W:=by
 refine .ctl (fr':={ fr with todo:=k }) (fun D h=>zbZ h (t0:=[.inBlock id]) (t1:=[]) ht rfl) (fun σ W'=>?_) hg;rw [zbD hm hr ht,zbD (fr:={ fr with todo:=k }) hm hr rfl];exact stepG_inBlock
theorem GoM.skip (ht:fr.todo=.code .skip :: k) (hg:GoM P maps E Fz Arg W0 Q φ pend { fr with todo:=k } cs W):GoM P maps E Fz Arg W0 Q φ pend fr cs W:=by
 refine .ctl (fr':={ fr with todo:=k }) (fun D h=>zbZ h (t0:=[.code .skip]) (t1:=[]) ht rfl) (fun σ W'=>?_) hg;rw [zbD hm hr ht,zbD (fr:={ fr with todo:=k }) hm hr rfl];exact stepG_skip
theorem GoM.region {id:Nat} {ops:Array Oper} (ht:fr.todo=.code (.region id ops false) :: k) (hg:GoM P maps E Fz Arg W0 Q φ pend { fr with todo:=.inRegion ops (List.range ops.size) :: k } cs W):GoM P maps E Fz Arg W0 Q φ pend fr cs W:=by
 refine .ctl (fr':={ fr with todo:=.inRegion ops (List.range ops.size) :: k }) (fun D h=>zbZ h (t0:=[.code (.region id ops false)]) (t1:=[.inRegion ops (List.range ops.size)]) ht rfl) (fun σ W'=>?_) hg;rw [zbD hm hr ht,zbD (fr:={ fr with todo:=.inRegion ops (List.range ops.size) :: k }) hm hr rfl];exact stepG_region
theorem GoM.regionEnd {ops:Array Oper} (ht:fr.todo=.inRegion ops [] :: k) (hg:GoM P maps E Fz Arg W0 Q φ pend { fr with todo:=k } cs W):GoM P maps E Fz Arg W0 Q φ pend fr cs W:=by
 refine .ctl (fr':={ fr with todo:=k }) (fun D h=>zbZ h (t0:=[.inRegion ops []]) (t1:=[]) ht rfl) (fun σ W'=>?_) hg;rw [zbD hm hr ht,zbD (fr:={ fr with todo:=k }) hm hr rfl];exact stepG_region_end
theorem GoM.exit {id:Nat} {k0 k' : List Item} (ht:fr.todo=.code (.exit id) :: (k0++k')) (hx:exitTo id (k0++k')=some k') (hg:GoM P maps E Fz Arg W0 Q φ pend { fr with todo:=k' } cs W):GoM P maps E Fz Arg W0 Q φ pend fr cs W:=by
 refine .ctl (fr':={ fr with todo:=k' }) (fun D h=>zbZ h (t0:=.code (.exit id) :: k0) (t1:=[]) (by rw [ht];rfl) rfl) (fun σ W'=>?_) hg;rw [zbD hm hr ht,zbD (fr:={ fr with todo:=k' }) hm hr rfl];refine stepG_exit ?_;rw [zfd,hx];rfl
end
end
end Go.Con
namespace Go.Con
open Go Go.Conc
variable [Lone]
section
variable {P:Program} {maps:Bool} {E Fz Arg:Nat→Prop} {W0:World} {ρ:Rn} {D own A:Nat→Prop} {fr fr' : Frame} {cs:List Frame} {W W' W'' : World}
variable {Q:(Nat→Prop)→(Nat→Prop)→Goroutine→World→Prop} {φ:Ph} {pend:List Nat}
theorem zjg {σ:Rn} {K:Nat→Prop} {n n' : Next} (h:NextR P (mdOf P maps) σ n n') :
  SR P (mdOf P maps) false σ (fun a b=>b=(zaa σ a.1,a.2.map (zaa σ))) K (zcn P fr cs n) (zcn P (zaa σ fr) (cs.map (zaa σ)) n'):=by
 cases h with
 | value v=>exact zac (by rw [← zaY])
 | skip=>exact zac (by rw [← zaY,ren_undef])
 | enter f args hg =>
  refine zac ?_;simp only [List.map_cons,Prod.mk.injEq,and_true];unfold jqc zaa;simp only [Array.map_append,Array.size_map,List.map_cons,List.map_nil,zal,Option.map_none,Frame.mk.injEq,and_true,true_and];congr 1;apply Array.ext
  ·simp
  ·intro i h1 h2;simp [ren_undef]
 | round l f tmps a b hr=>exact zac rfl
theorem zlM {ops:Array Oper} {i:Nat} {rest:List Nat} {k:List Item} {o:Oper} (hm:fr.mode=.run) (ht:fr.todo=.inRegion ops (i :: rest) :: k) (ho:ops[i]?=some o) (hop:okOp P maps o.op=true) (hv:zgZ P fr.eval o.op=true):SRH P maps fr cs:=by
 intro σ R;have hev:∀ x,za2 P x=true→(zaa σ fr).eval x=ren σ (fr.eval x):=fun x h=>zcH R x h;obtain⟨fn,tmps,todo,defers,mode,kind,roundOf⟩:=fr;dsimp only at hm ht;subst hm ht;unfold zao zcD zaa;dsimp only;simp only [List.map_cons,zal];have hy:(yielded ops (tmps.map (ren σ)))=yielded ops tmps:=funext fun j=>zcW j;rw [hy];split
 ·rw [ho]
  refine zab (zim R (fun x hx=>hev x hx) hop hv) fun n n' hn=>?_;exact zjg hn
 ·have e:=zaY (ρ:=σ) (fr:={ fn:=fn,tmps:=tmps,todo:=.inRegion ops (i :: rest) :: k,defers:=defers,mode:=.run,kind:=kind,roundOf:=roundOf }) (v:=undef)
  rw [ren_undef] at e;exact zac (Prod.ext e rfl)
theorem GoM.op {ops:Array Oper} {i:Nat} {rest:List Nat} {k:List Item} {o:Oper} (hm:fr.mode=.run) (hk:fr.kind=.normal) (hd:fr.defers=[]) (ht:fr.todo=.inRegion ops (i :: rest) :: k) (ho:ops[i]?=some o)
  (hw:jqa o (yielded ops fr.tmps)=true) (hop:okOp P maps o.op=true) (hv:zgZ P fr.eval o.op=true)
  (hrun:∀ τ:Tape,Agree W.drawn τ W.tape→∃ v W1,(execOp fr.eval o).run P { W with tape:=τ }=.ok (.value v) W1∧(EmptyDef W→EmptyDef W1)∧GoM P maps E Fz Arg W0 Q φ pend (fr.finish v) cs W1) :
  GoM P maps E Fz Arg W0 Q φ pend fr cs W:=by
 refine .step (zlM hm ht ho hop hv) ⟨fun it t e=>?_,.inl hm,fun d hdm=>?_,.inl hk⟩ fun τ hτ=>?_
 ·rw [ht] at e
  cases e
  simp only [zex,ho,Option.all_some];exact hop
 ·rw [hd] at hdm;cases hdm
 ·obtain⟨v,W1,h1,h2,h3⟩:=hrun τ hτ
  refine⟨fr.finish v,cs,W1,?_,h2,h3⟩;unfold zao;rw [hm];dsimp only;unfold zcD;rw [ht];dsimp only;rw [ho];simp only [Option.map_some,Option.getD_some,hw,if_true];rw [Sem.run_bind,h1];rfl
theorem GoM.enter {ops:Array Oper} {i:Nat} {rest:List Nat} {k:List Item} {o:Oper} {c:Call} {f:FuncId} {fn:Func} (hm:fr.mode=.run) (hr:fr.roundOf=none) (hk:fr.kind≠.early) (ht:fr.todo=.inRegion ops (i :: rest) :: k) (ho:ops[i]?=some o)
  (hw:jqa o (yielded ops fr.tmps)=true) (hop:o.op=.call c) (hc:c.callee=.value (.func f)) (has:c.args.all (za2 P)=true) (hf:P.funcs[f]?=some fn) (hb:fn.body.isNone=false) (hn:(fn.name == "runtime.NumGoroutine")=false)
  (hg:GoM P maps E Fz Arg W0 Q φ pend (jqc P f (c.args.map fr.eval) .normal) (fr :: cs) W):GoM P maps E Fz Arg W0 Q φ pend fr cs W:=by
 intro ρ D own A W' hh;have hargs:∀ σ,RenOk P σ→c.args.map (zaa σ fr).eval=(c.args.map fr.eval).map (ren σ):=fun σ R=>zfV (fun x hx=>zcH R x hx) has;have hent:∀ σ:Rn,zaa σ (jqc P f (c.args.map fr.eval) .normal)=jqc P f ((c.args.map fr.eval).map (ren σ)) .normal:=by
  intro σ;unfold jqc zaa;simp only [Array.map_append,Array.size_map,List.map_cons,List.map_nil,zal,Option.map_none,Frame.mk.injEq,and_true,true_and];congr 1;apply Array.ext
  ·simp
  ·intro i h1 h2;simp [ren_undef]
 have hexec:∀ (e:Operand→Value) (w:World),e (.func f)=.func (.func f) #[] #[]→(execOp e o).run P w=.ok (.enter f (c.args.map e)) w∧(execOp e o).events P w #[]=#[]:=by
  intro e w he;unfold execOp;rw [hop];have hres:resolve e c o.type=pure { target:=.fn (.func f) #[],args:=#[]++c.args.map e }:=by
   unfold resolve;rw [hc];show Deferred.ofValue (e (.func f)) (c.args.map e)=_;rw [he];rfl
  dsimp only;rw [hres];show (callFunc f ((#[]++c.args.map e)++#[])).run P w=_∧(callFunc f ((#[]++c.args.map e)++#[])).events P w #[]=#[];rw [Array.empty_append,Array.append_empty];unfold callFunc
  constructor
  ·show Sem.run P (match P.funcs[f]? with | none=>_ | some fn=>_) w=_
   rw [hf];simp only [hn,hb,Bool.false_eq_true,if_false];rfl
  ·show Sem.events P (match P.funcs[f]? with | none=>_ | some fn=>_) w #[]=_
   rw [hf];simp only [hn,hb,Bool.false_eq_true,if_false];rfl
 refine .ctl rfl rfl (g':=gor ρ (jqc P f (c.args.map fr.eval) .normal) (fr :: cs)) (fun W2=>?_) (hg ρ D own A W' (hh.frames ?_ fun x hx=>?_))
 ·have hx:=hexec ((⟨fr.tmps.map (ren ρ),fr.defers.map (zaM ρ)⟩:Go.Act).eval) W2 rfl
  have hst:=stepG_enter (P:=P) (main:=true) (b:=zaa ρ fr) (a:=⟨fr.tmps.map (ren ρ),fr.defers.map (zaM ρ)⟩) (k:=k.map (zal ρ)) (cs:=cs.map (zaa ρ)) (w:=W2) (rest:=rest) ho (by
   show jqa o (yielded ops (fr.tmps.map (ren ρ)))=true;rw [show yielded ops (fr.tmps.map (ren ρ))=yielded ops fr.tmps from funext fun j=>zcW j];exact hw) hk hx.1
  rw [zbD hm hr ht];refine hst.trans ?_;have hl:listed P (zaa ρ fr).fn ⟨fr.tmps.map (ren ρ),fr.defers.map (zaM ρ)⟩ o W2=#[]:=by
   unfold listed;rw [hx.2];rfl
  rw [hl];have hself:(zaa ρ fr).at ⟨fr.tmps.map (ren ρ),fr.defers.map (zaM ρ)⟩ (.inRegion ops (i :: rest) :: k.map (zal ρ))=zaa ρ fr:=by
   have:=zlH (b:=zaa ρ fr) hm (by simp [zaa,hr]);rw [show (zaa ρ fr).todo=.inRegion ops (i :: rest) :: k.map (zal ρ) by simp [zaa,ht,zal]] at this;exact this
  rw [hself];unfold gor G;rw [hent,← hargs ρ hh.sim.rok];congr 2
 ·show zaa (RA (gd P)) _=zaa (RB (gd P) D E) _
  rw [hent,hent,← hargs _ zlx,← hargs _ (zkP (D:=D) (E:=E)),show zaa (RA (gd P)) fr=zaa (RB (gd P) D E) fr from hh.sim.sup]
 ·rcases List.mem_cons.1 hx with rfl | hx
  ·exact hh.sim.sup
  ·exact hh.sim.sups x hx
theorem GoM.leave {c:Frame} {rest:List Frame} {fn:Func} {v:Value} (hm:fr.mode=.returning) (hd:fr.defers=[]) (hk:fr.kind=.normal) (hro:fr.roundOf=none) (hf:P.funcs[fr.fn]?=some fn) (hv:∀ σ:Rn,ResultsC P fn (fr.tmps.map (ren σ)) (ren σ v))
  (hg:GoM P maps E Fz Arg W0 Q φ pend (c.finish v) rest W):GoM P maps E Fz Arg W0 Q φ pend fr (c :: rest) W:=by
 intro ρ D own A W' hh;have hsv:ren (RA (gd P)) v=ren (RB (gd P) D E) v:=by
  have h1:=(hv (RA (gd P)) W').1;have h2:=(hv (RB (gd P) D E) W').1;have ht:fr.tmps.map (ren (RA (gd P)))=fr.tmps.map (ren (RB (gd P) D E)):=congrArg Frame.tmps (show zaa (RA (gd P)) fr=zaa (RB (gd P) D E) fr from hh.sim.sup);rw [ht] at h1;have h3:=h1.symm.trans h2;simp only [Result.ok.injEq,and_true] at h3;exact h3
 refine .ctl rfl rfl (g':=gor ρ (c.finish v) rest) (fun W2=>?_) (hg ρ D own A W' (hh.frames ?_ fun x hx=>hh.sim.sups x (List.mem_cons_of_mem _ hx)))
 ·have hst:=stepG_leave (P:=P) (main:=true) (b:=zaa ρ fr) (a:=⟨fr.tmps.map (ren ρ),[]⟩) (cs:=rest.map (zaa ρ)) (w:=W2) (todo:=fr.todo.map (zal ρ)) (c:=zaa ρ c) hk rfl hf (hv ρ W2).1 (hv ρ W2).2
  have e:gor ρ fr (c :: rest)=G { (zaa ρ fr).at ⟨fr.tmps.map (ren ρ),[]⟩ (fr.todo.map (zal ρ)) with mode:=.returning } (zaa ρ c :: rest.map (zaa ρ)):=by
   obtain⟨fn,tmps,todo,defers,mode,kind,roundOf⟩:=fr;dsimp only at hm hd hro;subst hm hd hro;rfl
  rw [e,hst,zaY];rfl
 ·show zaa (RA (gd P)) _=zaa (RB (gd P) D E) _
  rw [← zaY,← zaY,hsv,show zaa (RA (gd P)) c=zaa (RB (gd P) D E) c from hh.sim.sups c (List.mem_cons_self ..)]
end
end Go.Con
namespace Go.Con
open Go Go.Conc
variable [Lone]
section
variable {P:Program} {maps:Bool} {E Fz Arg:Nat→Prop} {W0:World} {ρ:Rn} {D own A:Nat→Prop} {fr fr' : Frame} {cs:List Frame} {W W' W'' : World}
variable {Q:(Nat→Prop)→(Nat→Prop)→Goroutine→World→Prop} {φ:Ph} {pend:List Nat}
theorem zhW {ops:Array Oper} {i:Nat} {rest:List Nat} {k:List Item} {o:Oper} (hm:fr.mode=.run) (hr:fr.roundOf=none) (ht:fr.todo=.inRegion ops (i :: rest) :: k) (hw:jqa o (yielded ops fr.tmps)=true) (σ:Rn) :
  jqa o (yielded ops (⟨fr.tmps.map (ren σ),fr.defers.map (zaM σ)⟩:Go.Act).tmps)=true ∧
  (zaa σ fr).at ⟨fr.tmps.map (ren σ),fr.defers.map (zaM σ)⟩ (.inRegion ops (i :: rest) :: k.map (zal σ))=zaa σ fr:=by
 refine⟨?_,?_⟩
 ·show jqa o (yielded ops (fr.tmps.map (ren σ)))=true
  rw [show yielded ops (fr.tmps.map (ren σ))=yielded ops fr.tmps from funext fun j=>zcW j];exact hw
 ·have:=zlH (b:=zaa σ fr) hm (by simp [zaa,hr])
  rw [show (zaa σ fr).todo=.inRegion ops (i :: rest) :: k.map (zal σ) by simp [zaa,ht,zal]] at this;exact this
theorem zep {ops:Array Oper} {i:Nat} {rest:List Nat} {k:List Item} {o:Oper} (hm:fr.mode=.run) (hr:fr.roundOf=none) (ht:fr.todo=.inRegion ops (i :: rest) :: k) (ho:ops[i]?=some o) (v:Value) (σ:Rn) :
  (zaa σ fr).at ((⟨fr.tmps.map (ren σ),fr.defers.map (zaM σ)⟩:Go.Act).put o.dst (ren σ v)) (.inRegion ops rest :: k.map (zal σ))=zaa σ (fr.finish v):=by
 rw [← zaY];have h1:=(zhW (fr:=fr) (o:={ (default:Oper) with guard:=none }) hm hr ht rfl σ).2;have h2:=Frame.finish_at (zaa σ fr) ⟨fr.tmps.map (ren σ),fr.defers.map (zaM σ)⟩ ops i rest (k.map (zal σ)) (ren σ v);rw [h1,ho] at h2;exact h2.symm
theorem zdz {D:Nat→Prop} (h:supF P D E fr) {v:Value} (hv:supV (gd P) D E v):supF P D E (fr.finish v):=by
 show zaa (RA (gd P)) _=zaa (RB (gd P) D E) _;rw [← zaY,← zaY,show ren (RA (gd P)) v=ren (RB (gd P) D E) v from hv,show zaa (RA (gd P)) fr=zaa (RB (gd P) D E) fr from h]
theorem GoM.mkchan {ops:Array Oper} {i:Nat} {rest:List Nat} {k:List Item} {o:Oper} {cap:Nat} {posts:Nat→Hand} (hm:fr.mode=.run) (hr:fr.roundOf=none) (hk:fr.kind=.normal) (ht:fr.todo=.inRegion ops (i :: rest) :: k) (ho:ops[i]?=some o)
  (hw:jqa o (yielded ops fr.tmps)=true)
  (hrun:∀ (σ:Rn) (w:World),RenOk P σ→(execOp (⟨fr.tmps.map (ren σ),fr.defers.map (zaM σ)⟩:Go.Act).eval o).run P w=.ok (.value (.chan (some w.heap.size))) { w with heap:=w.heap.push (.chan cap #[] false 0 0 false) } ∧
   (execOp (⟨fr.tmps.map (ren σ),fr.defers.map (zaM σ)⟩:Go.Act).eval o).events P w #[]=#[])
  (hg:∀ c,GoM P maps E Fz Arg W0 Q ⟨true,c,cap,posts⟩ [] (fr.finish (.chan (some (2 * c)))) cs W):GoM P maps E Fz Arg W0 Q φ [] fr cs W:=by
 intro ρ D own A W' hh;have key:∀ W2:World,stepG P true (gor ρ fr cs) W2=.go (gor ρ (fr.finish (.chan (some (2 * W2.heap.size)))) cs) { W2 with heap:=W2.heap.push (.chan cap #[] false 0 0 false) } #[]:=by
  intro W2;obtain⟨h1,h2⟩:=hrun ρ W2 hh.sim.rok;obtain⟨s1,s2⟩:=zhW hm hr ht hw ρ;have hst:=stepG_value (P:=P) (main:=true) (b:=zaa ρ fr) (a:=⟨fr.tmps.map (ren ρ),fr.defers.map (zaM ρ)⟩) (k:=k.map (zal ρ)) (cs:=cs.map (zaa ρ)) (w:=W2) (rest:=rest) ho s1 (by show fr.kind≠.early;rw [hk];simp) h1;rw [zbD hm hr ht];refine hst.trans ?_;have hl:listed P (zaa ρ fr).fn ⟨fr.tmps.map (ren ρ),fr.defers.map (zaM ρ)⟩ o W2=#[]:=by
   unfold listed;rw [h2];rfl
  have hv:ren ρ (.chan (some (2 * W2.heap.size)))=.chan (some W2.heap.size):=by
   simp only [ren,hh.tok];rfl
  have hfin:=zep (fr:=fr) (o:=o) hm hr ht ho (.chan (some (2 * W2.heap.size))) ρ;rw [hv] at hfin;rw [hl,hfin];rfl
 refine .step rfl (fun W2 he=>⟨_,_,_,key W2,⟨fun e he=>(Array.not_mem_empty e he).elim,by simp,fun x hx _=>by simp [jqf,jqb hx],rfl,rfl⟩,rfl⟩) fun W2 g' W1 es he hs=>?_;rw [key W2] at hs;cases hs
 have h2:=hh.env he;refine .phase rfl ⟨true,W2.heap.size,cap,posts⟩ rfl (.inr ⟨Nat.le_refl _,by simp⟩) (fun W3 h3=>?_) ?_
 ·rw [h3.heap _ (.inr ⟨Nat.le_refl _,by simp⟩)];simp
 ·have hlt:∀ b,D b→ρ.p b<W2.heap.size:=fun b hb=>h2.sim.bd b (h2.sim.lt b hb)
  refine hg W2.heap.size ρ D _ _ _ ⟨?_,fun b hb hz=>⟨.inl (h2.hown b hb hz),jqb (hlt b hb)⟩,fun b hb=>⟨.inl (h2.hA b hb),jqb (hlt b hb)⟩,fun x hx=>?_,h2.ed,h2.tok,fun x hx=>?_,Nat.le_trans h2.far.1 (by simp),h2.far.2⟩
  ·have hs0:=h2.sim.env (W'':={ W2 with heap:=W2.heap.push (.chan cap #[] false 0 0 false) }) (fun b hb=>by simp [jqf,jqb (hlt b hb)]) (by simp) rfl rfl
   exact⟨hs0.rok,hs0.hG,hs0.lt,hs0.bd,hs0.fz,zdz hs0.sup (by simp only [supV,ren];rfl),hs0.sups,hs0.os,hs0.output,hs0.obj,hs0.supo⟩
  ·obtain⟨k1,k2,k3,k4⟩:=h2.keep x hx
   refine⟨⟨.inl k1,jqb k3⟩,fun ho=>ho.1.elim k2 fun h=>by omega,by simp;omega,?_⟩;rw [← k4];simp [jqf,jqb k3]
  ·exact (h2.junk x hx).imp (fun h=>⟨.inl h,jqb (h2.sim.bd x hx)⟩) id
open Classical in
noncomputable def zcz (Ac:Nat→Prop) (W:World):World :=
 { W with heap:=W.heap.mapIdx fun b o=>if Ac b then (match o with | .cells c e _=>.cells c e (0,c.size) | o=>o) else o }
theorem zc1 (Ac:Nat→Prop) (W:World):(zcz Ac W).heap.size=W.heap.size:=by simp [zcz]
open Classical in
theorem zcR (Ac:Nat→Prop) (W:World) (b:Nat):(zcz Ac W).heap[b]?=(W.heap[b]?).map fun o=>if Ac b then (match o with | .cells c e _=>.cells c e (0,c.size) | o=>o) else o:=by
 simp [zcz,Array.getElem?_mapIdx]
theorem ziE {D:Nat→Prop} {c:Array Value} {e:TypeId} {fz fz' : Nat×Nat} (h:zba (gd P) D E (.cells c e fz)):zba (gd P) D E (.cells c e fz'):=by
 simp only [zba,zaz,Obj.cells.injEq,and_true] at h ⊢;exact h
theorem Here.freeze (h:Here P maps E Fz Arg W0 ρ D own A fr cs W W') {Ac:Nat→Prop} (hAc:∀ b,Ac b→D b) (hfree:∀ b o,Ac b→W.heap[b]?=some o→zcA (mdOf P maps) o=false) {own2:Nat→Prop} (ho2:∀ b,D b→¬ Fz b→¬ Ac b→own2 (ρ.p b)) (ho3:∀ x,own2 x→own x) :
  Here P maps E (fun b=>Fz b∨Ac b) Arg W0 ρ D own2 A fr cs (zcz Ac W) W':=by
 have cases:∀ b o,(zcz Ac W).heap[b]?=some o→∃ o1,W.heap[b]?=some o1∧((¬ Ac b∧o=o1)∨(Ac b∧((∃ c e fz,o1=.cells c e fz∧o=.cells c e (0,c.size))∨(isCells o1=false∧o=o1)))):=by
  intro b o ho;rw [zcR] at ho
  cases hb:W.heap[b]? with
  | none=>rw [hb] at ho;cases ho
  | some o1 =>
   rw [hb] at ho;simp only [Option.map_some,Option.some.injEq] at ho;refine⟨o1,rfl,?_⟩;by_cases hz:Ac b
   ·rw [if_pos hz] at ho
    refine .inr ⟨hz,?_⟩
    cases o1<;>first
     | exact .inl ⟨_,_,_,rfl,ho.symm⟩
     | exact .inr ⟨rfl,ho.symm⟩
   ·rw [if_neg hz] at ho
    exact .inl ⟨hz,ho.symm⟩
 refine⟨⟨h.sim.rok,h.sim.hG,fun b hb=>by rw [zc1];exact h.sim.lt b hb,fun b hb=>h.sim.bd b (by rw [zc1] at hb;exact hb),fun b hb=>hb.elim (h.sim.fz b) (hAc b),h.sim.sup,h.sim.sups,h.sim.os,h.sim.output,fun b o hb ho=>?_,fun b o hb ho=>?_⟩,
  fun b hb hz=>ho2 b hb (fun h=>hz (.inl h)) fun h=>hz (.inr h),h.hA,fun x hx=>?_,fun b o ho=>?_,h.tok,fun x hx=>h.junk x (by rw [zc1] at hx;exact hx),h.far⟩
 ·obtain⟨o1,h1,h2⟩:=cases b o ho
  obtain⟨o',ho',hr⟩:=h.sim.obj b o1 hb h1;refine⟨o',ho',?_⟩;rcases h2 with ⟨hn,rfl⟩ | ⟨hz,⟨c,e,fz,rfl,rfl⟩ | ⟨hc,rfl⟩⟩
  ·cases hr with
   | frozen hf c e fz=>exact .frozen (.inl hf) c e fz
   | still hf h1 h2=>exact .still (.inl hf) h1 h2
   | own hf=>exact .own fun hx=>hx.elim hf hn
  ·cases hr with
   | frozen hf c e fz=>exact .frozen (.inl hf) c e fz
   | still hf h1 h2=>cases h1
   | own hf=>exact .frozen (.inr hz) c e fz
  ·have hfr:=hfree b _ hz h1
   cases hr with
   | frozen hf c e fz=>cases hc
   | still hf h1 h2=>exact .still (.inl hf) h1 h2
   | own hf=>exact .still (.inr hz) hc hfr
 ·obtain⟨o1,h1,h2⟩:=cases b o ho
  obtain⟨a1,a2,a3⟩:=h.sim.supo b o1 hb h1;rcases h2 with ⟨hn,rfl⟩ | ⟨hz,⟨c,e,fz,rfl,rfl⟩ | ⟨hc,rfl⟩⟩
  ·exact⟨a1,a2,a3⟩
  ·exact⟨ziE a1,rfl,rfl⟩
  ·exact⟨a1,a2,a3⟩
 ·obtain⟨k1,k2,k3,k4⟩:=h.keep x hx
  exact⟨k1,fun ho=>k2 (ho3 x ho),k3,k4⟩
 ·obtain⟨o1,h1,h2⟩:=cases b o ho
  have:=h.ed b o1 h1;rcases h2 with ⟨hn,rfl⟩ | ⟨hz,⟨c,e,fz,rfl,rfl⟩ | ⟨hc,rfl⟩⟩
  ·exact this
  ·rfl
  ·exact this
theorem GoM.spawn {ops:Array Oper} {i:Nat} {rest:List Nat} {k:List Item} {o:Oper} {c:Call} {x:Operand} {g:FuncId} {captured:Array Value} {Ac:Nat→Prop} (kk:Nat) (hm:fr.mode=.run) (hr:fr.roundOf=none) (hk:fr.kind=.normal) (ht:fr.todo=.inRegion ops (i :: rest) :: k) (ho:ops[i]?=some o)
  (hw:jqa o (yielded ops fr.tmps)=true) (hop:o.op=.go c) (hc:c.callee=.value x) (hx:za2 P x=true) (hargs:c.args=#[]) (hev:fr.eval x=.func (.func g) #[] captured) (hon:φ.on=true) (hcap:φ.cap=0∨pend.length<φ.cap)
  (hAc:∀ ρ D own A W',Here P maps E Fz Arg W0 ρ D own A fr cs W W'→∀ b,Ac b→D b) (hfree:∀ b o,Ac b→W.heap[b]?=some o→zcA (mdOf P maps) o=false)
  (hwk:∀ ρ D own A W',Here P maps E Fz Arg W0 ρ D own A fr cs W W'→Wk P φ.c (φ.posts kk) (fun _=>False) (fun x=>∃ b,Ac b∧ρ.p b=x) (born P { target:=.fn (.func g) (captured.map (ren ρ)),args:=#[] }) W')
  (hg:GoM P maps E (fun b=>Fz b∨Ac b) Arg W0 Q φ (kk :: pend) (fr.finish undef) cs (zcz Ac W)):GoM P maps E Fz Arg W0 Q φ pend fr cs W:=by
 intro ρ D own A W' hh;have hgood:zaL P (.func g)=true:=by
  have hs:=zfS hh.sim.sup x hx;rw [hev] at hs;have:=zd4 hs;exact this
 have hval:∀ σ:Rn,RenOk P σ→(⟨fr.tmps.map (ren σ),fr.defers.map (zaM σ)⟩:Go.Act).eval x=.func (.func g) #[] (captured.map (ren σ)):=by
  intro σ R;have h1:=zcH R (fr:=fr) x hx;rw [hev,zeR σ (zhj hgood),zhd R hgood,zaE,zaE,Array.map_empty] at h1
  cases x<;>exact h1
 have key:∀ W2:World,stepG P true (gor ρ fr cs) W2=.spawn (gor ρ (fr.finish undef) cs) (born P { target:=.fn (.func g) (captured.map (ren ρ)),args:=#[] }) W2 #[]:=by
  intro W2;obtain⟨s1,s2⟩:=zhW hm hr ht hw ρ;have hex:(execOp (⟨fr.tmps.map (ren ρ),fr.defers.map (zaM ρ)⟩:Go.Act).eval o)=pure (.spawn { target:=.fn (.func g) (captured.map (ren ρ)),args:=#[] }):=by
   unfold execOp;rw [hop];dsimp only;unfold resolve;rw [hc,hargs];dsimp only;rw [hval ρ hh.sim.rok,Array.map_empty];rfl
  have hst:=stepG_spawn (P:=P) (main:=true) (b:=zaa ρ fr) (a:=⟨fr.tmps.map (ren ρ),fr.defers.map (zaM ρ)⟩) (k:=k.map (zal ρ)) (cs:=cs.map (zaa ρ)) (w:=W2) (rest:=rest) (w':=W2) (f:=.func g) (c:=captured.map (ren ρ)) ho s1 (by show fr.kind≠.early;rw [hk];simp) (by rw [hex];rfl) rfl;rw [zbD hm hr ht];refine hst.trans ?_;have hl:listed P (zaa ρ fr).fn ⟨fr.tmps.map (ren ρ),fr.defers.map (zaM ρ)⟩ o W2=#[]:=by
   unfold listed;rw [hex];rfl
  have hfin:=zep (fr:=fr) (o:=o) hm hr ht ho undef ρ;rw [ren_undef] at hfin;rw [hl,hfin];rfl
 refine .spawn rfl hon kk (fun x=>∃ b,Ac b∧ρ.p b=x) (fun x ⟨b,h1,h2⟩=>h2 ▸ hh.hA b (hAc _ _ _ _ _ hh b h1)) hcap (fun W2 he=>⟨_,_,key W2,rfl,hwk _ _ _ _ _ (hh.env he)⟩) fun W2 g' ch he hs=>?_;rw [key W2] at hs;cases hs
 have h2:=hh.env he;have h3:=h2.freeze (Ac:=Ac) (own2:=fun b=>own b∧¬ ∃ b',Ac b'∧ρ.p b'=b) (fun b hb=>hAc _ _ _ _ _ hh b hb) hfree (fun b hb hz hc=>⟨h2.hown b hb hz,fun ⟨b',e1,e2⟩=>hc (h2.sim.rok.inj _ _ e2 ▸ e1)⟩) (fun x h=>h.1);exact hg ρ D _ _ _ (h3.frames (zdz h3.sim.sup (by simp only [supV,ren_undef])) h3.sim.sups)
end
end Go.Con
namespace Go.Con
open Go Go.Conc
variable [Lone]
section
variable {P:Program} {maps:Bool} {E Fz Arg:Nat→Prop} {W0:World} {ρ:Rn} {D own A:Nat→Prop} {fr fr' : Frame} {cs:List Frame} {W W' W'' : World}
variable {Q:(Nat→Prop)→(Nat→Prop)→Goroutine→World→Prop} {φ:Ph} {pend:List Nat}
def zdI (ρ:Rn) (N b n' : Nat):Rn:=⟨fun x=>if x<N then ρ.p x else if x=N then b else x-N-1+n',ρ.c,ρ.o⟩
theorem Here.argLow (h:Here P maps E Fz Arg W0 ρ D own A fr cs W W') {x:Nat} (hx:Arg x):x<W0.heap.size:=by
 obtain⟨_,_,h3,h4⟩:=h.keep x hx;obtain⟨o,ho⟩:=zjB h3;rw [ho] at h4;exact (Array.getElem?_eq_some_iff.1 h4.symm).1
theorem Here.take (h:Here P maps E Fz Arg W0 ρ D own A fr cs W W') {b:Nat} {cells:Array Value} {e:TypeId} {fz:Nat×Nat} (hb:b<W'.heap.size) (hbA:¬ A b) (hbB:W0.heap.size≤b) (hob:W'.heap[b]?=some (.cells cells e fz)) (hflat:∀ σ:Rn,cells.map (ren σ)=cells)
  {own2 A2:Nat→Prop} (ho2:∀ x,own x→own2 x) (hA2:∀ x,A x→A2 x) (hob2:own2 b) (hAb2:A2 b) (hnew:∀ x,own2 x→own x∨W0.heap.size≤x) :
  Here P maps E Fz Arg W0 (zdI ρ W.heap.size b W'.heap.size) (fun x=>D x∨x=W.heap.size) own2 A2 fr cs { W with heap:=W.heap.push (.cells cells e fz) } W':=by
 have hold:∀ x,x<W.heap.size→(zdI ρ W.heap.size b W'.heap.size).p x=ρ.p x:=fun x hx=>by simp [zdI,hx]
 have hN:(zdI ρ W.heap.size b W'.heap.size).p W.heap.size=b:=by simp [zdI]
 have hbig:∀ x,W.heap.size<x→(zdI ρ W.heap.size b W'.heap.size).p x=x-W.heap.size-1+W'.heap.size:=fun x hx=>by
  have h1:¬ x<W.heap.size:=by omega
  have h2:x≠W.heap.size:=by omega
  simp [zdI,h1,h2]
 have hne:∀ x,x<W.heap.size→ρ.p x≠b:=by
  intro x hx e;rcases h.junk x hx with hj | hj
  ·exact hbA (e ▸ hj)
  ·omega
 generalize hρ:zdI ρ W.heap.size b W'.heap.size=ρ2 at hold hN hbig;have hco:ρ2.c=ρ.c∧ρ2.o=ρ.o:=by subst hρ;exact⟨rfl,rfl⟩
 have inj:∀ x y,ρ2.p x=ρ2.p y→x=y:=by
  intro x y e;rcases Nat.lt_trichotomy x W.heap.size with hx | hx | hx<;>rcases Nat.lt_trichotomy y W.heap.size with hy | hy | hy
  ·rw [hold x hx,hold y hy] at e;exact h.sim.rok.inj _ _ e
  ·rw [hold x hx,hy,hN] at e;exact (hne x hx e).elim
  ·rw [hold x hx,hbig y hy] at e;have:=h.sim.bd x hx;omega
  ·rw [hx,hN,hold y hy] at e;exact (hne y hy e.symm).elim
  ·rw [hx,hy]
  ·rw [hx,hN,hbig y hy] at e;omega
  ·rw [hbig x hx,hold y hy] at e;have:=h.sim.bd y hy;omega
  ·rw [hbig x hx,hy,hN] at e;omega
  ·rw [hbig x hx,hbig y hy] at e;omega
 have hDD:∀ x,D x→D x∨x=W.heap.size:=fun x hx=>.inl hx;have same:∀ x,x<(gd P).n∨D x→ρ.p x=ρ2.p x:=fun x hx=>(hold x (h.sim.lt x (hx.elim (h.sim.hG x) id))).symm;have sameE:∀ x,ρ.c x=ρ2.c x:=fun x=>by rw [hco.1]
 have sameF:∀ f,(gd P).good f=true→ρ.o f=ρ2.o f:=fun f _=>by rw [hco.2]
 have push_old:∀ x,x<W.heap.size→(W.heap.push (.cells cells e fz))[x]?=W.heap[x]?:=fun x hx=>by simp [jqf,jqb hx]
 have get:∀ x o,(D x∨x=W.heap.size)→(W.heap.push (.cells cells e fz))[x]?=some o→(D x∧W.heap[x]?=some o)∨(x=W.heap.size∧o=.cells cells e fz):=by
  intro x o hx ho;rcases hx with hx | hx
  ·rw [push_old x (h.sim.lt x hx)] at ho;exact .inl ⟨hx,ho⟩
  ·subst hx;simp at ho;exact .inr ⟨rfl,ho.symm⟩
 refine⟨⟨⟨h.sim.rok.keys.imp id (fun ⟨f,h1,h2⟩=>⟨f,by rw [hco.1];exact h1,h2⟩),inj,fun x hx=>by rw [hold x (h.sim.lt x (h.sim.hG x hx))];exact h.sim.rok.fix x hx,by rw [hco.2];exact h.sim.rok.fixo⟩,fun x hx=>.inl (h.sim.hG x hx),fun x hx=>?_,fun x hx=>?_,fun x hx=>.inl (h.sim.fz x hx),
  zbW hDD h.sim.sup,fun c hc=>zbW hDD (h.sim.sups c hc),h.sim.os,h.sim.output,fun x o hx ho=>?_,fun x o hx ho=>?_⟩,fun x hx hz=>?_,fun x hx=>?_,fun x hx=>?_,?_,fun x=>by rw [hco.1];exact h.tok x,fun x hx=>?_,h.far.1,fun x hx=>?_⟩
 ·rcases hx with hx | hx
  ·have:=h.sim.lt x hx;simp;omega
  ·subst hx;simp
 ·have hx' : x<W.heap.size+1:=by simpa using hx
  rcases jqd x W.heap.size with hx2 | hx2
  ·rw [hold x hx2];exact h.sim.bd x hx2
  ·have:x=W.heap.size:=by omega
   subst this;rw [hN];exact hb
 ·rcases get x o hx ho with ⟨hx,ho⟩ | ⟨rfl,rfl⟩
  ·obtain⟨o',h1,h2⟩:=h.sim.obj x o hx ho
   rw [hold x (h.sim.lt x hx)];exact⟨o',h1,h2.ren (zfk same sameE sameF (h.sim.supo x o hx ho).1)⟩
  ·rw [hN]
   refine⟨_,hob,?_⟩;have:=ObjR.own (ρ:=ρ2) (Fz:=Fz) (mf:=mdOf P maps) (b:=W.heap.size) (o:=.cells cells e fz) (fun hz=>absurd (h.sim.lt _ (h.sim.fz _ hz)) (Nat.lt_irrefl _));simp only [zaz,hflat] at this;exact this
 ·rcases get x o hx ho with ⟨hx,ho⟩ | ⟨rfl,rfl⟩
  ·obtain⟨h1,h2⟩:=h.sim.supo x o hx ho
   exact⟨zcr hDD h1,h2⟩
  ·exact⟨by simp only [zba,zaz,hflat],rfl,rfl⟩
 ·rcases hx with hx | hx
  ·rw [hold x (h.sim.lt x hx)];exact ho2 _ (h.hown x hx hz)
  ·subst hx;rw [hN];exact hob2
 ·rcases hx with hx | hx
  ·rw [hold x (h.sim.lt x hx)];exact hA2 _ (h.hA x hx)
  ·subst hx;rw [hN];exact hAb2
 ·obtain⟨k1,k2,k3,k4⟩:=h.keep x hx
  exact⟨hA2 x k1,fun ho=>(hnew x ho).elim k2 fun hw=>absurd (h.argLow hx) (Nat.not_lt.2 hw),k3,k4⟩
 ·exact h.ed.push rfl
 ·have hx' : x<W.heap.size+1:=by simpa using hx
  rcases jqd x W.heap.size with hx2 | hx2
  ·rw [hold x hx2];exact (h.junk x hx2).imp (hA2 _) id
  ·have:x=W.heap.size:=by omega
   subst this;rw [hN];exact .inl hAb2
 ·rcases hx with hx | hx
  ·rw [hold x (h.sim.lt x hx)];exact h.far.2 x hx
  ·subst hx;rw [hN];exact .inr hbB
def zc3 (B:Nat) (K:(Nat→Value)→Option (Array Value×TypeId×(Nat×Nat))→Prop):Hand:=fun own A v W=>(∀ x,own x→B≤x) ∧
 ((∃ h:Nat→Value,(∀ n,h n=v)∧(∀ σ:Rn,ren σ v=v)∧K h none) ∨
  ∃ (h:Nat→Value) (b:Nat) (cells:Array Value) (e:TypeId) (fz:Nat×Nat),v=h b∧(∀ (σ:Rn) (n:Nat),ren σ (h n)=h (σ.p n))∧(∀ σ:Rn,cells.map (ren σ)=cells)∧own b∧A b∧W.heap[b]?=some (.cells cells e fz)∧K h (some (cells,e,fz)))
theorem GoM.recv {ops:Array Oper} {i:Nat} {rest:List Nat} {k:List Item} {o:Oper} {x:Operand} {z:Value} {K:Nat→(Nat→Value)→Option (Array Value×TypeId×(Nat×Nat))→Prop} (hm:fr.mode=.run) (hr:fr.roundOf=none) (hk:fr.kind=.normal) (ht:fr.todo=.inRegion ops (i :: rest) :: k) (ho:ops[i]?=some o)
  (hw:jqa o (yielded ops fr.tmps)=true) (hx:za2 P x=true) (hev:fr.eval x=.chan (some (2 * φ.c))) (hon:φ.on=true) (hpend:pend≠[])
  (hrun:∀ (e:Operand→Value) (w:World),e x=.chan (some φ.c)→(execOp e o).run P w=.ok (.comm #[rcase φ.c z] true (.recv false)) w∧(execOp e o).events P w #[]=#[])
  (hposts:∀ kk own A v W,φ.posts kk own A v W→zc3 W0.heap.size (K kk) own A v W)
  (hg1:∀ kk,kk∈pend→∀ h:Nat→Value,K kk h none→(∀ n m,h n=h m)→GoM P maps E Fz Arg W0 Q φ (pend.erase kk) (fr.finish (h 0)) cs W)
  (hg2:∀ kk,kk∈pend→∀ (h:Nat→Value) (cells:Array Value) (e:TypeId) (fz:Nat×Nat),K kk h (some (cells,e,fz))→GoM P maps E Fz Arg W0 Q φ (pend.erase kk) (fr.finish (h W.heap.size)) cs { W with heap:=W.heap.push (.cells cells e fz) }) :
  GoM P maps E Fz Arg W0 Q φ pend fr cs W:=by
 intro ρ D own A W' hh;have hchan:(⟨fr.tmps.map (ren ρ),fr.defers.map (zaM ρ)⟩:Go.Act).eval x=.chan (some φ.c):=by
  have h1:=zcH hh.sim.rok (fr:=fr) x hx;rw [hev] at h1;have h2:ren ρ (.chan (some (2 * φ.c)))=.chan (some φ.c):=by simp only [ren,hh.tok];rfl
  rw [h2] at h1
  cases x<;>exact h1
 have key:∀ W2:World,stepG P true (gor ρ fr cs) W2=.comm (gor ρ fr cs) #[rcase φ.c z] true (.recv false) W2 #[]:=by
  intro W2;obtain⟨s1,s2⟩:=zhW hm hr ht hw ρ;obtain⟨r1,r2⟩:=hrun _ W2 hchan;have hst:=stepG_comm (P:=P) (main:=true) (b:=zaa ρ fr) (a:=⟨fr.tmps.map (ren ρ),fr.defers.map (zaM ρ)⟩) (k:=k.map (zal ρ)) (cs:=cs.map (zaa ρ)) (w:=W2) (rest:=rest) ho s1 (by show fr.kind≠.early;rw [hk];simp) r1;rw [zbD hm hr ht];refine hst.trans ?_;have hl:listed P (zaa ρ fr).fn ⟨fr.tmps.map (ren ρ),fr.defers.map (zaM ρ)⟩ o W2=#[]:=by
   unfold listed;rw [r2];rfl
  rw [hl];rfl
 refine .recv rfl hon hpend z false (fun W2 _=>⟨_,key W2⟩) fun W2 W3 g2 kk ownk Ak v Wk he hs he3 hkk hpost hek hdis=>?_;rw [key W2] at hs;cases hs
 have h3:=(hh.env he).env he3;obtain⟨hB,hp⟩:=hposts kk ownk Ak v Wk hpost;have hfin:∀ (σ:Rn) (u:Value),ren σ u=v→σ.c=ρ.c→(gor ρ fr cs).finishComm P #[rcase φ.c z] (.recv false) 0 v true={ frame:=(zaa ρ fr).finish v,callers:=cs.map (zaa ρ),status:=.running,dying:=none }:=fun _ _ _ _=>rfl;rcases hp with ⟨h,hv,hfl,hK⟩ | ⟨h,b,cells,e,fz,rfl,hh1,hfl,hob,hAb,hcell,hK⟩
 ·obtain rfl:=hv 0
  have hgor:(gor ρ fr cs).finishComm P #[rcase φ.c z] (.recv false) 0 (h 0) true=gor ρ (fr.finish (h 0)) cs:=by
   show ({ frame:=(zaa ρ fr).finish (h 0),callers:=cs.map (zaa ρ),status:=.running,dying:=none }:Goroutine)=_;have:=zaY (ρ:=ρ) (fr:=fr) (v:=h 0);rw [hfl] at this;rw [this];rfl
  rw [hgor];refine hg1 kk hkk h hK (fun n m=>(hv n).trans (hv m).symm) ρ D _ _ _ ⟨?_,fun b hb hz=>.inl (h3.hown b hb hz),fun b hb=>.inl (h3.hA b hb),fun y hy=>?_,h3.ed,h3.tok,fun y hy=>(h3.junk y hy).imp .inl id,h3.far⟩
  ·exact (h3.frames (zdz h3.sim.sup (by simp only [supV,hfl])) h3.sim.sups).sim
  ·obtain⟨k1,k2,k3,k4⟩:=h3.keep y hy
   exact⟨.inl k1,fun hoo=>hoo.elim k2 fun hoo=>absurd (h3.argLow hy) (Nat.not_lt.2 (hB y hoo)),k3,k4⟩
 ·have hcell3:W3.heap[b]?=some (.cells cells e fz):=(hek.heap b hAb).trans hcell
  have hb3:b<W3.heap.size:=(Array.getElem?_eq_some_iff.1 hcell3).1;have h4:=h3.take hb3 (hdis b hob) (hB b hob) hcell3 hfl (own2:=fun x=>own x∨ownk x) (A2:=fun x=>A x∨Ak x) (fun _ h=>.inl h) (fun _ h=>.inl h) (.inr hob) (.inr hAb) (fun x hx=>hx.imp id (hB x));have hval:ren (zdI ρ W.heap.size b W3.heap.size) (h W.heap.size)=h b:=by rw [hh1];simp [zdI]
  have hfr:zaa ρ fr=zaa (zdI ρ W.heap.size b W3.heap.size) fr:=zb2 (ρ:=ρ) (σ:=zdI ρ W.heap.size b W3.heap.size) (D:=D) (E:=E) (fun y hy=>by
   have:=h3.sim.lt y (hy.elim (h3.sim.hG y) id);simp [zdI,this]) (fun _=>rfl) (fun _ _=>rfl) h3.sim.sup
  have hcs:cs.map (zaa ρ)=cs.map (zaa (zdI ρ W.heap.size b W3.heap.size)):=jqg fun c hc=>zb2 (ρ:=ρ) (σ:=zdI ρ W.heap.size b W3.heap.size) (D:=D) (E:=E) (fun y hy=>by
   have:=h3.sim.lt y (hy.elim (h3.sim.hG y) id);simp [zdI,this]) (fun _=>rfl) (fun _ _=>rfl) (h3.sim.sups c hc)
  have hgor:(gor ρ fr cs).finishComm P #[rcase φ.c z] (.recv false) 0 (h b) true=gor (zdI ρ W.heap.size b W3.heap.size) (fr.finish (h W.heap.size)) cs:=by
   show ({ frame:=(zaa ρ fr).finish (h b),callers:=cs.map (zaa ρ),status:=.running,dying:=none }:Goroutine)=_;have:=zaY (ρ:=zdI ρ W.heap.size b W3.heap.size) (fr:=fr) (v:=h W.heap.size);rw [hval,← hfr] at this;rw [this,hcs];rfl
  rw [hgor];refine hg2 kk hkk h cells e fz hK _ _ _ _ _ (h4.frames (zdz h4.sim.sup ?_) h4.sim.sups);show ren (RA (gd P)) (h W.heap.size)=ren (RB (gd P) _ E) (h W.heap.size);rw [hh1,hh1];exact congrArg h ((dbl_eq (G:=(gd P).n) (D:=fun y=>D y∨y=W.heap.size) (b:=W.heap.size)).2 (Or.inr (Or.inr rfl)))
end
end Go.Con
