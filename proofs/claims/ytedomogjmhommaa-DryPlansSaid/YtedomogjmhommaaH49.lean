import Derived.Test.YtedomogjmhommaaH42
import Derived.Orders
set_option linter.all false
set_option maxRecDepth 100000
set_option maxHeartbeats 8000000
namespace Go.Con
open Go Go.Conc
variable [Lone]
section
variable {P:Program} {maps:Bool} {E Fz Arg D:Nat→Prop} {W0:World} {fr:Frame} {cs:List Frame} {W:World}
variable {Q:(Nat→Prop)→(Nat→Prop)→Goroutine→World→Prop} {φ:Ph} {pend:List Nat}
theorem Fut.base {Stop:Frame→List Frame→Prop} {Q:Frame→World→Prop} (h:Fut P maps D E Stop Q fr cs W):Fut P maps D E Stop (fun fr W=>Q fr W∧fr.roundOf=none) fr cs W:=by
 induction h with
 | done hi hs hq=>exact .done hi hs ⟨hq,hi.base.1⟩
 | step hi hn h1 _ ih=>exact .step hi hn h1 fun τ fr' cs' W' ha hr=>ih τ fr' cs' W' ha hr
theorem GoM.callee {F:Fence} {n:Nat} (hdep:F.depth=none) (hF:∀ f,F.fn f→zaR P (.func f)=true→okFn P maps f) {g:FuncId} {args:Array Value} {fn:Func} {c:Frame} {R:Value→World→Prop} (hf:P.funcs[g]?=some fn) (hin:P.inits.idxOf? g=none) (hok:okFn P maps g)
  (hp:∀ τ:Tape,CallsIn F n P g args { W with tape:=τ } fun e w'=>match e with | .returned v=>R v w' | _=>False)
  (hres:∀ (t:Array Value) (W:World) (v:Value),(results fn t).run P W=.ok v W→∀ σ:Rn,ResultsC P fn (t.map (ren σ)) (ren σ v))
  (hq:∀ v W1,R v W1→GoM P maps E Fz Arg W0 Q φ pend (c.finish v) cs W1):GoM P maps E Fz Arg W0 Q φ pend (Frame.enter P g args .normal) (c :: cs) W:=by
 intro ρ D own A W' h
 have hro:(Frame.enter P g args .normal).roundOf=none:=rfl
 have hfn0:(Frame.enter P g args .normal).fn=g:=rfl
 have hs0:=h.sim.sup
 have hinv:=h.inv (zk7 hok) hs0 ⟨hro,by rw [hfn0];exact hin⟩
 have hGl:∀ b,b<P.globals.size→D b∨W.heap.size≤b:=fun b hb=>.inl (h.sim.hG b hb)
 have hfut:=(zne hF hGl zjV ziQ hinv (fun τ _=>ends_of_calls hdep (hp τ))).base
 have hact:=zmN hGl (zpt (fun b=>D b∨W.heap.size≤b) E ((c :: cs).map (zab ρ))) hfut W.heap.size ρ D Fz (h.frames hs0 (fun c hc=>(List.not_mem_nil hc).elim)).sim (own:=fun x=>∃ b,D b∧¬ Fz b∧ρ.p b=x) (A:=fun x=>∃ b,D b∧ρ.p b=x)
  (fun _=>Iff.rfl) (fun _=>Iff.rfl) (fun b hb=>⟨hb,rfl⟩) rfl (Nat.le_refl _) (fun _ _=>⟨rfl,id⟩) (fun b h1 h2=>absurd h1 (Nat.not_le.2 h2))
 have hfrm:=hact.frame (own':=own) (A':=A) (fun x ⟨b,h1,h2,h3⟩=>h3 ▸ h.hown b h1 h2) (fun x ⟨b,h1,h3⟩=>h3 ▸ h.hA b h1)
 refine Mn.of_act hfrm fun o' a' fr' cs' W2 hc=>?_
 obtain⟨o,a,⟨ρ1,D1,fr1,W1,hsim,hst,⟨⟨hfn1,v,fn',hf',hrun,hRv⟩,hro1⟩,heq,ho1,hA1,h01,hed1,hcc,hkd1,hn1,hn2⟩,hf2⟩:=hc
 obtain rfl:fn'=fn:=Option.some.inj (hf'.symm.trans hf)
 have same:∀ b,b<(gd P).n∨D b→ρ.p b=ρ1.p b:=fun b hb=>((h01 b (hb.elim (h.sim.hG b) id)).2).symm
 have key:∀ {x:Frame},supF P D E x→zab ρ x=zab ρ1 x:=fun hx=>zbC same (fun b=>by rw [hcc]) (fun f hf=>by rw [h.sim.rok.fixo f hf,hsim.rok.fixo f hf]) hx
 have hD:∀ b,D b→D1 b:=fun b hb=>(h01 b hb).1
 have hbs:(c :: cs).map (zab ρ)=(c :: cs).map (zab ρ1):=List.map_congr_left fun c hc=>key (h.sim.sups c hc)
 have e2:({ frame:=fr',callers:=cs',status:=.running,dying:=none }:Goroutine)=gor ρ1 fr1 (c :: cs):=by
  simp only [Prod.mk.injEq,List.nil_append] at heq
  obtain⟨rfl,rfl⟩:=heq
  unfold gor
  rw [hbs]
 rw [e2]
 refine GoM.leave hst.1 hst.2.1 hkd1 hro1 (hfn1 ▸ hf) (hres _ _ _ hrun) (hq v W1 hRv) ρ1 D1 o' a' W2 ⟨⟨hsim.rok,hsim.hG,hsim.lt,hsim.bd,hsim.fz,hsim.sup,fun c hc=>zbB hD (h.sim.sups c hc),hsim.os,hsim.output,hsim.obj,hsim.supo⟩,fun b hb hz=>hf2.oo _ ((ho1 _).2 ⟨b,hb,hz,rfl⟩),fun b hb=>hf2.aa _ ((hA1 _).2 ⟨b,hb,rfl⟩),fun x hx=>?_,hed1,fun x=>by rw [hcc];exact h.tok x,fun x hx=>(Nat.lt_or_ge x W.heap.size).elim (fun hlt=>by rw [(hn1 x hlt).1];exact (h.junk x hlt).imp (hf2.aa' _) id) fun hge=>.inl (hf2.aa _ ((hA1 _).2 ⟨x,hn2 x hge hx,rfl⟩)),Nat.le_trans h.far.1 hf2.size,fun b hb=>?_⟩
 ·obtain⟨c1,c2,c3,c4⟩:=h.keep x hx
  refine⟨hf2.aa' x c1,fun ho=>(hf2.ob' x ho).elim c2 fun hx2=>by omega,Nat.lt_of_lt_of_le c3 hf2.size,(hf2.keep x c1 c3 fun ⟨b,d1,d2,d3⟩=>c2 (d3 ▸ h.hown b d1 d2)).trans c4⟩
 ·rcases Nat.lt_or_ge b W.heap.size with hlt | hge
  ·rw [(hn1 b hlt).1];exact h.far.2 b ((hn1 b hlt).2 hb)
  ·have hz:¬ Fz b:=fun hz=>by have:=h.sim.lt _ (h.sim.fz _ hz);omega
   rcases hf2.ob _ ((ho1 _).2 ⟨b,hb,hz,rfl⟩) with ⟨b0,d1,d2,d3⟩ | hx
   ·have h1:=h.sim.lt _ d1
    rw [← (hn1 b0 h1).1] at d3
    have:=hsim.rok.inj b0 b d3
    omega
   ·exact .inr (Nat.le_trans h.far.1 hx)
theorem zjE {fn:Func} {j:Nat} (hr:fn.results=#[.tmp j]) (t:Array Value) (W:World) (v:Value) (h:(results fn t).run P W=.ok v W) (σ:Rn):ResultsC P fn (t.map (ren σ)) (ren σ v):=by
 have e:v=t.getD j undef:=by
  have h1:=(resultsC_tmp (P:=P) hr t W).1
  rw [h] at h1
  simp only [Result.ok.injEq,and_true] at h1
  exact h1
 subst e
 have:=resultsC_tmp (P:=P) hr (t.map (ren σ))
 rw [zik] at this
 exact this
theorem Gm.call {F:Fence} {n:Nat} (hdep:F.depth=none) (hF:∀ f,F.fn f→zaR P (.func f)=true→okFn P maps f) {f:FuncId} {t:Array Value} {k:List Item} {ops:Array Oper} {i j:Nat} {rest:List Nat} {o:Oper} {c:Call} {g:FuncId} {fn:Func} {body:Code} {args:Array Value} {R:Value→World→Prop} (ho:ops[i]?=some o) (hw:Region.wanted o (yielded ops t)=true) (hop:o.op=.call c) (hc:c.callee=.value (.func g)) (has:c.args.all (zaS P)=true) (hf:P.funcs[g]?=some fn) (hb:fn.body=some body) (hn:(fn.name == "runtime.NumGoroutine")=false)
  (hin:P.inits.idxOf? g=none) (hok:okFn P maps g) (hr:fn.results=#[.tmp j]) (hargs:c.args.map (Fr f t []).eval=args)
  (hp:∀ τ:Tape,CallsIn F n P g args { W with tape:=τ } fun e w'=>match e with | .returned v=>R v w' | _=>False)
  (hq:∀ v W1,R v W1→GoM P maps E Fz Arg W0 Q φ pend (Fr f (putD t o.dst v) (.inRegion ops rest :: k)) cs W1):GoM P maps E Fz Arg W0 Q φ pend (Fr f t (.inRegion ops (i :: rest) :: k)) cs W:=by
 refine Gm.enter ho hw hop hc has hf hb hn ?_
 rw [hargs,← zez hf hb]
 refine GoM.callee hdep hF hf hin hok hp (zjE hr) fun v W1 h=>?_
 rw [zbg ho]
 exact hq v W1 h
end
end Go.Con
namespace Go.Con
open Go Go.Conc
def zds (ops:Array Oper) (i:Nat):Option Tmp:=(ops[i]?).bind (·.dst)
def zjb (ops:Array Oper) (i j:Nat):Bool:=((ops[i]?).map fun o=>o.after.any fun e=>Region.binds .any e && e.on == j).getD false
def zeo (ops:Array Oper) (n:Nat):Bool :=
 (List.range ops.size).all fun i=>((zds ops i).any fun d=>decide (d<n) && (List.range i).all fun j=>zds ops j != some d) && ((ops[i]?).any fun o=>o.after.all fun e=>!Region.binds .any e || decide (e.on<i))
def zgH (ops:Array Oper) (d:Tmp):Bool:=(List.range ops.size).all fun i=>zds ops i != some d
theorem zf5 {ops:Array Oper} {i d:Nat} (h:zds ops i=some d):i<ops.size:=by
 unfold zds at h
 rcases Nat.lt_or_ge i ops.size with g | g
 ·exact g
 ·rw [Array.getElem?_eq_none g] at h;cases h
theorem zkr {ops:Array Oper} {d:Tmp} (h:zgH ops d=true) (i:Nat):zds ops i≠some d:=by
 intro hi
 unfold zgH at h
 rw [List.all_eq_true] at h
 have:=h i (List.mem_range.2 (zf5 hi))
 simp [hi] at this
section
variable [Lone]
variable {P:Program} {maps:Bool} {E Arg:Nat→Prop} {W0:World} {f:FuncId} {k:List Item} {cs:List Frame}
variable {Q:(Nat→Prop)→(Nat→Prop)→Goroutine→World→Prop} {pend:List Nat}
theorem Gm.draw {Fz:Nat→Prop} {φ:Ph} {t:Array Value} {W:World} {id:Nat} {ops:Array Oper} (hm:P.follows .mixedOrders=true) (hg:∀ n,GoM P maps E Fz Arg W0 Q φ pend (Fr f t (.inRegion ops (Region.linearise .any ops n) :: k)) cs { W with drawn:=W.drawn+1 }):GoM P maps E Fz Arg W0 Q φ pend (Fr f t (.code (.region id ops true) :: k)) cs W:=by
 refine GoM.step (fun σ R=>?_) ⟨fun it t' e=>?_,.inl rfl,fun d hdm=>(List.not_mem_nil hdm).elim,.inl rfl⟩ fun τ hτ=>?_
 ·unfold zan zb3 zab
  dsimp only [Fr]
  simp only [List.map_cons,zal,Bool.not_true,Bool.false_eq_true,if_false]
  refine zad (zaL _).sr ?_
  rintro n _ rfl
  exact zaf rfl
 ·cases e
  rfl
 ·refine⟨Fr f t (.inRegion ops (Region.linearise .any ops (τ W.drawn (.order f id))) :: k),cs,{ W with tape:=τ,drawn:=W.drawn+1 },?_,fun h=>h,?_⟩
  ·unfold zan zb3
   dsimp only [Fr]
   simp only [Bool.not_true,Bool.false_eq_true,if_false,Region.schedule,hm,Bool.true_or,if_true]
   rfl
  ·exact Gm.tape (hg _)
theorem ziq {ops:Array Oper} {n:Nat} (hn:zeo ops n=true) {i:Nat} (hi:i<ops.size):∃ d,zds ops i=some d∧d<n∧∀ j,j<i→zds ops j≠some d:=by
 unfold zeo at hn
 rw [List.all_eq_true] at hn
 have h1:=hn i (List.mem_range.2 hi)
 rw [Bool.and_eq_true] at h1
 have h2:=h1.1
 cases hd:zds ops i with
 | none=>rw [hd] at h2;cases h2
 | some d =>
  rw [hd,Option.any_some,Bool.and_eq_true,List.all_eq_true] at h2
  refine⟨d,rfl,by simpa using h2.1,fun j hj he=>?_⟩
  have:=h2.2 j (List.mem_range.2 hj)
  simp [he] at this
theorem zoU {ops:Array Oper} {n:Nat} (hn:zeo ops n=true) {i j d:Nat} (hi:zds ops i=some d) (hj:zds ops j=some d):i=j:=by
 rcases Nat.lt_trichotomy i j with h | h | h
 ·obtain⟨d',h1,_,h2⟩:=ziq hn (zf5 hj)
  rw [hj] at h1
  cases h1
  exact absurd hi (h2 i h)
 ·exact h
 ·obtain⟨d',h1,_,h2⟩:=ziq hn (zf5 hi)
  rw [hi] at h1
  cases h1
  exact absurd hj (h2 j h)
end
end Go.Con
