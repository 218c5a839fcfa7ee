import Derived.Test.YtedomogjmhommaaC42
import Derived.Orders
set_option linter.all false
set_option maxRecDepth 100000
set_option maxHeartbeats 8000000
namespace Go.Con
open Go Go.Conc
variable [Lone]
section
variable {P:Program} {maps:Bool} {E Fz Arg D:Nat→Prop} {W0:World} {fr:Frame} {cs:List Frame} {W:World}
variable {Q:(Nat→Prop)→(Nat→Prop)→Goroutine→World→Prop} {φ:Ph} {pend:List Nat}
theorem Fut.base {Stop:Frame→List Frame→Prop} {Q:Frame→World→Prop} (h:Fut P maps D E Stop Q fr cs W):Fut P maps D E Stop (fun fr W=>Q fr W∧fr.roundOf=none) fr cs W:=by
 induction h with
 | done hi hs hq=>exact .done hi hs ⟨hq,hi.base.1⟩
 | step hi hn h1 _ ih=>exact .step hi hn h1 fun τ fr' cs' W' ha hr=>ih τ fr' cs' W' ha hr
theorem GoM.callee {F:Fence} {n:Nat} (hdep:F.depth=none) (hF:∀ f,F.fn f→goodFn P (.func f)=true→okFn P maps f) {g:FuncId} {args:Array Value} {fn:Func} {c:Frame} {R:Value→World→Prop} (hf:P.funcs[g]?=some fn) (hin:P.inits.idxOf? g=none) (hok:okFn P maps g)
  (hp:∀ τ:Tape,CallsIn F n P g args { W with tape:=τ } fun e w'=>match e with | .returned v=>R v w' | _=>False)
  (hres:∀ (t:Array Value) (W:World) (v:Value),(results fn t).run P W=.ok v W→∀ σ:Rn,ResultsC P fn (t.map (ren σ)) (ren σ v))
  (hq:∀ v W1,R v W1→GoM P maps E Fz Arg W0 Q φ pend (c.finish v) cs W1):GoM P maps E Fz Arg W0 Q φ pend (Frame.enter P g args .normal) (c :: cs) W:=by
 intro ρ D own A W' h
 have hro:(Frame.enter P g args .normal).roundOf=none:=rfl
 have hfn0:(Frame.enter P g args .normal).fn=g:=rfl
 have hs0:=h.sim.sup
 have hinv:=h.inv (enter_ok hok) hs0 ⟨hro,by rw [hfn0];exact hin⟩
 have hGl:∀ b,b<P.globals.size→D b∨W.heap.size≤b:=fun b hb=>.inl (h.sim.hG b hb)
 have hfut:=(fut_of hF hGl stopRet_done stopRet_first hinv (fun τ _=>ends_of_calls hdep (hp τ))).base
 have hact:=act_of hGl (upOk_ret (fun b=>D b∨W.heap.size≤b) E ((c :: cs).map (renFrame ρ))) hfut W.heap.size ρ D Fz (h.frames hs0 (fun c hc=>(List.not_mem_nil hc).elim)).sim (own:=fun x=>∃ b,D b∧¬ Fz b∧ρ.p b=x) (A:=fun x=>∃ b,D b∧ρ.p b=x)
  (fun _=>Iff.rfl) (fun _=>Iff.rfl) (fun b hb=>⟨hb,rfl⟩) rfl (Nat.le_refl _) (fun _ _=>⟨rfl,id⟩) (fun b h1 h2=>absurd h1 (Nat.not_le.2 h2))
 have hfrm:=hact.frame (own':=own) (A':=A) (fun x ⟨b,h1,h2,h3⟩=>h3 ▸ h.hown b h1 h2) (fun x ⟨b,h1,h3⟩=>h3 ▸ h.hA b h1)
 refine Mn.of_act hfrm fun o' a' fr' cs' W2 hc=>?_
 obtain⟨o,a,⟨ρ1,D1,fr1,W1,hsim,hst,⟨⟨hfn1,v,fn',hf',hrun,hRv⟩,hro1⟩,heq,ho1,hA1,h01,hed1,hcc,hkd1,hn1,hn2⟩,hf2⟩:=hc
 obtain rfl:fn'=fn:=Option.some.inj (hf'.symm.trans hf)
 have same:∀ b,b<(gd P).n∨D b→ρ.p b=ρ1.p b:=fun b hb=>((h01 b (hb.elim (h.sim.hG b) id)).2).symm
 have key:∀ {x:Frame},supF P D E x→renFrame ρ x=renFrame ρ1 x:=fun hx=>sup_renFrame same (fun b=>by rw [hcc]) (fun f hf=>by rw [h.sim.rok.fixo f hf,hsim.rok.fixo f hf]) hx
 have hD:∀ b,D b→D1 b:=fun b hb=>(h01 b hb).1
 have hbs:(c :: cs).map (renFrame ρ)=(c :: cs).map (renFrame ρ1):=List.map_congr_left fun c hc=>key (h.sim.sups c hc)
 have e2:({ frame:=fr',callers:=cs',status:=.running,dying:=none }:Goroutine)=gor ρ1 fr1 (c :: cs):=by
  simp only [Prod.mk.injEq,List.nil_append] at heq
  obtain⟨rfl,rfl⟩:=heq
  unfold gor
  rw [hbs]
 rw [e2]
 refine GoM.leave hst.1 hst.2.1 hkd1 hro1 (hfn1 ▸ hf) (hres _ _ _ hrun) (hq v W1 hRv) ρ1 D1 o' a' W2 ⟨⟨hsim.rok,hsim.hG,hsim.lt,hsim.bd,hsim.fz,hsim.sup,fun c hc=>supF_mono hD (h.sim.sups c hc),hsim.os,hsim.output,hsim.obj,hsim.supo⟩,fun b hb hz=>hf2.oo _ ((ho1 _).2 ⟨b,hb,hz,rfl⟩),fun b hb=>hf2.aa _ ((hA1 _).2 ⟨b,hb,rfl⟩),fun x hx=>?_,hed1,fun x=>by rw [hcc];exact h.tok x,fun x hx=>(Nat.lt_or_ge x W.heap.size).elim (fun hlt=>by rw [(hn1 x hlt).1];exact (h.junk x hlt).imp (hf2.aa' _) id) fun hge=>.inl (hf2.aa _ ((hA1 _).2 ⟨x,hn2 x hge hx,rfl⟩)),Nat.le_trans h.far.1 hf2.size,fun b hb=>?_⟩
 ·obtain⟨c1,c2,c3,c4⟩:=h.keep x hx
  refine⟨hf2.aa' x c1,fun ho=>(hf2.ob' x ho).elim c2 fun hx2=>by omega,Nat.lt_of_lt_of_le c3 hf2.size,(hf2.keep x c1 c3 fun ⟨b,d1,d2,d3⟩=>c2 (d3 ▸ h.hown b d1 d2)).trans c4⟩
 ·rcases Nat.lt_or_ge b W.heap.size with hlt | hge
  ·rw [(hn1 b hlt).1];exact h.far.2 b ((hn1 b hlt).2 hb)
  ·have hz:¬ Fz b:=fun hz=>by have:=h.sim.lt _ (h.sim.fz _ hz);omega
   rcases hf2.ob _ ((ho1 _).2 ⟨b,hb,hz,rfl⟩) with ⟨b0,d1,d2,d3⟩ | hx
   ·have h1:=h.sim.lt _ d1
    rw [← (hn1 b0 h1).1] at d3
    have:=hsim.rok.inj b0 b d3
    omega
   ·exact .inr (Nat.le_trans h.far.1 hx)
theorem results_slot {fn:Func} {j:Nat} (hr:fn.results=#[.tmp j]) (t:Array Value) (W:World) (v:Value) (h:(results fn t).run P W=.ok v W) (σ:Rn):ResultsC P fn (t.map (ren σ)) (ren σ v):=by
 have e:v=t.getD j undef:=by
  have h1:=(resultsC_tmp (P:=P) hr t W).1
  rw [h] at h1
  simp only [Result.ok.injEq,and_true] at h1
  exact h1
 subst e
 have:=resultsC_tmp (P:=P) hr (t.map (ren σ))
 rw [getD_ren] at this
 exact this
theorem Gm.call {F:Fence} {n:Nat} (hdep:F.depth=none) (hF:∀ f,F.fn f→goodFn P (.func f)=true→okFn P maps f) {f:FuncId} {t:Array Value} {k:List Item} {ops:Array Oper} {i j:Nat} {rest:List Nat} {o:Oper} {c:Call} {g:FuncId} {fn:Func} {body:Code} {args:Array Value} {R:Value→World→Prop} (ho:ops[i]?=some o) (hw:Region.wanted o (yielded ops t)=true) (hop:o.op=.call c) (hc:c.callee=.value (.func g)) (has:c.args.all (okOpd P)=true) (hf:P.funcs[g]?=some fn) (hb:fn.body=some body) (hn:(fn.name == "runtime.NumGoroutine")=false)
  (hin:P.inits.idxOf? g=none) (hok:okFn P maps g) (hr:fn.results=#[.tmp j]) (hargs:c.args.map (Fr f t []).eval=args)
  (hp:∀ τ:Tape,CallsIn F n P g args { W with tape:=τ } fun e w'=>match e with | .returned v=>R v w' | _=>False)
  (hq:∀ v W1,R v W1→GoM P maps E Fz Arg W0 Q φ pend (Fr f (putD t o.dst v) (.inRegion ops rest :: k)) cs W1):GoM P maps E Fz Arg W0 Q φ pend (Fr f t (.inRegion ops (i :: rest) :: k)) cs W:=by
 refine Gm.enter ho hw hop hc has hf hb hn ?_
 rw [hargs,← Fr_enter hf hb]
 refine GoM.callee hdep hF hf hin hok hp (results_slot hr) fun v W1 h=>?_
 rw [Fr_finish ho]
 exact hq v W1 h
end
end Go.Con
namespace Go.Con
open Go Go.Conc
def dstOf (ops:Array Oper) (i:Nat):Option Tmp:=(ops[i]?).bind (·.dst)
def edgeTo (ops:Array Oper) (i j:Nat):Bool:=((ops[i]?).map fun o=>o.after.any fun e=>Region.binds .any e && e.on == j).getD false
def neatOps (ops:Array Oper) (n:Nat):Bool :=
 (List.range ops.size).all fun i=>((dstOf ops i).any fun d=>decide (d<n) && (List.range i).all fun j=>dstOf ops j != some d) && ((ops[i]?).any fun o=>o.after.all fun e=>!Region.binds .any e || decide (e.on<i))
def freeOf (ops:Array Oper) (d:Tmp):Bool:=(List.range ops.size).all fun i=>dstOf ops i != some d
theorem dstOf_lt {ops:Array Oper} {i d:Nat} (h:dstOf ops i=some d):i<ops.size:=by
 unfold dstOf at h
 rcases Nat.lt_or_ge i ops.size with g | g
 ·exact g
 ·rw [Array.getElem?_eq_none g] at h;cases h
theorem freeOf_spec {ops:Array Oper} {d:Tmp} (h:freeOf ops d=true) (i:Nat):dstOf ops i≠some d:=by
 intro hi
 unfold freeOf at h
 rw [List.all_eq_true] at h
 have:=h i (List.mem_range.2 (dstOf_lt hi))
 simp [hi] at this
structure AnySt (ops:Array Oper) (vs:Nat→Value) (t0:Array Value) (listed:Array Bool) (t:Array Value):Prop where
 size:t.size=t0.size
 got:∀ i d,listed.getD i true=true→dstOf ops i=some d→t[d]?=some (vs i)
 old:∀ d,freeOf ops d=true→t[d]?=t0[d]?
section
variable [Lone]
variable {P:Program} {maps:Bool} {E Arg:Nat→Prop} {W0:World} {f:FuncId} {k:List Item} {cs:List Frame}
variable {Q:(Nat→Prop)→(Nat→Prop)→Goroutine→World→Prop} {pend:List Nat}
theorem Gm.draw {Fz:Nat→Prop} {φ:Ph} {t:Array Value} {W:World} {id:Nat} {ops:Array Oper} (hm:P.follows .mixedOrders=true) (hg:∀ n,GoM P maps E Fz Arg W0 Q φ pend (Fr f t (.inRegion ops (Region.linearise .any ops n) :: k)) cs { W with drawn:=W.drawn+1 }):GoM P maps E Fz Arg W0 Q φ pend (Fr f t (.code (.region id ops true) :: k)) cs W:=by
 refine GoM.step (fun σ R=>?_) ⟨fun it t' e=>?_,.inl rfl,fun d hdm=>(List.not_mem_nil hdm).elim,.inl rfl⟩ fun τ hτ=>?_
 ·unfold frameSem runSem renFrame
  dsimp only [Fr]
  simp only [List.map_cons,renItem,Bool.not_true,Bool.false_eq_true,if_false]
  refine sr_bind (info_choose _).sr ?_
  rintro n _ rfl
  exact sr_pure rfl
 ·cases e
  rfl
 ·refine⟨Fr f t (.inRegion ops (Region.linearise .any ops (τ W.drawn (.order f id))) :: k),cs,{ W with tape:=τ,drawn:=W.drawn+1 },?_,fun h=>h,?_⟩
  ·unfold frameSem runSem
   dsimp only [Fr]
   simp only [Bool.not_true,Bool.false_eq_true,if_false,Region.schedule,hm,Bool.true_or,if_true]
   rfl
  ·exact Gm.tape (hg _)
theorem all_listed {ops:Array Oper} {n:Nat} (hn:neatOps ops n=true) {listed:Array Bool} (hr:Region.ready .any ops listed=[]) (i:Nat) (hi:i<ops.size):listed.getD i true=true:=by
 induction i using Nat.strongRecOn with
 | _ i ih =>
  cases hc:listed.getD i true with
  | true=>rfl
  | false =>
  exfalso
  have ho:ops[i]?=some ops[i]:=Array.getElem?_eq_getElem hi
  have:i∈Region.ready .any ops listed:=by
   rw [mem_ready]
   refine⟨hc,_,ho,fun e he hb=>?_⟩
   unfold neatOps at hn
   rw [List.all_eq_true] at hn
   have h1:=hn i (List.mem_range.2 hi)
   rw [Bool.and_eq_true] at h1
   have h2:=h1.2
   rw [ho,Option.any_some,Array.all_eq_true_iff_forall_mem] at h2
   have h3:=h2 e he
   rw [hb] at h3
   have h4:e.on<i:=by simpa using h3
   have h5:=ih e.on h4 (Nat.lt_trans h4 hi)
   have h6:e.on<listed.size∨listed.size≤e.on:=Nat.lt_or_ge _ _
   rcases h6 with h6 | h6
   ·simpa [h6] using h5
   ·
    exfalso
    have:listed.getD i true=true:=by
     simp [Array.getElem?_eq_none (show listed.size≤i by omega)]
    rw [this] at hc
    cases hc
  rw [hr] at this
  cases this
theorem neat_dst {ops:Array Oper} {n:Nat} (hn:neatOps ops n=true) {i:Nat} (hi:i<ops.size):∃ d,dstOf ops i=some d∧d<n∧∀ j,j<i→dstOf ops j≠some d:=by
 unfold neatOps at hn
 rw [List.all_eq_true] at hn
 have h1:=hn i (List.mem_range.2 hi)
 rw [Bool.and_eq_true] at h1
 have h2:=h1.1
 cases hd:dstOf ops i with
 | none=>rw [hd] at h2;cases h2
 | some d =>
  rw [hd,Option.any_some,Bool.and_eq_true,List.all_eq_true] at h2
  refine⟨d,rfl,by simpa using h2.1,fun j hj he=>?_⟩
  have:=h2.2 j (List.mem_range.2 hj)
  simp [he] at this
theorem neat_inj {ops:Array Oper} {n:Nat} (hn:neatOps ops n=true) {i j d:Nat} (hi:dstOf ops i=some d) (hj:dstOf ops j=some d):i=j:=by
 rcases Nat.lt_trichotomy i j with h | h | h
 ·obtain⟨d',h1,_,h2⟩:=neat_dst hn (dstOf_lt hj)
  rw [hj] at h1
  cases h1
  exact absurd hi (h2 i h)
 ·exact h
 ·obtain⟨d',h1,_,h2⟩:=neat_dst hn (dstOf_lt hi)
  rw [hi] at h1
  cases h1
  exact absurd hj (h2 j h)
theorem any_go {ops:Array Oper} {C:World→Prop} {vs:Nat→Value} {t0:Array Value} (hn:neatOps ops t0.size=true)
  (hop:∀ i,i<ops.size→∀ t W Fz φ rest,C W→t.size=t0.size→(∀ j d,edgeTo ops i j=true→dstOf ops j=some d→t[d]?=some (vs j))→(∀ d,freeOf ops d=true→t[d]?=t0[d]?) →
   (∀ W' Fz' φ',C W'→GoM P maps E Fz' Arg W0 Q φ' pend (Fr f (putD t (dstOf ops i) (vs i)) (.inRegion ops rest :: k)) cs W')→GoM P maps E Fz Arg W0 Q φ pend (Fr f t (.inRegion ops (i :: rest) :: k)) cs W)
  (hend:∀ t W Fz φ,C W→t.size=t0.size→(∀ j d,dstOf ops j=some d→t[d]?=some (vs j))→(∀ d,freeOf ops d=true→t[d]?=t0[d]?)→GoM P maps E Fz Arg W0 Q φ pend (Fr f t k) cs W) :
  ∀ (fuel x:Nat) (listed:Array Bool) (t:Array Value) (W:World) Fz φ,listed.size=ops.size→((List.range ops.size).countP fun i=>!listed.getD i true)≤fuel→AnySt ops vs t0 listed t→C W →
   GoM P maps E Fz Arg W0 Q φ pend (Fr f t (.inRegion ops (Region.linearise.go .any ops fuel x listed []) :: k)) cs W:=by
 intro fuel
 induction fuel with
 | zero =>
  intro x listed t W Fz φ hs hc hA hC
  simp only [Region.linearise.go,List.reverse_nil]
  refine Gm.regionEnd (hend t W Fz φ hC hA.size (fun j d hj=>hA.got j d ?_ hj) hA.old)
  have h0:((List.range ops.size).countP fun i=>!listed.getD i true)=0:=by omega
  rw [List.countP_eq_zero] at h0
  simpa using h0 j (List.mem_range.2 (dstOf_lt hj))
 | succ fuel ih =>
  intro x listed t W Fz φ hs hc hA hC
  simp only [Region.linearise.go]
  change GoM P maps E Fz Arg W0 Q φ pend (Fr f t (.inRegion ops (match (Region.ready .any ops listed)[x % (Region.ready .any ops listed).length]? with
   | some i=>Region.linearise.go .any ops fuel (x / (Region.ready .any ops listed).length) (listed.setIfInBounds i true) [i]
   | none=>[].reverse) :: k)) cs W
  cases hi:(Region.ready .any ops listed)[x % (Region.ready .any ops listed).length]? with
  | none =>
   have hnil:Region.ready .any ops listed=[]:=by
    cases hr:Region.ready .any ops listed with
    | nil=>rfl
    | cons y ys =>
     rw [hr] at hi
     have hlt:x % (y :: ys).length<(y :: ys).length:=Nat.mod_lt _ (by simp)
     simp at hi
     simp at hlt
     omega
   simp only [List.reverse_nil]
   exact Gm.regionEnd (hend t W Fz φ hC hA.size (fun j d hj=>hA.got j d (all_listed hn hnil j (dstOf_lt hj)) hj) hA.old)
  | some i =>
   simp only []
   rw [linearise_go_acc,List.reverse_singleton,List.singleton_append]
   have hir:=List.mem_of_getElem? hi
   obtain⟨hl,o,ho,hall⟩:=mem_ready.1 hir
   have hlt:i<ops.size:=(Array.getElem?_eq_some_iff.1 ho).1
   obtain⟨di,hdi,hdn,_⟩:=neat_dst hn hlt
   refine hop i hlt t W Fz φ _ hC hA.size (fun j d he hj=>hA.got j d ?_ hj) hA.old fun W' Fz' φ' hC'=>?_
   ·unfold edgeTo at he
    rw [ho] at he
    simp only [Option.map_some,Option.getD_some] at he
    obtain⟨q,hq,he⟩:=Array.any_eq_true.1 he
    rw [Bool.and_eq_true,beq_iff_eq] at he
    obtain⟨hb,rfl⟩:=he
    have:=hall _ (Array.getElem_mem hq) hb
    have hlt2:o.after[q].on<listed.size:=by
     rcases Nat.lt_or_ge o.after[q].on listed.size with h | h
     ·exact h
     ·simp [Array.getElem?_eq_none h] at this
    simpa [hlt2] using this
   ·refine ih _ _ _ _ _ _ (by simp [hs]) ?_ ⟨?_,?_,?_⟩ hC'
    ·have key:∀ (l:List Nat),i∈l→(l.countP fun j=>!(listed.setIfInBounds i true).getD j true)+1≤l.countP fun j=>!listed.getD j true:=by
      intro l
      induction l with
      | nil=>intro h;cases h
      | cons a l ihl =>
       intro h
       have mono:∀ l:List Nat,(l.countP fun j=>!(listed.setIfInBounds i true).getD j true)≤l.countP fun j=>!listed.getD j true:=fun l=>by
        refine List.countP_mono_left fun j _ hj=>?_
        by_cases hij:i=j
        ·subst hij;simp [hs,hlt] at hj
        ·rwa [getD_set_ne true hij] at hj
       by_cases ha:a=i
       ·subst ha
        rw [List.countP_cons,List.countP_cons]
        have h1:(!(listed.setIfInBounds a true).getD a true)=false:=by simp [hs,hlt]
        have h2:(!listed.getD a true)=true:=by rw [hl];rfl
        rw [h1,h2]
        have:=mono l
        simp only [Bool.false_eq_true,if_false,if_true]
        omega
       ·have hm:i∈l:=by
         rcases List.mem_cons.1 h with h | h
         ·exact absurd h.symm ha
         ·exact h
        rw [List.countP_cons,List.countP_cons,getD_set_ne true (Ne.symm ha)]
        have:=ihl hm
        split<;>omega
     have:=key _ (List.mem_range.2 hlt)
     omega
    ·rw [hdi]
     simp only [putD,Array.size_setIfInBounds]
     exact hA.size
    ·intro j d hj hd
     rw [hdi]
     simp only [putD]
     by_cases hij:i=j
     ·subst hij
      rw [hdi] at hd
      cases hd
      exact Array.getElem?_setIfInBounds_self_of_lt (by rw [hA.size];exact hdn)
     ·rw [getD_set_ne true hij] at hj
      have hne:di≠d:=fun h=>hij (neat_inj hn hdi (h ▸ hd))
      rw [Array.getElem?_setIfInBounds_ne hne]
      exact hA.got j d hj hd
    ·intro d hd
     rw [hdi]
     simp only [putD]
     have hne:di≠d:=fun h=>freeOf_spec hd i (h ▸ hdi)
     rw [Array.getElem?_setIfInBounds_ne hne]
     exact hA.old d hd
theorem Gm.regionAny {Fz:Nat→Prop} {φ:Ph} {t0:Array Value} {W:World} {id:Nat} {ops:Array Oper} (hm:P.follows .mixedOrders=true) (C:World→Prop) (vs:Nat→Value) (hn:neatOps ops t0.size=true) (hC:C { W with drawn:=W.drawn+1 })
  (hop:∀ i,i<ops.size→∀ t W Fz φ rest,C W→t.size=t0.size→(∀ j d,edgeTo ops i j=true→dstOf ops j=some d→t[d]?=some (vs j))→(∀ d,freeOf ops d=true→t[d]?=t0[d]?) →
   (∀ W' Fz' φ',C W'→GoM P maps E Fz' Arg W0 Q φ' pend (Fr f (putD t (dstOf ops i) (vs i)) (.inRegion ops rest :: k)) cs W')→GoM P maps E Fz Arg W0 Q φ pend (Fr f t (.inRegion ops (i :: rest) :: k)) cs W)
  (hend:∀ t W Fz φ,C W→t.size=t0.size→(∀ j d,dstOf ops j=some d→t[d]?=some (vs j))→(∀ d,freeOf ops d=true→t[d]?=t0[d]?)→GoM P maps E Fz Arg W0 Q φ pend (Fr f t k) cs W) :
  GoM P maps E Fz Arg W0 Q φ pend (Fr f t0 (.code (.region id ops true) :: k)) cs W:=by
 refine Gm.draw hm fun n=>?_
 unfold Region.linearise
 refine any_go hn hop hend _ _ _ _ _ _ _ (by simp) ?_ ⟨rfl,fun i d hl hd=>?_,fun _ _=>rfl⟩ hC
 ·refine Nat.le_trans List.countP_le_length ?_
  simp
 ·have:=dstOf_lt hd
  simp [this] at hl
end
end Go.Con
