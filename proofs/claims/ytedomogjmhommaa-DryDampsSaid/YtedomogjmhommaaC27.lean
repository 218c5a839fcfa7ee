import Derived.Test.YtedomogjmhommaaC26
set_option linter.all false
set_option maxRecDepth 100000
set_option maxHeartbeats 8000000
namespace Go.Con
open Go
variable [Lone]
section
variable {P:Program} {mf:Md} {nc:Bool} {ρ:Rn} {K:Nat→Prop}
theorem ren_undef:ren ρ undef=undef:=by simp [undef,ren,renA_eq]
theorem sr_enterLoop {fn:FuncId} {tmps:Array Value} {params:Array Tmp} {assign body:Code} {around:Option Nat} (h1:mf.okc assign=true) (h2:mf.okc body=true) :
  SR P mf nc ρ (fun a b=>b=(ρ.p a.1,a.2.map (renDef ρ))∧∀ d∈a.2,∃ r,d={ target:=.collected r,args:=#[] }) K
   (Instr.enterLoop fn tmps params assign body around) (Instr.enterLoop fn (tmps.map (ren ρ)) params assign body (around.map ρ.p)):=by
 unfold Instr.enterLoop
 have fin:∀ {K} (d:Nat) (mk:List Deferred),(∀ d∈mk,∃ r,d={ target:=.collected r,args:=#[] }) →
   SR P mf nc ρ (fun a b=>b=(ρ.p a.1,a.2.map (renDef ρ))∧∀ d∈a.2,∃ r,d={ target:=.collected r,args:=#[] }) K
   (do pure (← newObj (.loop { state:=.ready,pending:=none,fn,tmps,params,assign,body,defers:=d }),mk))
   (do pure (← newObj (.loop { state:=.ready,pending:=none,fn,tmps:=tmps.map (ren ρ),params,assign,body,defers:=ρ.p d }),mk.map (renDef ρ))):=by
  intro K d mk hm
  refine sr_bind (sr_newObj (o:=.loop { state:=.ready,pending:=none,fn,tmps,params,assign,body,defers:=d }) ?_ rfl) ?_
  ·simp [plainObj,Md.okl,h1,h2]
  ·rintro l _ rfl
   exact sr_pure ⟨rfl,hm⟩
 cases around with
 | some l =>
  dsimp only [Option.map_some]
  refine sr_getLoop fun r hr=>?_
  exact fin r.defers [] (by simp)
 | none =>
  dsimp only [Option.map_none]
  refine sr_bind (sr_newObj (o:=.deferred (some [])) rfl rfl) ?_
  rintro d _ rfl
  have:=fin (K:=K) d [{ target:=.collected d,args:=#[] }] (fun x hx=>⟨d,List.mem_singleton.1 hx⟩)
  simp only [List.map_cons,List.map_nil,renDef,renTarget,Array.map_empty] at this
  exact this
theorem sr_beginRound {l:Nat}:SI P mf nc ρ K (Instr.beginRound l) (Instr.beginRound (ρ.p l)):=by
 unfold Instr.beginRound
 refine sr_getLoop fun r hr=>?_
 refine sr_bind (sr_setObj_k (o:=.loop { r with state:=.busy }) (.inr rfl) hr rfl) ?_
 rintro _ _ rfl
 have e:(renLoop ρ r).state=r.state:=rfl
 rw [e]
 cases r.state<;>first | exact sr_pure rfl | exact sr_runtimePanic
theorem sr_endRound {l:Nat} {jump:Option Code} (h:jump.all mf.okc=true):SV P mf nc ρ K (Instr.endRound l jump) (Instr.endRound (ρ.p l) jump):=by
 unfold Instr.endRound
 refine sr_getLoop fun r hr=>?_
 refine sr_bind (sr_setObj_k (o:=.loop { r with state:=if jump.isNone then .ready else .done,pending:=jump }) (.inr rfl) ?_ rfl) ?_
 ·simp only [plainObj,Md.okl,Bool.and_eq_true] at hr ⊢
  exact⟨hr.1,h⟩
 ·rintro _ _ rfl
  exact sr_pure rfl
theorem sr_endLoop {l:Nat}:SR P mf nc ρ (fun a b=>b=a∧a.all mf.okc=true) K (Instr.endLoop l) (Instr.endLoop (ρ.p l)):=by
 unfold Instr.endLoop
 refine sr_getLoop fun r hr=>?_
 have e:(renLoop ρ r).state=r.state:=rfl
 have e2:(renLoop ρ r).pending=r.pending:=rfl
 rw [e,e2]
 split
 ·exact .dead (dead_bind (dead_runtimePanic _))
 ·refine sr_bind (sr_setObj_k (o:=.loop { r with state:=.exhausted }) (.inr rfl) hr rfl) ?_
  rintro _ _ rfl
  refine sr_pure ⟨rfl,?_⟩
  simp only [Md.okl,Bool.and_eq_true] at hr
  exact hr.2
theorem sr_takeDeferred {b:Nat}:SR P mf nc ρ (fun x y=>x=[]∧y=[]) K (Instr.takeDeferred b) (Instr.takeDeferred (ρ.p b)):=by
 unfold Instr.takeDeferred
 refine sr_getObj_k fun o ho hp=>?_
 cases o with
 | deferred c =>
  cases c with
  | none=>exact sr_stuck
  | some l =>
   cases l with
   | nil=>exact sr_bind (sr_setObj_k (o:=.deferred none) (.inr ⟨rfl,rfl⟩) rfl rfl) (by rintro _ _ rfl;exact sr_pure ⟨rfl,rfl⟩)
   | cons=>cases hp
 | _=>exact sr_stuck
theorem sr_mapM {α β:Type} {q:α→β→Prop} {γ:Type} {f:γ→Sem α} {f' : γ→Sem β} (h:∀ c,SR P mf nc ρ q K (f c) (f' c)):∀ (l:List γ),
  SR P mf nc ρ (fun (a:List α) (b:List β)=>a.length=b.length∧∀ (i:Nat) (x:α),a[i]?=some x→∃ y,b[i]?=some y∧q x y) K (l.mapM f) (l.mapM f')
 | []=>by
  rw [List.mapM_nil,List.mapM_nil]
  exact sr_pure ⟨rfl,fun i x h=>by simp at h⟩
 | c :: l=>by
  rw [List.mapM_cons,List.mapM_cons]
  refine sr_bind (h c) fun a b hab=>?_
  refine sr_bind (sr_mapM h l) fun as bs hs=>?_
  refine sr_pure ⟨by simp [hs.1],fun i x hx=>?_⟩
  cases i with
  | zero=>simp only [List.getElem?_cons_zero,Option.some.injEq] at hx;subst hx;exact⟨b,rfl,hab⟩
  | succ i=>simp only [List.getElem?_cons_succ] at hx ⊢;exact hs.2 i x hx
theorem sr_results {fn:Func} {tmps:Array Value}:SV P mf nc ρ K (results fn tmps) (results fn (tmps.map (ren ρ))):=by
 unfold results
 have hm:SR P mf nc ρ (fun a b=>b=a.map (ren ρ)) K
   (fn.results.mapM fun | .tmp t=>pure (tmps.getD t undef) | .cell a t=>do loadVar t (← asAddr (tmps.getD a undef)))
   (fn.results.mapM fun | .tmp t=>pure ((tmps.map (ren ρ)).getD t undef) | .cell a t=>do loadVar t (← asAddr ((tmps.map (ren ρ)).getD a undef))):=by
  have hg:∀ t,(tmps.map (ren ρ)).getD t undef=ren ρ (tmps.getD t undef):=by
   intro t
   simp only [Array.getD_eq_getD_getElem?,Array.getElem?_map]
   cases tmps[t]? with
   | none=>exact ren_undef.symm
   | some v=>rfl
  rw [Array.mapM_eq_mapM_toList,Array.mapM_eq_mapM_toList]
  refine sr_bind (sr_mapM (q:=fun a b=>b=ren ρ a) (fun c=>?_) fn.results.toList) ?_
  ·cases c with
   | tmp t=>exact sr_pure (hg t)
   | cell a t =>
    dsimp only
    rw [hg]
    refine sr_bind sr_asAddr ?_
    rintro a _ rfl
    exact sr_loadVar
  ·intro as bs h
   refine sr_pure ?_
   have:bs=as.map (ren ρ):=by
    apply List.ext_getElem?
    intro i
    rw [List.getElem?_map]
    cases ha:as[i]? with
    | none =>
     have:=List.getElem?_eq_none_iff.1 ha
     rw [Option.map_none,List.getElem?_eq_none_iff]
     omega
    | some x =>
     obtain⟨y,hy,e⟩:=h.2 i x ha
     rw [hy,e];rfl
   rw [this]
   simp
 refine sr_bind hm ?_
 rintro vs _ rfl
 refine sr_pure ?_
 by_cases h:vs.size=1
 ·simp [h]
 ·simp [h,ren,renA_eq]
end
end Go.Con
namespace Go.Con
open Go
variable [Lone]
section
variable (P:Program) (maps:Bool)
def okOpd:Operand→Bool
 | .tmp _=>true
 | .const v=>noAddr v
 | .global g=>decide (g<P.globals.size)
 | .func f=>goodFn P (.func f)
def okBuiltin (b:Builtin) (ats:Array TypeId):Bool:=match b with
 | .append=>appendOk P ats
 | .len=>lenOk P ats
 | .max | .min=>true
 | _=>false
def okCall (c:Call):Bool:=c.args.all (okOpd P) && match c.callee with
 | .value f=>okOpd P f
 | .builtin b=>okBuiltin P b c.argTypes
 | .invoke ..=>false
def okOp:Op→Bool
 | .move x | .assign x | .box _ x | .load _ x | .nilCheck x | .unOp _ _ x | .fieldAddr _ x _ | .field _ x _ | .range _ x | .next x _ | .entry x | .extract x _=>okOpd P x
 | .pick c a b=>okOpd P c && okOpd P a && okOpd P b
 | .alloc e=>zOk P e
 | .build t ps=>zOk P t && ps.all fun p=>okOpd P p.2
 | .buildSlice t _ ps=>ezOk P t && ps.all fun p=>okOpd P p.2
 | .store _ a x | .indexAddr _ a x | .index _ a x=>okOpd P a && okOpd P x
 | .binOp op t x y _=>binOk P op t && okOpd P x && okOpd P y
 | .convert s d x=>convOk P s d && okOpd P x
 | .makeFunc fn a b=>goodFn P fn && a.all (okOpd P) && b.all (okOpd P)
 | .makeMap _ r=>r.all (okOpd P)
 | .makeSlice t l c=>ezOk P t && okOpd P l && okOpd P c
 | .slice _ x l h m=>okOpd P x && l.all (okOpd P) && h.all (okOpd P) && m.all (okOpd P)
 | .lookup t x k _=>keyOk P t && ezOk P t && okOpd P x && okOpd P k
 | .mapUpdate t m k x | .insert t m k x=>maps && keyOk P t && okOpd P m && okOpd P k && okOpd P x
 | .call c=>okCall P c
 | _=>false
def okVal (e:Operand→Value):Op→Bool
 | .call { callee:=.value f,.. }=>okCallee P (e f)
 | .nilCheck x=>okCallee P (e x)
 | _=>true
end
section
variable {P:Program} {mf:Md} {nc:Bool} {ρ:Rn} {K:Nat→Prop} {e e' : Operand→Value}
theorem map_eval (he:∀ x,okOpd P x=true→e' x=ren ρ (e x)) {xs:Array Operand} (h:xs.all (okOpd P)=true):xs.map e'=(xs.map e).map (ren ρ):=by
 rw [Array.map_map]
 apply Array.map_congr_left
 intro x hx
 exact he x (Array.all_eq_true_iff_forall_mem.1 h x hx)
theorem omap_eval (he:∀ x,okOpd P x=true→e' x=ren ρ (e x)) {x:Option Operand} (h:x.all (okOpd P)=true):x.map e'=(x.map e).map (ren ρ):=by
 cases x with
 | none=>rfl
 | some x=>exact congrArg some (he x h)
theorem parts_eval (he:∀ x,okOpd P x=true→e' x=ren ρ (e x)) {ps:Array (Nat×Operand)} (h:(ps.all fun p=>okOpd P p.2)=true) :
  (ps.map fun (i,x)=>(i,e' x))=(ps.map fun (i,x)=>(i,e x)).map fun x=>(x.1,ren ρ x.2):=by
 rw [Array.map_map]
 apply Array.map_congr_left
 rintro ⟨i,x⟩ hx
 have:=Array.all_eq_true_iff_forall_mem.1 h _ hx
 simp only [Function.comp_apply,he x this]
theorem sr_v {s s' : Sem Value} (h:SV P mf nc ρ K s s'):SR P mf nc ρ (NextR P mf ρ) K (do pure (.value (← s))) (do pure (.value (← s'))) :=
 sr_bind h (by rintro v _ rfl;exact sr_pure (NextR.value v))
theorem sr_u {s s' : Sem Unit} (h:SI P mf nc ρ K s s'):SR P mf nc ρ (NextR P mf ρ) K (do s;pure .skip) (do s';pure .skip) :=
 sr_bind h (by rintro _ _ _;exact sr_pure NextR.skip)
theorem sr_builtin {b:Builtin} {ats:Array TypeId} (h:okBuiltin P b ats=true) {t:TypeId} {cs:Array Bool} {args:Array Value} :
  SR P mf nc ρ (NextR P mf ρ) K (builtin b ats t cs args) (builtin b ats t cs (args.map (ren ρ))):=by
 unfold builtin
 cases b<;>first | (cases h;done) | skip
 ·exact sr_v (sr_append h)
 ·exact sr_v (sr_len h)
 ·exact sr_v sr_max
 ·exact sr_v sr_min
theorem renFn_good (R:RenOk P ρ) {fn:Fn} (h:goodFn P fn=true):renFn ρ fn=fn:=by
 cases fn<;>first | (cases h;done) | exact R.fixo _ h
theorem isTok_good {fn:Fn} {a b:Array Value} (h:goodFn P fn=true):isTok fn a b=none:=by
 cases fn<;>first | rfl | cases h
theorem sr_callValue (R:RenOk P ρ) {f:Value} (h:okCallee P f=true) {args:Array Value} :
  SR P mf nc ρ (NextR P mf ρ) K (do let d ← Deferred.ofValue f args;invoke d.target d.args) (do let d ← Deferred.ofValue (ren ρ f) (args.map (ren ρ));invoke d.target d.args):=by
 cases f with
 | func fn a b =>
  cases fn with
  | func g =>
   have hg:ρ.o (.func g)=.func g:=R.fixo _ h
   show SR P mf nc ρ (NextR P mf ρ) K (callFunc g ((a++args)++b)) (invoke (.fn (ρ.o (.func g)) (renA ρ b)) (renA ρ a++args.map (ren ρ)))
   rw [hg]
   exact sr_callFunc h (by simp [renA_eq])
  | yield l =>
   show SR P mf nc ρ (NextR P mf ρ) K (Instr.yield l (a++args)) (Instr.yield (ρ.p l) (renA ρ a++args.map (ren ρ)))
   have:=sr_yield (P:=P) (mf:=mf) (nc:=nc) (K:=K) (ρ:=ρ) (l:=l) (args:=a++args)
   rw [Array.map_append] at this
   rw [renA_eq]
   exact this
  | method s =>
   obtain⟨x,rfl,rfl⟩:=okCallee_method h
   refine .dead ?_
   show Dead P (invoke (.fn (.method s) #[.chan (some x)]) (#[.nilIface]++args))
   have e:(#[Value.nilIface]++args)[0]?=some .nilIface:=by
    rw [Array.getElem?_append_left (by simp)];rfl
   unfold invoke
   rw [e]
   exact dead_runtimePanic (P:=P) (α:=Next) .nilDeref
  | _=>cases h
 | nilFunc=>exact .dead (dead_runtimePanic (P:=P) (α:=Next) .nilDeref)
 | _=>exact sr_stuck
theorem sr_execOp (R:RenOk P ρ) (he:∀ x,okOpd P x=true→e' x=ren ρ (e x)) {o:Oper} (h:okOp P mf.maps o.op=true) (hv:okVal P e o.op=true) :
  SR P mf nc ρ (NextR P mf ρ) K (execOp e o) (execOp e' o):=by
 unfold execOp
 obtain⟨dst,op,ty,pos,after,guard⟩:=o
 cases op with
 | move x=>dsimp only;rw [he x h];exact sr_pure (NextR.value _)
 | assign x=>dsimp only;rw [he x h];exact sr_pure (NextR.value _)
 | pick c a b =>
  simp only [okOp,Bool.and_eq_true] at h
  dsimp only
  rw [he c h.1.1,he a h.1.2,he b h.2]
  refine sr_bind sr_asBool ?_
  rintro _ x rfl
  cases x<;>exact sr_pure (NextR.value _)
 | alloc t=>exact sr_v (sr_alloc h)
 | box t x=>dsimp only;rw [he x h];exact sr_v sr_box
 | build t ps =>
  simp only [okOp,Bool.and_eq_true] at h
  dsimp only
  rw [parts_eval he h.2]
  exact sr_v (sr_build h.1)
 | buildSlice t n ps =>
  simp only [okOp,Bool.and_eq_true] at h
  dsimp only
  rw [parts_eval he h.2]
  exact sr_v (sr_buildSlice h.1)
 | load t x =>
  dsimp only;rw [he x h]
  refine sr_v (sr_bind sr_sureAddr ?_)
  rintro a _ rfl
  exact sr_loadVar
 | store t a x =>
  simp only [okOp,Bool.and_eq_true] at h
  dsimp only;rw [he a h.1,he x h.2]
  refine sr_u (sr_bind sr_sureAddr ?_)
  rintro a _ rfl
  exact sr_storeVar
 | nilCheck x =>
  dsimp only;rw [he x h]
  have hv' : okCallee P (e x)=true:=hv
  generalize e x=v at hv'
  cases v with
  | pointer a=>cases a<;>first | exact sr_runtimePanic | exact sr_pure (NextR.value _)
  | func fn a b =>
   cases fn with
   | func g =>
    have hg:ρ.o (.func g)=.func g:=R.fixo _ hv'
    have hn:=NextR.value (P:=P) (mf:=mf) (ρ:=ρ) (.func (.func g) a b)
    simp only [ren,renFn,hg] at hn ⊢
    exact sr_pure hn
   | yield l=>exact sr_pure (NextR.value (.func (.yield l) a b))
   | method s=>obtain⟨x,rfl,rfl⟩:=okCallee_method hv';exact sr_runtimePanic
   | _=>cases hv'
  | chan r =>
   have hn:=NextR.value (P:=P) (mf:=mf) (ρ:=ρ) (.chan r)
   rcases ren_chan ρ r with ⟨_,h⟩ | ⟨_,_,_,h⟩ | ⟨_,h⟩ | ⟨f,_,_,h,hf⟩ | ⟨_,h⟩
   ·rw [h] at hn ⊢;exact sr_pure hn
   ·rw [h] at hn ⊢;exact sr_pure hn
   ·rw [h] at hn ⊢;exact sr_pure hn
   ·rw [h] at hn ⊢
    cases f<;>first | exact sr_pure hn | exact (hf _ rfl).elim
   ·rw [h] at hn ⊢;exact sr_pure hn
  | nilIface=>exact sr_runtimePanic
  | nilFunc=>exact sr_runtimePanic
  | _=>exact sr_pure (NextR.value _)
 | binOp op t x y yt =>
  simp only [okOp,Bool.and_eq_true] at h
  dsimp only;rw [he x h.1.2,he y h.2]
  have hb:=h.1.1
  refine sr_v (sr_bind (sr_eqGuard fun ho=>?_) ?_)
  ·rcases ho with rfl | rfl<;>exact hb
  ·rintro _ _ _
   exact sr_binOp R hb
 | unOp op t x=>dsimp only;rw [he x h];exact sr_v sr_unary
 | convert s d x =>
  simp only [okOp,Bool.and_eq_true] at h
  dsimp only;rw [he x h.2];exact sr_v (sr_convert h.1)
 | makeFunc fn a b =>
  simp only [okOp,Bool.and_eq_true] at h
  dsimp only
  rw [map_eval he h.1.2,map_eval he h.2]
  refine sr_v (sr_pure ?_)
  rw [ren_func_none ρ (isTok_good h.1.1),renFn_good R h.1.1,renA_eq,renA_eq]
 | makeMap t r =>
  dsimp only
  rw [omap_eval he h]
  exact sr_v sr_makeMap
 | makeSlice t l c =>
  simp only [okOp,Bool.and_eq_true] at h
  dsimp only;rw [he l h.1.2,he c h.2];exact sr_v (sr_makeSlice h.1.1)
 | slice t x l hi m =>
  simp only [okOp,Bool.and_eq_true] at h
  dsimp only;rw [he x h.1.1.1,omap_eval he h.1.1.2,omap_eval he h.1.2,omap_eval he h.2];exact sr_v sr_sliceAt
 | fieldAddr t x f=>dsimp only;rw [he x h];exact sr_v sr_fieldAt
 | field t x f=>dsimp only;rw [he x h];exact sr_v sr_field
 | indexAddr t x i =>
  simp only [okOp,Bool.and_eq_true] at h
  dsimp only;rw [he x h.1,he i h.2];exact sr_v sr_indexAt
 | index t x i =>
  simp only [okOp,Bool.and_eq_true] at h
  dsimp only;rw [he x h.1,he i h.2];exact sr_v sr_index
 | lookup t x k ok =>
  simp only [okOp,Bool.and_eq_true] at h
  dsimp only;rw [he x h.1.2,he k h.2];exact sr_v (sr_lookup R h.1.1.1 h.1.1.2)
 | mapUpdate t m k x =>
  simp only [okOp,Bool.and_eq_true] at h
  dsimp only;rw [he m h.1.1.2,he k h.1.2,he x h.2];exact sr_u (sr_mapUpdate h.1.1.1.1 R h.1.1.1.2)
 | insert t m k x =>
  simp only [okOp,Bool.and_eq_true] at h
  dsimp only;rw [he m h.1.1.2,he k h.1.2,he x h.2];exact sr_u (sr_mapUpdate h.1.1.1.1 R h.1.1.1.2)
 | range t x=>dsimp only;rw [he x h];exact sr_v sr_range
 | next x b=>dsimp only;rw [he x h];exact sr_v sr_next
 | entry x=>dsimp only;rw [he x h];exact sr_v sr_entry
 | extract x i=>dsimp only;rw [he x h];exact sr_v sr_extract
 | call c =>
  obtain⟨cal,args,ats⟩:=c
  simp only [okOp,okCall,Bool.and_eq_true] at h
  dsimp only [resolve]
  rw [map_eval he h.1]
  cases cal with
  | value f =>
   dsimp only
   rw [show e' f=ren ρ (e f) from he f h.2]
   exact sr_callValue R hv
  | builtin b=>exact sr_builtin h.2
  | invoke=>cases h.2
 | _=>cases h
end
end Go.Con
