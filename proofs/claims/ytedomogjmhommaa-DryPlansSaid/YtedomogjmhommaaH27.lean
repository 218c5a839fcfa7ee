import Derived.Test.YtedomogjmhommaaH26
set_option linter.all false
set_option maxRecDepth 100000
set_option maxHeartbeats 8000000
namespace Go.Con
open Go
variable [Lone]
section
variable {P:Program} {mf:Md} {nc:Bool} {ρ:Rn} {K:Nat→Prop}
theorem ren_undef:ren ρ undef=undef:=by simp [undef,ren,zaD]
theorem zjN {fn:FuncId} {tmps:Array Value} {params:Array Tmp} {assign body:Code} {around:Option Nat} (h1:mf.okc assign=true) (h2:mf.okc body=true) :
  SR P mf nc ρ (fun a b=>b=(ρ.p a.1,a.2.map (zaE ρ))∧∀ d∈a.2,∃ r,d={ target:=.collected r,args:=#[] }) K
   (Instr.enterLoop fn tmps params assign body around) (Instr.enterLoop fn (tmps.map (ren ρ)) params assign body (around.map ρ.p)):=by
 unfold Instr.enterLoop
 have fin:∀ {K} (d:Nat) (mk:List Deferred),(∀ d∈mk,∃ r,d={ target:=.collected r,args:=#[] }) →
   SR P mf nc ρ (fun a b=>b=(ρ.p a.1,a.2.map (zaE ρ))∧∀ d∈a.2,∃ r,d={ target:=.collected r,args:=#[] }) K
   (do pure (← newObj (.loop { state:=.ready,pending:=none,fn,tmps,params,assign,body,defers:=d }),mk))
   (do pure (← newObj (.loop { state:=.ready,pending:=none,fn,tmps:=tmps.map (ren ρ),params,assign,body,defers:=ρ.p d }),mk.map (zaE ρ))):=by
  intro K d mk hm
  refine zad (zc8 (o:=.loop { state:=.ready,pending:=none,fn,tmps,params,assign,body,defers:=d }) ?_ rfl) ?_
  ·simp [zaG,Md.okl,h1,h2]
  ·rintro l _ rfl
   exact zaf ⟨rfl,hm⟩
 cases around with
 | some l =>
  dsimp only [Option.map_some]
  refine zc7 fun r hr=>?_
  exact fin r.defers [] (by simp)
 | none =>
  dsimp only [Option.map_none]
  refine zad (zc8 (o:=.deferred (some [])) rfl rfl) ?_
  rintro d _ rfl
  have:=fin (K:=K) d [{ target:=.collected d,args:=#[] }] (fun x hx=>⟨d,List.mem_singleton.1 hx⟩)
  simp only [List.map_cons,List.map_nil,zaE,zbw,Array.map_empty] at this
  exact this
theorem sr_beginRound {l:Nat}:SI P mf nc ρ K (Instr.beginRound l) (Instr.beginRound (ρ.p l)):=by
 unfold Instr.beginRound
 refine zc7 fun r hr=>?_
 refine zad (zbA (o:=.loop { r with state:=.busy }) (.inr rfl) hr rfl) ?_
 rintro _ _ rfl
 have e:(zcU ρ r).state=r.state:=rfl
 rw [e]
 cases r.state<;>first | exact zaf rfl | exact zaO
theorem zkN {l:Nat} {jump:Option Code} (h:jump.all mf.okc=true):SV P mf nc ρ K (Instr.endRound l jump) (Instr.endRound (ρ.p l) jump):=by
 unfold Instr.endRound
 refine zc7 fun r hr=>?_
 refine zad (zbA (o:=.loop { r with state:=if jump.isNone then .ready else .done,pending:=jump }) (.inr rfl) ?_ rfl) ?_
 ·simp only [zaG,Md.okl,Bool.and_eq_true] at hr ⊢
  exact⟨hr.1,h⟩
 ·rintro _ _ rfl
  exact zaf rfl
theorem zmr {l:Nat}:SR P mf nc ρ (fun a b=>b=a∧a.all mf.okc=true) K (Instr.endLoop l) (Instr.endLoop (ρ.p l)):=by
 unfold Instr.endLoop
 refine zc7 fun r hr=>?_
 have e:(zcU ρ r).state=r.state:=rfl
 have e2:(zcU ρ r).pending=r.pending:=rfl
 rw [e,e2]
 split
 ·exact .dead (zba (zax _))
 ·refine zad (zbA (o:=.loop { r with state:=.exhausted }) (.inr rfl) hr rfl) ?_
  rintro _ _ rfl
  refine zaf ⟨rfl,?_⟩
  simp only [Md.okl,Bool.and_eq_true] at hr
  exact hr.2
theorem zhc {b:Nat}:SR P mf nc ρ (fun x y=>x=[]∧y=[]) K (Instr.takeDeferred b) (Instr.takeDeferred (ρ.p b)):=by
 unfold Instr.takeDeferred
 refine zdn fun o ho hp=>?_
 cases o with
 | deferred c =>
  cases c with
  | none=>exact zah
  | some l =>
   cases l with
   | nil=>exact zad (zbA (o:=.deferred none) (.inr ⟨rfl,rfl⟩) rfl rfl) (by rintro _ _ rfl;exact zaf ⟨rfl,rfl⟩)
   | cons=>cases hp
 | _=>exact zah
theorem zn1 {α β:Type} {q:α→β→Prop} {γ:Type} {f:γ→Sem α} {f' : γ→Sem β} (h:∀ c,SR P mf nc ρ q K (f c) (f' c)):∀ (l:List γ),
  SR P mf nc ρ (fun (a:List α) (b:List β)=>a.length=b.length∧∀ (i:Nat) (x:α),a[i]?=some x→∃ y,b[i]?=some y∧q x y) K (l.mapM f) (l.mapM f')
 | []=>by
  rw [List.mapM_nil,List.mapM_nil]
  exact zaf ⟨rfl,fun i x h=>by simp at h⟩
 | c :: l=>by
  rw [List.mapM_cons,List.mapM_cons]
  refine zad (h c) fun a b hab=>?_
  refine zad (zn1 h l) fun as bs hs=>?_
  refine zaf ⟨by simp [hs.1],fun i x hx=>?_⟩
  cases i with
  | zero=>simp only [List.getElem?_cons_zero,Option.some.injEq] at hx;subst hx;exact⟨b,rfl,hab⟩
  | succ i=>simp only [List.getElem?_cons_succ] at hx ⊢;exact hs.2 i x hx
theorem zmC {fn:Func} {tmps:Array Value}:SV P mf nc ρ K (results fn tmps) (results fn (tmps.map (ren ρ))):=by
 unfold results
 have hm:SR P mf nc ρ (fun a b=>b=a.map (ren ρ)) K
   (fn.results.mapM fun | .tmp t=>pure (tmps.getD t undef) | .cell a t=>do loadVar t (← asAddr (tmps.getD a undef)))
   (fn.results.mapM fun | .tmp t=>pure ((tmps.map (ren ρ)).getD t undef) | .cell a t=>do loadVar t (← asAddr ((tmps.map (ren ρ)).getD a undef))):=by
  have hg:∀ t,(tmps.map (ren ρ)).getD t undef=ren ρ (tmps.getD t undef):=by
   intro t
   simp only [Array.getD_eq_getD_getElem?,Array.getElem?_map]
   cases tmps[t]? with
   | none=>exact ren_undef.symm
   | some v=>rfl
  rw [Array.mapM_eq_mapM_toList,Array.mapM_eq_mapM_toList]
  refine zad (zn1 (q:=fun a b=>b=ren ρ a) (fun c=>?_) fn.results.toList) ?_
  ·cases c with
   | tmp t=>exact zaf (hg t)
   | cell a t =>
    dsimp only
    rw [hg]
    refine zad zjL ?_
    rintro a _ rfl
    exact zh3
  ·intro as bs h
   refine zaf ?_
   have:bs=as.map (ren ρ):=by
    apply List.ext_getElem?
    intro i
    rw [List.getElem?_map]
    cases ha:as[i]? with
    | none =>
     have:=List.getElem?_eq_none_iff.1 ha
     rw [Option.map_none,List.getElem?_eq_none_iff]
     omega
    | some x =>
     obtain⟨y,hy,e⟩:=h.2 i x ha
     rw [hy,e];rfl
   rw [this]
   simp
 refine zad hm ?_
 rintro vs _ rfl
 refine zaf ?_
 by_cases h:vs.size=1
 ·simp [h]
 ·simp [h,ren,zaD]
end
end Go.Con
namespace Go.Con
open Go
variable [Lone]
section
variable (P:Program) (maps:Bool)
def zaS:Operand→Bool
 | .tmp _=>true
 | .const v=>zdp v
 | .global g=>decide (g<P.globals.size)
 | .func f=>zaR P (.func f)
def zjs (b:Builtin) (ats:Array TypeId):Bool:=match b with
 | .append=>zib P ats
 | .len=>zpX P ats
 | .max | .min=>true
 | _=>false
def zln (c:Call):Bool:=c.args.all (zaS P) && match c.callee with
 | .value f=>zaS P f
 | .builtin b=>zjs P b c.argTypes
 | .invoke ..=>false
def okOp:Op→Bool
 | .move x | .assign x | .box _ x | .load _ x | .nilCheck x | .unOp _ _ x | .fieldAddr _ x _ | .field _ x _ | .range _ x | .next x _ | .entry x | .extract x _=>zaS P x
 | .pick c a b=>zaS P c && zaS P a && zaS P b
 | .alloc e=>zOk P e
 | .build t ps=>zOk P t && ps.all fun p=>zaS P p.2
 | .buildSlice t _ ps=>ezOk P t && ps.all fun p=>zaS P p.2
 | .store _ a x | .indexAddr _ a x | .index _ a x=>zaS P a && zaS P x
 | .binOp op t x y _=>ziZ P op t && zaS P x && zaS P y
 | .convert s d x=>zm0 P s d && zaS P x
 | .makeFunc fn a b=>zaR P fn && a.all (zaS P) && b.all (zaS P)
 | .makeMap _ r=>r.all (zaS P)
 | .makeSlice t l c=>ezOk P t && zaS P l && zaS P c
 | .slice _ x l h m=>zaS P x && l.all (zaS P) && h.all (zaS P) && m.all (zaS P)
 | .lookup t x k _=>zl2 P t && ezOk P t && zaS P x && zaS P k
 | .mapUpdate t m k x | .insert t m k x=>maps && zl2 P t && zaS P m && zaS P k && zaS P x
 | .call c=>zln P c
 | _=>false
def zhp (e:Operand→Value):Op→Bool
 | .call { callee:=.value f,.. }=>zcs P (e f)
 | .nilCheck x=>zcs P (e x)
 | _=>true
end
section
variable {P:Program} {mf:Md} {nc:Bool} {ρ:Rn} {K:Nat→Prop} {e e' : Operand→Value}
theorem zf8 (he:∀ x,zaS P x=true→e' x=ren ρ (e x)) {xs:Array Operand} (h:xs.all (zaS P)=true):xs.map e'=(xs.map e).map (ren ρ):=by
 rw [Array.map_map]
 apply Array.map_congr_left
 intro x hx
 exact he x (Array.all_eq_true_iff_forall_mem.1 h x hx)
theorem zeU (he:∀ x,zaS P x=true→e' x=ren ρ (e x)) {x:Option Operand} (h:x.all (zaS P)=true):x.map e'=(x.map e).map (ren ρ):=by
 cases x with
 | none=>rfl
 | some x=>exact congrArg some (he x h)
theorem parts_eval (he:∀ x,zaS P x=true→e' x=ren ρ (e x)) {ps:Array (Nat×Operand)} (h:(ps.all fun p=>zaS P p.2)=true) :
  (ps.map fun (i,x)=>(i,e' x))=(ps.map fun (i,x)=>(i,e x)).map fun x=>(x.1,ren ρ x.2):=by
 rw [Array.map_map]
 apply Array.map_congr_left
 rintro ⟨i,x⟩ hx
 have:=Array.all_eq_true_iff_forall_mem.1 h _ hx
 simp only [Function.comp_apply,he x this]
theorem sr_v {s s' : Sem Value} (h:SV P mf nc ρ K s s'):SR P mf nc ρ (NextR P mf ρ) K (do pure (.value (← s))) (do pure (.value (← s'))) :=
 zad h (by rintro v _ rfl;exact zaf (NextR.value v))
theorem sr_u {s s' : Sem Unit} (h:SI P mf nc ρ K s s'):SR P mf nc ρ (NextR P mf ρ) K (do s;pure .skip) (do s';pure .skip) :=
 zad h (by rintro _ _ _;exact zaf NextR.skip)
theorem zmp {b:Builtin} {ats:Array TypeId} (h:zjs P b ats=true) {t:TypeId} {cs:Array Bool} {args:Array Value} :
  SR P mf nc ρ (NextR P mf ρ) K (builtin b ats t cs args) (builtin b ats t cs (args.map (ren ρ))):=by
 unfold builtin
 cases b<;>first | (cases h;done) | skip
 ·exact sr_v (znW h)
 ·exact sr_v (zqK h)
 ·exact sr_v zqL
 ·exact sr_v zqM
theorem zhW (R:RenOk P ρ) {fn:Fn} (h:zaR P fn=true):zd6 ρ fn=fn:=by
 cases fn<;>first | (cases h;done) | exact R.fixo _ h
theorem zhN {fn:Fn} {a b:Array Value} (h:zaR P fn=true):zem fn a b=none:=by
 cases fn<;>first | rfl | cases h
theorem zfE (R:RenOk P ρ) {f:Value} (h:zcs P f=true) {args:Array Value} :
  SR P mf nc ρ (NextR P mf ρ) K (do let d ← Deferred.ofValue f args;invoke d.target d.args) (do let d ← Deferred.ofValue (ren ρ f) (args.map (ren ρ));invoke d.target d.args):=by
 cases f with
 | func fn a b =>
  cases fn with
  | func g =>
   have hg:ρ.o (.func g)=.func g:=R.fixo _ h
   show SR P mf nc ρ (NextR P mf ρ) K (callFunc g ((a++args)++b)) (invoke (.fn (ρ.o (.func g)) (renA ρ b)) (renA ρ a++args.map (ren ρ)))
   rw [hg]
   exact zkM h (by simp [zaD])
  | yield l =>
   show SR P mf nc ρ (NextR P mf ρ) K (Instr.yield l (a++args)) (Instr.yield (ρ.p l) (renA ρ a++args.map (ren ρ)))
   have:=zpm (P:=P) (mf:=mf) (nc:=nc) (K:=K) (ρ:=ρ) (l:=l) (args:=a++args)
   rw [Array.map_append] at this
   rw [zaD]
   exact this
  | method s =>
   obtain⟨x,rfl,rfl⟩:=zbW h
   refine .dead ?_
   show Dead P (invoke (.fn (.method s) #[.chan (some x)]) (#[.nilIface]++args))
   have e:(#[Value.nilIface]++args)[0]?=some .nilIface:=by
    rw [Array.getElem?_append_left (by simp)];rfl
   unfold invoke
   rw [e]
   exact zax (P:=P) (α:=Next) .nilDeref
  | _=>cases h
 | nilFunc=>exact .dead (zax (P:=P) (α:=Next) .nilDeref)
 | _=>exact zah
theorem zjO (R:RenOk P ρ) (he:∀ x,zaS P x=true→e' x=ren ρ (e x)) {o:Oper} (h:okOp P mf.maps o.op=true) (hv:zhp P e o.op=true) :
  SR P mf nc ρ (NextR P mf ρ) K (execOp e o) (execOp e' o):=by
 unfold execOp
 obtain⟨dst,op,ty,pos,after,guard⟩:=o
 cases op with
 | move x=>dsimp only;rw [he x h];exact zaf (NextR.value _)
 | assign x=>dsimp only;rw [he x h];exact zaf (NextR.value _)
 | pick c a b =>
  simp only [okOp,Bool.and_eq_true] at h
  dsimp only
  rw [he c h.1.1,he a h.1.2,he b h.2]
  refine zad zg5 ?_
  rintro _ x rfl
  cases x<;>exact zaf (NextR.value _)
 | alloc t=>exact sr_v (zpa h)
 | box t x=>dsimp only;rw [he x h];exact sr_v zqJ
 | build t ps =>
  simp only [okOp,Bool.and_eq_true] at h
  dsimp only
  rw [parts_eval he h.2]
  exact sr_v (zpd h.1)
 | buildSlice t n ps =>
  simp only [okOp,Bool.and_eq_true] at h
  dsimp only
  rw [parts_eval he h.2]
  exact sr_v (ziI h.1)
 | load t x =>
  dsimp only;rw [he x h]
  refine sr_v (zad zcI ?_)
  rintro a _ rfl
  exact zh3
 | store t a x =>
  simp only [okOp,Bool.and_eq_true] at h
  dsimp only;rw [he a h.1,he x h.2]
  refine sr_u (zad zcI ?_)
  rintro a _ rfl
  exact zkQ
 | nilCheck x =>
  dsimp only;rw [he x h]
  have hv' : zcs P (e x)=true:=hv
  generalize e x=v at hv'
  cases v with
  | pointer a=>cases a<;>first | exact zaO | exact zaf (NextR.value _)
  | func fn a b =>
   cases fn with
   | func g =>
    have hg:ρ.o (.func g)=.func g:=R.fixo _ hv'
    have hn:=NextR.value (P:=P) (mf:=mf) (ρ:=ρ) (.func (.func g) a b)
    simp only [ren,zd6,hg] at hn ⊢
    exact zaf hn
   | yield l=>exact zaf (NextR.value (.func (.yield l) a b))
   | method s=>obtain⟨x,rfl,rfl⟩:=zbW hv';exact zaO
   | _=>cases hv'
  | chan r =>
   have hn:=NextR.value (P:=P) (mf:=mf) (ρ:=ρ) (.chan r)
   rcases zb2 ρ r with ⟨_,h⟩ | ⟨_,_,_,h⟩ | ⟨_,h⟩ | ⟨f,_,_,h,hf⟩ | ⟨_,h⟩
   ·rw [h] at hn ⊢;exact zaf hn
   ·rw [h] at hn ⊢;exact zaf hn
   ·rw [h] at hn ⊢;exact zaf hn
   ·rw [h] at hn ⊢
    cases f<;>first | exact zaf hn | exact (hf _ rfl).elim
   ·rw [h] at hn ⊢;exact zaf hn
  | nilIface=>exact zaO
  | nilFunc=>exact zaO
  | _=>exact zaf (NextR.value _)
 | binOp op t x y yt =>
  simp only [okOp,Bool.and_eq_true] at h
  dsimp only;rw [he x h.1.2,he y h.2]
  have hb:=h.1.1
  refine sr_v (zad (zms fun ho=>?_) ?_)
  ·rcases ho with rfl | rfl<;>exact hb
  ·rintro _ _ _
   exact zpc R hb
 | unOp op t x=>dsimp only;rw [he x h];exact sr_v zpl
 | convert s d x =>
  simp only [okOp,Bool.and_eq_true] at h
  dsimp only;rw [he x h.2];exact sr_v (zmq h.1)
 | makeFunc fn a b =>
  simp only [okOp,Bool.and_eq_true] at h
  dsimp only
  rw [zf8 he h.1.2,zf8 he h.2]
  refine sr_v (zaf ?_)
  rw [zeZ ρ (zhN h.1.1),zhW R h.1.1,zaD,zaD]
 | makeMap t r =>
  dsimp only
  rw [zeU he h]
  exact sr_v zmz
 | makeSlice t l c =>
  simp only [okOp,Bool.and_eq_true] at h
  dsimp only;rw [he l h.1.2,he c h.2];exact sr_v (zjP h.1.1)
 | slice t x l hi m =>
  simp only [okOp,Bool.and_eq_true] at h
  dsimp only;rw [he x h.1.1.1,zeU he h.1.1.2,zeU he h.1.2,zeU he h.2];exact sr_v zmD
 | fieldAddr t x f=>dsimp only;rw [he x h];exact sr_v zmv
 | field t x f=>dsimp only;rw [he x h];exact sr_v zpf
 | indexAddr t x i =>
  simp only [okOp,Bool.and_eq_true] at h
  dsimp only;rw [he x h.1,he i h.2];exact sr_v zmw
 | index t x i =>
  simp only [okOp,Bool.and_eq_true] at h
  dsimp only;rw [he x h.1,he i h.2];exact sr_v zpg
 | lookup t x k ok =>
  simp only [okOp,Bool.and_eq_true] at h
  dsimp only;rw [he x h.1.2,he k h.2];exact sr_v (zn0 R h.1.1.1 h.1.1.2)
 | mapUpdate t m k x =>
  simp only [okOp,Bool.and_eq_true] at h
  dsimp only;rw [he m h.1.1.2,he k h.1.2,he x h.2];exact sr_u (zfJ h.1.1.1.1 R h.1.1.1.2)
 | insert t m k x =>
  simp only [okOp,Bool.and_eq_true] at h
  dsimp only;rw [he m h.1.1.2,he k h.1.2,he x h.2];exact sr_u (zfJ h.1.1.1.1 R h.1.1.1.2)
 | range t x=>dsimp only;rw [he x h];exact sr_v zph
 | next x b=>dsimp only;rw [he x h];exact sr_v zqc
 | entry x=>dsimp only;rw [he x h];exact sr_v zpe
 | extract x i=>dsimp only;rw [he x h];exact sr_v zmu
 | call c =>
  obtain⟨cal,args,ats⟩:=c
  simp only [okOp,zln,Bool.and_eq_true] at h
  dsimp only [resolve]
  rw [zf8 he h.1]
  cases cal with
  | value f =>
   dsimp only
   rw [show e' f=ren ρ (e f) from he f h.2]
   exact zfE R hv
  | builtin b=>exact zmp h.2
  | invoke=>cases h.2
 | _=>cases h
end
end Go.Con
