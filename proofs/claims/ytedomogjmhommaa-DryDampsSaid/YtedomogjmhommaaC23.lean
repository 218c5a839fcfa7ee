import Derived.Calls
import Derived.CallsIn
import Derived.Conc.Neutral
import Derived.Laws.Sem
import GoSem.Dispatch
import Derived.KernelRfl
set_option linter.all false
set_option maxRecDepth 100000
set_option maxHeartbeats 8000000
namespace Go.Con
open Go
structure Rn where
 p:Nat→Nat
 c:Nat→Value
 o:Fn→Fn
def cellV:Value→Value
 | .pointer (some a)=>.pointer (some a)
 | .slice a n c=>.slice a n c
 | .map r=>.map r
 | .func (.method _) _ _=>.chan none
 | .func f a b=>.func f a b
 | .chan r=>.chan r
 | _=>.chan none
def isTok:Fn→Array Value→Array Value→Option Nat
 | .method _,⟨[.nilIface]⟩,⟨[.chan (some x)]⟩=>some x
 | _,_,_=>none
def methV:Value→Value
 | .func (.method s) a b=>.func (.method s) a b
 | _=>.func (.method "") #[] #[]
theorem methV_eq (v:Value):∃ s a b,methV v=.func (.method s) a b:=by
 unfold methV
 split<;>exact⟨_,_,_,rfl⟩
theorem isTok_some {fn:Fn} {a b:Array Value} {x:Nat} (h:isTok fn a b=some x):∃ s,fn=.method s∧a=#[.nilIface]∧b=#[.chan (some x)]:=by
 unfold isTok at h
 split at h
 ·cases h;exact⟨_,rfl,rfl,rfl⟩
 ·cases h
theorem cellV_cases (v:Value):(∃ a,cellV v=.pointer (some a))∨(∃ a n c,cellV v=.slice a n c)∨(∃ r,cellV v=.map r)∨(∃ f a b,cellV v=.func f a b∧∀ s,f≠.method s)∨∃ r,cellV v=.chan r:=by
 unfold cellV
 split<;>simp_all
theorem cellV_not (v:Value):(∀ c,cellV v≠.agg c)∧(∀ c,cellV v≠.tuple c):=by
 rcases cellV_cases v with ⟨_,h⟩ | ⟨_,_,_,h⟩ | ⟨_,h⟩ | ⟨_,_,_,h,_⟩ | ⟨_,h⟩<;>rw [h]<;>simp
def renAddr (ρ:Rn) (a:Addr):Addr:={ a with block:=ρ.p a.block }
def renFn (ρ:Rn):Fn→Fn
 | .yield l=>.yield (ρ.p l)
 | f=>ρ.o f
mutual
def ren (ρ:Rn):Value→Value
 | .pointer a=>.pointer (a.map (renAddr ρ))
 | .slice a n c=>.slice (a.map (renAddr ρ)) n c
 | .map r=>.map (r.map ρ.p)
 | .chan none=>.chan none
 | .chan (some x)=>cellV (ρ.c x)
 | .func fn first captured=>match isTok fn first captured with
  | some x=>methV (ρ.c x)
  | none=>.func (renFn ρ fn) (renA ρ first) (renA ρ captured)
 | .iface t v=>.iface t (ren ρ v)
 | .agg cs=>.agg (renA ρ cs)
 | .tuple vs=>.tuple (renA ρ vs)
 | .bool b=>.bool b
 | .int k n=>.int k n
 | .float k b=>.float k b
 | .complex k a b=>.complex k a b
 | .string s=>.string s
 | .nilFunc=>.nilFunc
 | .nilIface=>.nilIface
def renA (ρ:Rn):Array Value→Array Value
 | ⟨l⟩=>⟨renL ρ l⟩
def renL (ρ:Rn):List Value→List Value
 | []=>[]
 | v :: l=>ren ρ v :: renL ρ l
end
theorem ren_chan (ρ:Rn) (r:Option Nat):(∃ a,ren ρ (.chan r)=.pointer (some a))∨(∃ a n c,ren ρ (.chan r)=.slice a n c)∨(∃ r',ren ρ (.chan r)=.map r')∨(∃ f a b,ren ρ (.chan r)=.func f a b∧∀ s,f≠.method s)∨∃ r',ren ρ (.chan r)=.chan r':=by
 cases r with
 | none=>exact .inr (.inr (.inr (.inr ⟨none,by simp only [ren]⟩)))
 | some x=>simp only [ren];exact cellV_cases _
theorem ren_func (ρ:Rn) (fn:Fn) (a b:Array Value):∃ fn' a' b',ren ρ (.func fn a b)=.func fn' a' b':=by
 simp only [ren]
 split
 ·obtain⟨s,a',b',h⟩:=methV_eq (ρ.c _);exact⟨_,_,_,h⟩
 ·exact⟨_,_,_,rfl⟩
theorem ren_func_ne (ρ:Rn) (fn:Fn) (a b:Array Value):(∀ k n,ren ρ (.func fn a b)≠.int k n)∧(∀ s,ren ρ (.func fn a b)≠.string s)∧(∀ k s,ren ρ (.func fn a b)≠.float k s)∧(∀ k s q,ren ρ (.func fn a b)≠.complex k s q):=by
 obtain⟨_,_,_,h⟩:=ren_func ρ fn a b
 rw [h];simp
theorem ren_func_none (ρ:Rn) {fn:Fn} {a b:Array Value} (h:isTok fn a b=none):ren ρ (.func fn a b)=.func (renFn ρ fn) (renA ρ a) (renA ρ b):=by
 simp only [ren,h]
theorem ren_chan_ne (ρ:Rn) (r:Option Nat):(∀ k a,ren ρ (.chan r)≠.int k a)∧(∀ s,ren ρ (.chan r)≠.string s)∧(∀ k s,ren ρ (.chan r)≠.float k s)∧(∀ k s q,ren ρ (.chan r)≠.complex k s q):=by
 rcases ren_chan ρ r with ⟨_,h⟩ | ⟨_,_,_,h⟩ | ⟨_,h⟩ | ⟨_,_,_,h,_⟩ | ⟨_,h⟩<;>rw [h]<;>simp
theorem renL_eq (ρ:Rn):∀ l,renL ρ l=l.map (ren ρ)
 | []=>by simp [renL]
 | v :: l=>by simp [renL,renL_eq ρ l]
theorem renA_eq (ρ:Rn) (a:Array Value):renA ρ a=a.map (ren ρ):=by
 obtain⟨l⟩:=a
 simp [renA,renL_eq]
def renTarget (ρ:Rn):Target→Target
 | .fn f c=>.fn (renFn ρ f) (c.map (ren ρ))
 | .nil=>.nil
 | .builtin b a t c=>.builtin b a t c
 | .collected r=>.collected (ρ.p r)
 | .coroexit c=>.coroexit (ρ.p c)
def renDef (ρ:Rn) (d:Deferred):Deferred:={ target:=renTarget ρ d.target,args:=d.args.map (ren ρ) }
def renEntry (ρ:Rn) (e:MapEntry):MapEntry:={ key:=ren ρ e.key,val:=ren ρ e.val,born:=e.born }
def renLoop (ρ:Rn) (l:Loop):Loop:={ l with tmps:=l.tmps.map (ren ρ),defers:=ρ.p l.defers }
def renObj (ρ:Rn):Obj→Obj
 | .cells c e fz=>.cells (c.map (ren ρ)) e fz
 | .pending c e=>.pending (c.map (ren ρ)) e
 | .view a t=>.view (renAddr ρ a) t
 | .number a l=>.number (renAddr ρ a) l
 | .map es c=>.map (es.map (renEntry ρ)) c
 | .chan cap buf cl s r tm=>.chan cap (buf.map (ren ρ)) cl s r tm
 | .stringIter s p=>.stringIter s p
 | .mapIter m a b c=>.mapIter (m.map ρ.p) a b c
 | .loop l=>.loop (renLoop ρ l)
 | .deferred c=>.deferred (c.map (·.map (renDef ρ)))
 | .coro p=>.coro p
 | .finalizers f r=>.finalizers f r
class Lone where
 v:FuncId→Bool
 lm:Bool
variable [Lone]
def goodFn (P:Program):Fn→Bool
 | .func f=>match P.funcs[f]? with
  | some fn=>fn.body.isSome && fn.name != "runtime.NumGoroutine" && Lone.v f
  | none=>false
 | _=>false
structure Md where
 maps:Bool
 okc:Code→Bool
def Md.okl (mf:Md) (l:Loop):Bool:=mf.okc l.assign && mf.okc l.body && l.pending.all mf.okc
inductive NextR (P:Program) (mf:Md) (ρ:Rn):Next→Next→Prop
 | value (v:Value):NextR P mf ρ (.value v) (.value (ren ρ v))
 | skip:NextR P mf ρ .skip .skip
 | enter (f:FuncId) (args:Array Value) (hg:goodFn P (.func f)=true):NextR P mf ρ (.enter f args) (.enter f (args.map (ren ρ)))
 | round (l:Nat) (f:FuncId) (tmps:Array Value) (a b:Code) (h:∃ r,mf.okl r=true∧r.fn=f∧r.assign=a∧r.body=b):NextR P mf ρ (.round l f tmps a b) (.round (ρ.p l) f (tmps.map (ren ρ)) a b)
def noDef:Obj→Bool
 | .deferred (some (_ :: _))=>false
 | _=>true
def okHalt:Halt→Prop
 | .panic _ | .stuck _=>True
 | .unsupported (.initOrder _)=>False
 | .unsupported _=>True
 | _=>False
def Calm (P:Program) {α:Type}:Sem α→Prop
 | .pure _=>True
 | .load .. | .store .. | .getObj .. | .setObj .. | .sys ..=>False
 | .new o k=>noDef o=true∧∀ b,Calm P (k b)
 | .shape _ k=>∀ s,Calm P (k s)
 | .freeze _ _ k=>Calm P k
 | .frozen _ k=>∀ b,Calm P (k b)
 | .choose _ k=>∀ n,Calm P (k n)
 | .program k=>Calm P (k P)
 | .mark _ k=>Calm P k
 | .halt h=>okHalt h
def Dead (P:Program) {α:Type}:Sem α→Prop
 | .pure _=>False
 | .load .. | .store .. | .getObj .. | .setObj .. | .sys ..=>False
 | .new o k=>noDef o=true∧∀ b,Dead P (k b)
 | .shape _ k=>∀ s,Dead P (k s)
 | .freeze _ _ k=>Dead P k
 | .frozen _ k=>∀ b,Dead P (k b)
 | .choose _ k=>∀ n,Dead P (k n)
 | .program k=>Dead P (k P)
 | .mark _ k=>Dead P k
 | .halt h=>okHalt h
def isChanB:Obj→Bool
 | .chan ..=>true
 | _=>false
def plainObj (mf:Md):Obj→Bool
 | .view .. | .pending ..=>false
 | .loop l=>mf.okl l
 | .deferred c=>(match c with | some (_ :: _)=>false | _=>true)
 | _=>true
def freeObj (mf:Md):Obj→Bool
 | .map ..=>mf.maps
 | .loop _ | .mapIter .. | .stringIter .. | .deferred _=>true
 | _=>false
def chanInj (ρ:Rn):Prop:=∃ f:Nat→Nat,(∀ x,ρ.c x=.chan (some (f x)))∧∀ x y,f x=f y→x=y
inductive SR (P:Program) (mf:Md) (nc:Bool) (ρ:Rn) {α β:Type} (r:α→β→Prop):(Nat→Prop)→Sem α→Sem β→Prop
 | dead {K:Nat→Prop} {s:Sem α} {s' : Sem β} (h:Dead P s):SR P mf nc ρ r K s s'
 | pure {K:Nat→Prop} {a:α} {b:β} (h:r a b):SR P mf nc ρ r K (.pure a) (.pure b)
 | load {K:Nat→Prop} {a:Addr} {k:Value→Sem α} {k' : Value→Sem β} (h:∀ v,SR P mf nc ρ r K (k v) (k' (ren ρ v))):SR P mf nc ρ r K (.load .plain a k) (.load .plain (renAddr ρ a) k')
 | store {K:Nat→Prop} {a:Addr} {v:Value} {k:Sem α} {k' : Sem β} (h:SR P mf nc ρ r K k k'):SR P mf nc ρ r K (.store .plain a v k) (.store .plain (renAddr ρ a) (ren ρ v) k')
 | new {K:Nat→Prop} {o:Obj} {k:Nat→Sem α} {k' : Nat→Sem β} (ho:plainObj mf o=true) (hc:isChanB o=false) (h:∀ b,SR P mf nc ρ r (fun x=>K x∨x=b) (k b) (k' (ρ.p b))):SR P mf nc ρ r K (.new o k) (.new (renObj ρ o) k')
 | shape {K:Nat→Prop} {b:Nat} {k:Option (TypeId×Nat)→Sem α} {k' : Option (TypeId×Nat)→Sem β} (h:∀ s,SR P mf nc ρ r K (k s) (k' s)):SR P mf nc ρ r K (.shape b k) (.shape (ρ.p b) k')
 | freeze {K:Nat→Prop} {a:Addr} {n:Nat} {k:Sem α} {k' : Sem β} (hK:K a.block) (h:SR P mf nc ρ r K k k'):SR P mf nc ρ r K (.freeze a n k) (.freeze (renAddr ρ a) n k')
 | frozen {K:Nat→Prop} {a:Addr} {k:Bool→Sem α} {k' : Bool→Sem β} (h:∀ x y,SR P mf nc ρ r K (k x) (k' y)):SR P mf nc ρ r K (.frozen a k) (.frozen (renAddr ρ a) k')
 | getObj {K:Nat→Prop} {b:Nat} {k:Obj→Sem α} {k' : Obj→Sem β} (h:∀ o,isChanB o=false→plainObj mf o=true→SR P mf nc ρ r (fun x=>K x∨(x=b∧freeObj mf o=true)) (k o) (k' (renObj ρ o))):SR P mf nc ρ r K (.getObj b k) (.getObj (ρ.p b) k')
 | setObj {K:Nat→Prop} {b:Nat} {o:Obj} {k:Sem α} {k' : Sem β} (hK:K b) (ho:plainObj mf o=true) (hc:isChanB o=false) (h:SR P mf nc ρ r K k k'):SR P mf nc ρ r K (.setObj b o k) (.setObj (ρ.p b) (renObj ρ o) k')
 | choose {K:Nat→Prop} {q:Question} {k:Nat→Sem α} {k' : Nat→Sem β} (h:∀ n,SR P mf nc ρ r K (k n) (k' n)):SR P mf nc ρ r K (.choose q k) (.choose q k')
 | chooseL {K:Nat→Prop} {q:Question} {k:Nat→Sem α} {s' : Sem β} (hn:¬ chanInj ρ) (h0:q.cut 0=0) (h:SR P mf nc ρ r K (k 0) s'):SR P mf nc ρ r K (.choose q k) s'
 | chooseR {K:Nat→Prop} {q:Question} {s:Sem α} {k' : Nat→Sem β} (hn:¬ chanInj ρ) (h:∀ n,SR P mf nc ρ r K s (k' n)):SR P mf nc ρ r K s (.choose q k')
 | program {K:Nat→Prop} {k:Program→Sem α} {k' : Program→Sem β} (h:SR P mf nc ρ r K (k P) (k' P)):SR P mf nc ρ r K (.program k) (.program k')
 | mark {K:Nat→Prop} {k:Sem α} {k' : Sem β} (h:SR P mf nc ρ r K k k'):SR P mf nc ρ r K (.mark .noRoom k) (.mark .noRoom k')
section
variable {P:Program} {mf:Md} {nc:Bool} {ρ:Rn}
theorem Dead.bind {α β:Type} {f:α→Sem β}:∀ {s:Sem α},Dead P s→Dead P (s.bind f)
 | .pure _,h=>h.elim
 | .load _ _ _,h=>h.elim
 | .store _ _ _ _,h=>h.elim
 | .new _ _,h=>⟨h.1,fun v=>Dead.bind (h.2 v)⟩
 | .shape _ _,h=>fun v=>Dead.bind (h v)
 | .freeze _ _ k,h=>Dead.bind (s:=k) h
 | .frozen _ _,h=>fun v=>Dead.bind (h v)
 | .getObj _ _,h=>h.elim
 | .setObj _ _ _,h=>h.elim
 | .choose _ _,h=>fun v=>Dead.bind (h v)
 | .sys _ _,h=>h.elim
 | .program k,h=>Dead.bind (s:=k P) h
 | .mark _ k,h=>Dead.bind (s:=k) h
 | .halt _,h=>h
theorem Dead.bind_right {α β:Type} {f:α→Sem β} (hf:∀ a,Dead P (f a)):∀ {s:Sem α},Calm P s→Dead P (s.bind f)
 | .pure a,_=>hf a
 | .load _ _ _,h=>h.elim
 | .store _ _ _ _,h=>h.elim
 | .new _ _,h=>⟨h.1,fun v=>Dead.bind_right hf (h.2 v)⟩
 | .shape _ _,h=>fun v=>Dead.bind_right hf (h v)
 | .freeze _ _ k,h=>Dead.bind_right (s:=k) hf h
 | .frozen _ _,h=>fun v=>Dead.bind_right hf (h v)
 | .getObj _ _,h=>h.elim
 | .setObj _ _ _,h=>h.elim
 | .choose _ _,h=>fun v=>Dead.bind_right hf (h v)
 | .sys _ _,h=>h.elim
 | .program k,h=>Dead.bind_right (s:=k P) hf h
 | .mark _ k,h=>Dead.bind_right (s:=k) hf h
 | .halt _,h=>h
theorem SR.weaken {α β:Type} {r:α→β→Prop} {K:Nat→Prop} {s:Sem α} {s' : Sem β} (h:SR P mf nc ρ r K s s'):∀ {K' : Nat→Prop},(∀ x,K x→K' x)→SR P mf nc ρ r K' s s':=by
 induction h with
 | dead h=>exact fun _=>.dead h
 | pure h=>exact fun _=>.pure h
 | load _ ih=>exact fun hk=>.load fun v=>ih v hk
 | store _ ih=>exact fun hk=>.store (ih hk)
 | new ho hc _ ih=>exact fun hk=>.new ho hc fun b=>ih b fun x hx=>hx.imp (hk x) id
 | shape _ ih=>exact fun hk=>.shape fun s=>ih s hk
 | freeze hK _ ih=>exact fun hk=>.freeze (hk _ hK) (ih hk)
 | frozen _ ih=>exact fun hk=>.frozen fun x y=>ih x y hk
 | getObj _ ih=>exact fun hk=>.getObj (fun o ho hp=>ih o ho hp fun x hx=>hx.imp (hk x) id)
 | setObj hK ho hc _ ih=>exact fun hk=>.setObj (hk _ hK) ho hc (ih hk)
 | choose _ ih=>exact fun hk=>.choose fun n=>ih n hk
 | chooseL hn h0 _ ih=>exact fun hk=>.chooseL hn h0 (ih hk)
 | chooseR hn _ ih=>exact fun hk=>.chooseR hn fun n=>ih n hk
 | program _ ih=>exact fun hk=>.program (ih hk)
 | mark _ ih=>exact fun hk=>.mark (ih hk)
theorem SR.bind {α β γ δ:Type} {r:α→β→Prop} {q:γ→δ→Prop} {K:Nat→Prop} {s:Sem α} {s' : Sem β} (h:SR P mf nc ρ r K s s') :
  ∀ {f:α→Sem γ} {f' : β→Sem δ},(∀ a b,r a b→SR P mf nc ρ q K (f a) (f' b))→SR P mf nc ρ q K (s.bind f) (s'.bind f'):=by
 induction h with
 | dead h=>exact fun _=>.dead h.bind
 | pure h=>exact fun hf=>hf _ _ h
 | load _ ih=>exact fun hf=>.load fun v=>ih v hf
 | store _ ih=>exact fun hf=>.store (ih hf)
 | new ho hc _ ih=>exact fun hf=>.new ho hc fun b=>ih b fun x y hr=>(hf x y hr).weaken fun _ h=>.inl h
 | shape _ ih=>exact fun hf=>.shape fun s=>ih s hf
 | freeze hK _ ih=>exact fun hf=>.freeze hK (ih hf)
 | frozen _ ih=>exact fun hf=>.frozen fun x y=>ih x y hf
 | getObj _ ih=>exact fun hf=>.getObj (fun o ho hp=>ih o ho hp fun x y hr=>(hf x y hr).weaken fun _ h=>.inl h)
 | setObj hK ho hc _ ih=>exact fun hf=>.setObj hK ho hc (ih hf)
 | choose _ ih=>exact fun hf=>.choose fun n=>ih n hf
 | chooseL hn h0 _ ih=>exact fun hf=>.chooseL hn h0 (ih hf)
 | chooseR hn _ ih=>exact fun hf=>.chooseR hn fun n=>ih n hf
 | program _ ih=>exact fun hf=>.program (ih hf)
 | mark _ ih=>exact fun hf=>.mark (ih hf)
theorem SR.mono {α β:Type} {r q:α→β→Prop} {K:Nat→Prop} {s:Sem α} {s' : Sem β} (h:SR P mf nc ρ r K s s') (hq:∀ a b,r a b→q a b):SR P mf nc ρ q K s s':=by
 induction h with
 | dead h=>exact .dead h
 | pure h=>exact .pure (hq _ _ h)
 | load _ ih=>exact .load ih
 | store _ ih=>exact .store ih
 | new ho hc _ ih=>exact .new ho hc ih
 | shape _ ih=>exact .shape ih
 | freeze hK _ ih=>exact .freeze hK ih
 | frozen _ ih=>exact .frozen ih
 | getObj _ ih=>exact .getObj ih
 | setObj hK ho hc _ ih=>exact .setObj hK ho hc ih
 | choose _ ih=>exact .choose ih
 | chooseL hn h0 _ ih=>exact .chooseL hn h0 ih
 | chooseR hn _ ih=>exact .chooseR hn ih
 | program _ ih=>exact .program ih
 | mark _ ih=>exact .mark ih
end
end Go.Con
namespace Go.Con
open Go
variable [Lone]
structure RenOk (P:Program) (ρ:Rn):Prop where
 inj:∀ x y,ρ.p x=ρ.p y→x=y
 fix:∀ b,b<P.globals.size→ρ.p b=b
 fixo:∀ f,goodFn P f=true→ρ.o f=f
theorem RenOk.lt {P:Program} {ρ:Rn} (R:RenOk P ρ) (b:Nat):ρ.p b<P.globals.size↔b<P.globals.size:=by
 constructor
 ·intro h
  have:=R.fix _ h
  rw [R.inj _ _ this] at h
  exact h
 ·intro h;rw [R.fix _ h];exact h
section
variable {P:Program} {mf:Md} {nc:Bool} {ρ:Rn} {K:Nat→Prop}
variable (P mf nc ρ) in
abbrev SV (K:Nat→Prop) (s s' : Sem Value):Prop:=SR P mf nc ρ (fun a b=>b=ren ρ a) K s s'
variable (P mf nc ρ) in
abbrev SI {α:Type} (K:Nat→Prop) (s s' : Sem α):Prop:=SR P mf nc ρ (fun a b=>b=a) K s s'
theorem sr_bind {α β γ δ:Type} {r:α→β→Prop} {q:γ→δ→Prop} {s:Sem α} {s' : Sem β} {f:α→Sem γ} {f' : β→Sem δ} (h:SR P mf nc ρ r K s s') (hf:∀ a b,r a b→SR P mf nc ρ q K (f a) (f' b)) :
  SR P mf nc ρ q K (s >>= f) (s' >>= f'):=SR.bind h hf
theorem sr_pure {α β:Type} {r:α→β→Prop} {a:α} {b:β} (h:r a b):SR P mf nc ρ r K (pure a) (pure b):=.pure h
theorem sr_stuck {α β:Type} {r:α→β→Prop} {why:String} {s' : Sem β}:SR P mf nc ρ r K (stuck why:Sem α) s':=.dead trivial
theorem sr_unsupported {α β:Type} {r:α→β→Prop} {u:Unsupported} {s' : Sem β} (hu:okHalt (.unsupported u):=by trivial):SR P mf nc ρ r K (unsupported u:Sem α) s':=.dead hu
theorem dead_bind {α β:Type} {s:Sem α} {f:α→Sem β} (h:Dead P s):Dead P (s >>= f):=Dead.bind h
theorem dead_after {α β:Type} {s:Sem α} {f:α→Sem β} (hs:Calm P s) (h:∀ a,Dead P (f a)):Dead P (s >>= f):=Dead.bind_right h hs
theorem Calm.bind {α β:Type} {f:α→Sem β} (hf:∀ a,Calm P (f a)):∀ {s:Sem α},Calm P s→Calm P (s.bind f)
 | .pure a,_=>hf a
 | .load _ _ _,h=>h.elim
 | .store _ _ _ _,h=>h.elim
 | .new _ _,h=>⟨h.1,fun v=>Calm.bind hf (h.2 v)⟩
 | .shape _ _,h=>fun v=>Calm.bind hf (h v)
 | .freeze _ _ k,h=>Calm.bind (s:=k) hf h
 | .frozen _ _,h=>fun v=>Calm.bind hf (h v)
 | .getObj _ _,h=>h.elim
 | .setObj _ _ _,h=>h.elim
 | .choose _ _,h=>fun v=>Calm.bind hf (h v)
 | .sys _ _,h=>h.elim
 | .program k,h=>Calm.bind (s:=k P) hf h
 | .mark _ k,h=>Calm.bind (s:=k) hf h
 | .halt _,h=>h
theorem calm_bind {α β:Type} {s:Sem α} {f:α→Sem β} (hs:Calm P s) (hf:∀ a,Calm P (f a)):Calm P (s >>= f):=Calm.bind hf hs
theorem calm_typeInfo (t:TypeId):Calm P (typeInfo t):=by
 unfold typeInfo
 refine calm_bind trivial fun p=>?_
 split<;>trivial
theorem calm_typeStr (t:TypeId):Calm P (typeStr t):=by
 unfold typeStr
 refine calm_bind (calm_typeInfo t) fun p=>?_
 dsimp only
 split<;>trivial
theorem calm_underlying (t:TypeId):Calm P (underlying t):=by
 unfold underlying
 refine calm_bind trivial fun p=>?_
 split<;>trivial
theorem calm_elemOf (t:TypeId):Calm P (elemOf t):=by
 unfold elemOf
 refine calm_bind (calm_underlying t) fun p=>?_
 split<;>trivial
theorem dead_runtimePanic {α:Type} (e:RuntimeError):Dead P (runtimePanic e:Sem α):=by
 unfold runtimePanic
 refine dead_after trivial fun p=>?_
 cases e<;>first
  | exact trivial
  | exact dead_after (calm_elemOf _) fun _=>dead_after ⟨rfl,fun _=>trivial⟩ fun _=>trivial
theorem sr_runtimePanic {α β:Type} {r:α→β→Prop} {e:RuntimeError} {s' : Sem β}:SR P mf nc ρ r K (runtimePanic e:Sem α) s':=.dead (dead_runtimePanic e)
theorem dead_boundsPanic {α:Type} (k:IntKind) (x y:Int) (c:BoundsCode):Dead P (boundsPanic k x y c:Sem α):=by
 unfold boundsPanic
 simp only
 split<;>exact dead_after (by first | exact trivial | exact fun _=>trivial) fun _=>dead_runtimePanic _
theorem sr_boundsPanic {α β:Type} {r:α→β→Prop} {k:IntKind} {x y:Int} {c:BoundsCode} {s' : Sem β}:SR P mf nc ρ r K (boundsPanic k x y c:Sem α) s':=.dead (dead_boundsPanic ..)
variable (P) in
inductive Info {α:Type}:Sem α→Prop
 | pure (a:α):Info (.pure a)
 | program {k:Program→Sem α} (h:Info (k P)):Info (.program k)
 | choose {q:Question} {k:Nat→Sem α} (h:∀ n,Info (k n)):Info (.choose q k)
 | halt (h:Halt) (hh:okHalt h):Info (.halt h)
theorem Info.sr {α:Type} {s:Sem α} (h:Info P s):SI P mf nc ρ K s s:=by
 induction h with
 | pure a=>exact .pure rfl
 | program _ ih=>exact .program ih
 | choose _ ih=>exact .choose ih
 | halt h hh=>exact .dead hh
theorem Info.bind {α β:Type} {s:Sem α} {f:α→Sem β} (h:Info P s) (hf:∀ a,Info P (f a)):Info P (s >>= f):=by
 induction h with
 | pure a=>exact hf a
 | program _ ih=>exact .program ih
 | choose _ ih=>exact .choose ih
 | halt h hh=>exact .halt h hh
theorem info_pure {α:Type} (a:α):Info P (pure a:Sem α):=.pure a
theorem info_stuck {α:Type} (w:String):Info P (stuck w:Sem α):=.halt _ trivial
theorem info_choose (q:Question):Info P (choose q):=.choose fun _=>.pure _
theorem info_program:Info P program:=.program (.pure _)
theorem info_typeInfo (t:TypeId):Info P (typeInfo t):=by
 unfold typeInfo
 refine info_program.bind fun p=>?_
 split
 ·exact .pure _
 ·exact .halt _ trivial
theorem info_underlying (t:TypeId):Info P (underlying t):=by
 unfold underlying
 refine info_program.bind fun p=>?_
 split
 ·exact .pure _
 ·exact .halt _ trivial
theorem info_sizeOf (t:TypeId):Info P (sizeOf t):=(info_typeInfo t).bind fun _=>.pure _
theorem info_isAgg (t:TypeId):Info P (isAgg t):=by
 unfold isAgg
 refine (info_underlying t).bind fun d=>?_
 split<;>exact .pure _
theorem info_mapM {α β:Type} {f:α→Sem β} (hf:∀ a,Info P (f a)) (xs:Array α):Info P (xs.mapM f):=by
 rw [Array.mapM_eq_foldlM_push,← Array.foldlM_toList]
 generalize (#[]:Array β)=acc
 induction xs.toList generalizing acc with
 | nil=>exact .pure _
 | cons a l ih =>
  rw [List.foldlM_cons]
  refine Info.bind ?_ fun b=>ih b
  exact (hf a).bind fun _=>.pure _
mutual
def noAddr:Value→Bool
 | .pointer a=>a.isNone
 | .slice a _ _=>a.isNone
 | .map r=>r.isNone
 | .chan r=>r.isNone
 | .func ..=>false
 | .iface _ v=>noAddr v
 | .agg cs=>noAddrA cs
 | .tuple vs=>noAddrA vs
 | .bool _ | .int .. | .float .. | .complex .. | .string _ | .nilFunc | .nilIface=>true
def noAddrA:Array Value→Bool
 | ⟨l⟩=>noAddrL l
def noAddrL:List Value→Bool
 | []=>true
 | v :: l=>noAddr v && noAddrL l
end
mutual
theorem ren_noAddr (ρ:Rn):∀ v,noAddr v=true→ren ρ v=v
 | .pointer a,h=>by cases a<;>simp_all [noAddr,ren]
 | .slice a _ _,h=>by cases a<;>simp_all [noAddr,ren]
 | .map r,h=>by cases r<;>simp_all [noAddr,ren]
 | .chan r,h=>by cases r<;>simp_all [noAddr,ren]
 | .func ..,h=>by cases h
 | .iface _ v,h=>by simp only [noAddr] at h;simp only [ren,ren_noAddr ρ v h]
 | .agg cs,h=>by simp only [noAddr] at h;simp only [ren,ren_noAddrA ρ cs h]
 | .tuple cs,h=>by simp only [noAddr] at h;simp only [ren,ren_noAddrA ρ cs h]
 | .bool _,_ | .int ..,_ | .float ..,_ | .complex ..,_ | .string _,_ | .nilFunc,_ | .nilIface,_=>rfl
theorem ren_noAddrA (ρ:Rn):∀ a,noAddrA a=true→renA ρ a=a
 | ⟨l⟩,h=>by simp only [noAddrA] at h;simp only [renA,ren_noAddrL ρ l h]
theorem ren_noAddrL (ρ:Rn):∀ l,noAddrL l=true→renL ρ l=l
 | [],_=>rfl
 | v :: l,h=>by
  simp only [noAddrL,Bool.and_eq_true] at h
  simp only [renL,ren_noAddr ρ v h.1,ren_noAddrL ρ l h.2]
end
variable (P) in
def zOk (t:TypeId):Bool:=match P.info? t with
 | some i=>(match i.zero with | some v=>noAddr v | none=>true)
 | none=>true
theorem sr_zeroValue {t:TypeId} (h:zOk P t=true):SV P mf nc ρ K (zeroValue t) (zeroValue t):=by
 unfold zeroValue
 have h1:SR P mf nc ρ (fun a b=>b=a∧P.info? t=some a) K (typeInfo t) (typeInfo t):=by
  unfold typeInfo
  refine .program ?_
  show SR _ _ _ _ _ _ (match P.info? t with | some i=>pure i | none=>stuck "no such type") (match P.info? t with | some i=>pure i | none=>stuck "no such type")
  cases P.info? t with
  | none=>exact sr_stuck
  | some i=>exact sr_pure ⟨rfl,rfl⟩
 refine sr_bind h1 ?_
 rintro _ i ⟨rfl,hi⟩
 simp only [zOk,hi] at h
 cases hz:i.zero with
 | none=>exact sr_unsupported
 | some v=>rw [hz] at h;exact sr_pure (ren_noAddr ρ v h).symm
theorem cells_cellV (v:Value):(cellV v).cells=#[cellV v]:=by
 rcases cellV_cases v with ⟨_,h⟩ | ⟨_,_,_,h⟩ | ⟨_,h⟩ | ⟨_,_,_,h,_⟩ | ⟨_,h⟩<;>rw [h]<;>rfl
theorem ren_agg_inv {v:Value}:(ren ρ v).cells=v.cells.map (ren ρ):=by
 cases v with
 | chan r =>
  cases r with
  | none=>simp [ren,Value.cells]
  | some x =>
   show (ren ρ (.chan (some x))).cells=#[Value.chan (some x)].map (ren ρ)
   rw [Array.map_singleton,ren,cells_cellV]
 | func fn a b =>
  obtain⟨fn',a',b',h⟩:=ren_func ρ fn a b
  show (ren ρ (.func fn a b)).cells=#[Value.func fn a b].map (ren ρ)
  rw [Array.map_singleton,h]
  rfl
 | _=>simp [ren,Value.cells,renA_eq]
theorem sr_asIntOf {v:Value}:SI P mf nc ρ K (asIntOf v) (asIntOf (ren ρ v)):=by
 unfold asIntOf
 cases v<;>first | exact sr_stuck | exact sr_pure rfl | (rename_i a;cases a<;>first | exact sr_stuck | exact sr_unsupported)
theorem sr_asInt {v:Value}:SI P mf nc ρ K (asInt v) (asInt (ren ρ v)):=by
 unfold asInt
 exact sr_bind sr_asIntOf (by rintro a _ rfl;exact sr_pure rfl)
theorem sr_asBool {v:Value}:SI P mf nc ρ K (asBool v) (asBool (ren ρ v)):=by
 unfold asBool
 cases v<;>first | exact sr_stuck | exact sr_pure rfl
theorem sr_asAddr {v:Value}:SR P mf nc ρ (fun a b=>b=renAddr ρ a) K (asAddr v) (asAddr (ren ρ v)):=by
 unfold asAddr
 cases v<;>first | exact sr_stuck | (rename_i a;cases a<;>first | exact sr_runtimePanic | exact sr_pure rfl)
theorem sr_sureAddr {v:Value}:SR P mf nc ρ (fun a b=>b=renAddr ρ a) K (Instr.sureAddr v) (Instr.sureAddr (ren ρ v)):=by
 unfold Instr.sureAddr
 cases v<;>first | exact sr_stuck | (rename_i a;cases a<;>first | exact sr_stuck | exact sr_pure rfl)
theorem renAddr_add (a:Addr) (n:Nat):(renAddr ρ a).add n=renAddr ρ (a.add n):=by
 unfold Addr.add
 split<;>rfl
theorem sr_load {a:Addr}:SV P mf nc ρ K (load a) (load (renAddr ρ a)):=.load fun _=>.pure rfl
theorem sr_store {a:Addr} {v:Value}:SI P mf nc ρ K (store a v) (store (renAddr ρ a) (ren ρ v)):=.store (.pure rfl)
theorem sr_loadCellsFrom {a:Addr} {n:Nat}:∀ {i:Nat} {acc:Array Value},SR P mf nc ρ (fun x y=>y=x.map (ren ρ)) K (loadCellsFrom a i n acc) (loadCellsFrom (renAddr ρ a) i n (acc.map (ren ρ))):=by
 induction n with
 | zero=>exact sr_pure rfl
 | succ n ih =>
  intro i acc
  refine sr_bind (by rw [renAddr_add];exact sr_load) ?_
  rintro v _ rfl
  have:=ih (i:=i+1) (acc:=acc.push v)
  rw [Array.map_push] at this
  exact this
theorem sr_loadCells {a:Addr} {n:Nat}:SR P mf nc ρ (fun x y=>y=x.map (ren ρ)) K (loadCells a n) (loadCells (renAddr ρ a) n):=by
 have:=sr_loadCellsFrom (P:=P) (mf:=mf) (nc:=nc) (K:=K) (ρ:=ρ) (a:=a) (n:=n) (i:=0) (acc:=#[])
 simp only [Array.map_empty] at this
 exact this
theorem sr_storeCells {a:Addr}:∀ {vs:List Value} {i:Nat},SI P mf nc ρ K (storeCells a vs i) (storeCells (renAddr ρ a) (vs.map (ren ρ)) i)
 | [],_=>sr_pure rfl
 | v :: rest,i=>by
  refine sr_bind (by rw [renAddr_add];exact sr_store) ?_
  rintro _ _ rfl
  exact sr_storeCells
theorem sr_loadVar {t:TypeId} {a:Addr}:SV P mf nc ρ K (loadVar t a) (loadVar t (renAddr ρ a)):=by
 unfold loadVar
 refine sr_bind (info_isAgg t).sr ?_
 rintro _ b rfl
 cases b
 ·exact sr_load
 ·refine sr_bind (info_sizeOf t).sr ?_
  rintro _ n rfl
  refine sr_bind sr_loadCells ?_
  rintro cs _ rfl
  exact sr_pure (by simp [ren,renA_eq])
theorem sr_storeVar {t:TypeId} {a:Addr} {v:Value}:SI P mf nc ρ K (storeVar t a v) (storeVar t (renAddr ρ a) (ren ρ v)):=by
 unfold storeVar
 refine sr_bind (info_sizeOf t).sr ?_
 rintro _ n rfl
 rw [ren_agg_inv,Array.size_map,Array.toList_map]
 split
 ·exact sr_stuck
 ·exact sr_storeCells
theorem sr_newObj {o:Obj} (h:plainObj mf o=true) (hc:isChanB o=false):SR P mf nc ρ (fun a b=>b=ρ.p a) K (newObj o) (newObj (renObj ρ o)):=.new h hc fun _=>.pure rfl
theorem sr_newRow {e:TypeId} {cs:Array Value}:SR P mf nc ρ (fun a b=>b=renAddr ρ a) K (newRow e cs) (newRow e (cs.map (ren ρ))):=by
 unfold newRow
 exact sr_bind (sr_newObj (o:=.cells cs e) rfl rfl) (by rintro a _ rfl;exact sr_pure rfl)
theorem sr_newVar {t:TypeId} {v:Value}:SR P mf nc ρ (fun a b=>b=renAddr ρ a) K (newVar t v) (newVar t (ren ρ v)):=by
 unfold newVar
 rw [ren_agg_inv]
 exact sr_newRow
theorem sr_part {t:TypeId} {cs:Array Value} {off:Nat}:SV P mf nc ρ K (part t cs off) (part t (cs.map (ren ρ)) off):=by
 unfold part
 refine sr_bind (info_isAgg t).sr ?_
 rintro _ b rfl
 cases b
 ·simp only [Bool.false_eq_true,if_false,Array.getElem?_map]
  cases cs[off]? with
  | none=>exact sr_stuck
  | some v=>exact sr_pure rfl
 ·refine sr_bind (info_sizeOf t).sr ?_
  rintro _ n rfl
  exact sr_pure (by simp [ren,renA_eq])
end
end Go.Con
namespace Go.Con
open Go
variable [Lone]
section
variable {P:Program} {mf:Md} {nc:Bool} {ρ:Rn} {K:Nat→Prop}
theorem sr_shape {b:Nat}:SI P mf nc ρ K (shape b) (shape (ρ.p b)):=.shape fun _=>.pure rfl
theorem sr_getObj {b:Nat}:SR P mf nc ρ (fun a b=>b=renObj ρ a) K (getObj b) (getObj (ρ.p b)):=.getObj fun _ _ _=>.pure rfl
theorem sr_viewAt {b:Nat}:SR P mf nc ρ (fun a b=>b.isSome=a.isSome) K (viewAt b) (viewAt (ρ.p b)):=by
 unfold viewAt
 refine sr_bind sr_shape ?_
 rintro _ s rfl
 cases s with
 | some s=>exact sr_pure rfl
 | none =>
  simp only [Option.isSome_none,Bool.false_eq_true,if_false]
  refine sr_bind sr_getObj ?_
  rintro o _ rfl
  cases o<;>exact sr_pure rfl
theorem sr_numberAt {b:Nat}:SR P mf nc ρ (fun a b=>b=a.map fun x=>(renAddr ρ x.1,x.2)) K (numberAt b) (numberAt (ρ.p b)):=by
 unfold numberAt
 refine sr_bind sr_shape ?_
 rintro _ s rfl
 cases s with
 | some s=>exact sr_pure rfl
 | none =>
  simp only [Option.isSome_none,Bool.false_eq_true,if_false]
  refine sr_bind sr_getObj ?_
  rintro o _ rfl
  cases o<;>exact sr_pure rfl
theorem sr_behindNumber {a:Addr}:SR P mf nc ρ (fun a b=>b=(renAddr ρ a.1,a.2)) K (behindNumber a) (behindNumber (renAddr ρ a)):=by
 unfold behindNumber
 refine sr_bind sr_numberAt ?_
 rintro o _ rfl
 cases o<;>exact sr_pure rfl
theorem sr_asNumber {a:Addr} {l:Bool}:SV P mf nc ρ K (asNumber a l) (asNumber (renAddr ρ a) l):=by
 unfold asNumber
 exact sr_bind (sr_newObj (o:=.number a l) rfl rfl) (by rintro b _ rfl;exact sr_pure rfl)
theorem sr_noView {a:Addr}:SI P mf nc ρ K (noView a) (noView (renAddr ρ a)):=by
 unfold noView
 refine sr_bind sr_viewAt ?_
 intro x y hxy
 rw [hxy]
 split
 ·exact sr_unsupported
 ·exact sr_pure rfl
theorem sr_program:SR P mf nc ρ (fun a b=>a=P∧b=P) K program program:=.program (.pure ⟨rfl,rfl⟩)
theorem sr_byteOf {a:Addr}:SI P mf nc ρ K (byteOf a) (byteOf (renAddr ρ a)):=by
 unfold byteOf
 obtain⟨b,off,spot⟩:=a
 cases spot with
 | some s=>exact sr_pure rfl
 | none =>
  refine sr_bind sr_program ?_
  rintro _ _ ⟨rfl,rfl⟩
  refine sr_bind sr_noView ?_
  rintro _ _ rfl
  refine sr_bind sr_shape ?_
  rintro _ s rfl
  cases s with
  | none=>exact sr_stuck
  | some s =>
   simp only [renAddr]
   split
   ·exact sr_pure rfl
   ·split
    ·exact sr_pure rfl
    ·exact sr_stuck
theorem sr_unsafeAddP {ats:Array TypeId} {t:TypeId} {x y:Value}:SR P mf nc ρ (fun a b=>b=ren ρ a∧∃ p,a=.pointer p) K (Builtin.unsafeAdd_ ats t #[x,y]) (Builtin.unsafeAdd_ ats t #[ren ρ x,ren ρ y]):=by
 unfold Builtin.unsafeAdd_
 cases x with
 | pointer ptr =>
  refine sr_bind (s:=asInt y) (s':=asInt (ren ρ y)) sr_asInt ?_
  rintro _ n rfl
  cases ptr with
  | none =>
   dsimp only
   split
   ·exact sr_unsupported
   ·split
    ·exact .dead trivial
    ·exact sr_unsupported
  | some a =>
   dsimp only [Option.map_some]
   split
   ·refine sr_bind sr_viewAt ?_
    intro x y hxy
    rw [hxy]
    split
    ·exact .dead trivial
    ·exact sr_pure ⟨rfl,_,rfl⟩
   ·split
    ·exact .dead trivial
    ·refine sr_bind sr_shape ?_
     rintro _ s rfl
     cases s with
     | none=>exact sr_unsupported
     | some s =>
      refine sr_bind sr_program ?_
      rintro _ _ ⟨rfl,rfl⟩
      dsimp only [renAddr]
      split
      ·exact sr_pure ⟨rfl,_,rfl⟩
      ·exact sr_unsupported
 | _=>exact sr_stuck
theorem sr_unsafeAdd {ats:Array TypeId} {t:TypeId} {x y:Value}:SV P mf nc ρ K (Builtin.unsafeAdd_ ats t #[x,y]) (Builtin.unsafeAdd_ ats t #[ren ρ x,ren ρ y]):=sr_unsafeAddP.mono fun _ _ h=>h.1
end
end Go.Con
