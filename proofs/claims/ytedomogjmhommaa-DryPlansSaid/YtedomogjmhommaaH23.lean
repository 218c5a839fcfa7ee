import Derived.Calls
import Derived.CallsIn
import Derived.Conc.Neutral
import Derived.Laws.Sem
import GoSem.Dispatch
import Derived.KernelRfl
set_option linter.all false
set_option maxRecDepth 100000
set_option maxHeartbeats 8000000
namespace Go.Con
open Go
structure Rn where
 p:Nat→Nat
 c:Nat→Value
 o:Fn→Fn
def cellV:Value→Value
 | .pointer (some a)=>.pointer (some a)
 | .slice a n c=>.slice a n c
 | .map r=>.map r
 | .func (.method _) _ _=>.chan none
 | .func f a b=>.func f a b
 | .chan r=>.chan r
 | _=>.chan none
def zem:Fn→Array Value→Array Value→Option Nat
 | .method _,⟨[.nilIface]⟩,⟨[.chan (some x)]⟩=>some x
 | _,_,_=>none
def zl6:Value→Value
 | .func (.method s) a b=>.func (.method s) a b
 | _=>.func (.method "") #[] #[]
theorem zoT (v:Value):∃ s a b,zl6 v=.func (.method s) a b:=by
 unfold zl6
 split<;>exact⟨_,_,_,rfl⟩
theorem zhO {fn:Fn} {a b:Array Value} {x:Nat} (h:zem fn a b=some x):∃ s,fn=.method s∧a=#[.nilIface]∧b=#[.chan (some x)]:=by
 unfold zem at h
 split at h
 ·cases h;exact⟨_,rfl,rfl,rfl⟩
 ·cases h
theorem zdb (v:Value):(∃ a,cellV v=.pointer (some a))∨(∃ a n c,cellV v=.slice a n c)∨(∃ r,cellV v=.map r)∨(∃ f a b,cellV v=.func f a b∧∀ s,f≠.method s)∨∃ r,cellV v=.chan r:=by
 unfold cellV
 split<;>simp_all
theorem zmU (v:Value):(∀ c,cellV v≠.agg c)∧(∀ c,cellV v≠.tuple c):=by
 rcases zdb v with ⟨_,h⟩ | ⟨_,_,_,h⟩ | ⟨_,h⟩ | ⟨_,_,_,h,_⟩ | ⟨_,h⟩<;>rw [h]<;>simp
def zak (ρ:Rn) (a:Addr):Addr:={ a with block:=ρ.p a.block }
def zd6 (ρ:Rn):Fn→Fn
 | .yield l=>.yield (ρ.p l)
 | f=>ρ.o f
mutual
def ren (ρ:Rn):Value→Value
 | .pointer a=>.pointer (a.map (zak ρ))
 | .slice a n c=>.slice (a.map (zak ρ)) n c
 | .map r=>.map (r.map ρ.p)
 | .chan none=>.chan none
 | .chan (some x)=>cellV (ρ.c x)
 | .func fn first captured=>match zem fn first captured with
  | some x=>zl6 (ρ.c x)
  | none=>.func (zd6 ρ fn) (renA ρ first) (renA ρ captured)
 | .iface t v=>.iface t (ren ρ v)
 | .agg cs=>.agg (renA ρ cs)
 | .tuple vs=>.tuple (renA ρ vs)
 | .bool b=>.bool b
 | .int k n=>.int k n
 | .float k b=>.float k b
 | .complex k a b=>.complex k a b
 | .string s=>.string s
 | .nilFunc=>.nilFunc
 | .nilIface=>.nilIface
def renA (ρ:Rn):Array Value→Array Value
 | ⟨l⟩=>⟨renL ρ l⟩
def renL (ρ:Rn):List Value→List Value
 | []=>[]
 | v :: l=>ren ρ v :: renL ρ l
end
theorem zb2 (ρ:Rn) (r:Option Nat):(∃ a,ren ρ (.chan r)=.pointer (some a))∨(∃ a n c,ren ρ (.chan r)=.slice a n c)∨(∃ r',ren ρ (.chan r)=.map r')∨(∃ f a b,ren ρ (.chan r)=.func f a b∧∀ s,f≠.method s)∨∃ r',ren ρ (.chan r)=.chan r':=by
 cases r with
 | none=>exact .inr (.inr (.inr (.inr ⟨none,by simp only [ren]⟩)))
 | some x=>simp only [ren];exact zdb _
theorem zaV (ρ:Rn) (fn:Fn) (a b:Array Value):∃ fn' a' b',ren ρ (.func fn a b)=.func fn' a' b':=by
 simp only [ren]
 split
 ·obtain⟨s,a',b',h⟩:=zoT (ρ.c _);exact⟨_,_,_,h⟩
 ·exact⟨_,_,_,rfl⟩
theorem zby (ρ:Rn) (fn:Fn) (a b:Array Value):(∀ k n,ren ρ (.func fn a b)≠.int k n)∧(∀ s,ren ρ (.func fn a b)≠.string s)∧(∀ k s,ren ρ (.func fn a b)≠.float k s)∧(∀ k s q,ren ρ (.func fn a b)≠.complex k s q):=by
 obtain⟨_,_,_,h⟩:=zaV ρ fn a b
 rw [h];simp
theorem zeZ (ρ:Rn) {fn:Fn} {a b:Array Value} (h:zem fn a b=none):ren ρ (.func fn a b)=.func (zd6 ρ fn) (renA ρ a) (renA ρ b):=by
 simp only [ren,h]
theorem zbx (ρ:Rn) (r:Option Nat):(∀ k a,ren ρ (.chan r)≠.int k a)∧(∀ s,ren ρ (.chan r)≠.string s)∧(∀ k s,ren ρ (.chan r)≠.float k s)∧(∀ k s q,ren ρ (.chan r)≠.complex k s q):=by
 rcases zb2 ρ r with ⟨_,h⟩ | ⟨_,_,_,h⟩ | ⟨_,h⟩ | ⟨_,_,_,h,_⟩ | ⟨_,h⟩<;>rw [h]<;>simp
theorem znO (ρ:Rn):∀ l,renL ρ l=l.map (ren ρ)
 | []=>by simp [renL]
 | v :: l=>by simp [renL,znO ρ l]
theorem zaD (ρ:Rn) (a:Array Value):renA ρ a=a.map (ren ρ):=by
 obtain⟨l⟩:=a
 simp [renA,znO]
def zbw (ρ:Rn):Target→Target
 | .fn f c=>.fn (zd6 ρ f) (c.map (ren ρ))
 | .nil=>.nil
 | .builtin b a t c=>.builtin b a t c
 | .collected r=>.collected (ρ.p r)
 | .coroexit c=>.coroexit (ρ.p c)
def zaE (ρ:Rn) (d:Deferred):Deferred:={ target:=zbw ρ d.target,args:=d.args.map (ren ρ) }
def zaz (ρ:Rn) (e:MapEntry):MapEntry:={ key:=ren ρ e.key,val:=ren ρ e.val,born:=e.born }
def zcU (ρ:Rn) (l:Loop):Loop:={ l with tmps:=l.tmps.map (ren ρ),defers:=ρ.p l.defers }
def zau (ρ:Rn):Obj→Obj
 | .cells c e fz=>.cells (c.map (ren ρ)) e fz
 | .pending c e=>.pending (c.map (ren ρ)) e
 | .view a t=>.view (zak ρ a) t
 | .number a l=>.number (zak ρ a) l
 | .map es c=>.map (es.map (zaz ρ)) c
 | .chan cap buf cl s r tm=>.chan cap (buf.map (ren ρ)) cl s r tm
 | .stringIter s p=>.stringIter s p
 | .mapIter m a b c=>.mapIter (m.map ρ.p) a b c
 | .loop l=>.loop (zcU ρ l)
 | .deferred c=>.deferred (c.map (·.map (zaE ρ)))
 | .coro p=>.coro p
 | .finalizers f r=>.finalizers f r
class Lone where
 v:FuncId→Bool
 lm:Bool
variable [Lone]
def zaR (P:Program):Fn→Bool
 | .func f=>match P.funcs[f]? with
  | some fn=>fn.body.isSome && fn.name != "runtime.NumGoroutine" && Lone.v f
  | none=>false
 | _=>false
structure Md where
 maps:Bool
 okc:Code→Bool
def Md.okl (mf:Md) (l:Loop):Bool:=mf.okc l.assign && mf.okc l.body && l.pending.all mf.okc
inductive NextR (P:Program) (mf:Md) (ρ:Rn):Next→Next→Prop
 | value (v:Value):NextR P mf ρ (.value v) (.value (ren ρ v))
 | skip:NextR P mf ρ .skip .skip
 | enter (f:FuncId) (args:Array Value) (hg:zaR P (.func f)=true):NextR P mf ρ (.enter f args) (.enter f (args.map (ren ρ)))
 | round (l:Nat) (f:FuncId) (tmps:Array Value) (a b:Code) (h:∃ r,mf.okl r=true∧r.fn=f∧r.assign=a∧r.body=b):NextR P mf ρ (.round l f tmps a b) (.round (ρ.p l) f (tmps.map (ren ρ)) a b)
def zkB:Obj→Bool
 | .deferred (some (_ :: _))=>false
 | _=>true
def zeb:Halt→Prop
 | .panic _ | .stuck _=>True
 | .unsupported (.initOrder _)=>False
 | .unsupported _=>True
 | _=>False
def Calm (P:Program) {α:Type}:Sem α→Prop
 | .pure _=>True
 | .load .. | .store .. | .getObj .. | .setObj .. | .sys ..=>False
 | .new o k=>zkB o=true∧∀ b,Calm P (k b)
 | .shape _ k=>∀ s,Calm P (k s)
 | .freeze _ _ k=>Calm P k
 | .frozen _ k=>∀ b,Calm P (k b)
 | .choose _ k=>∀ n,Calm P (k n)
 | .program k=>Calm P (k P)
 | .mark _ k=>Calm P k
 | .halt h=>zeb h
def Dead (P:Program) {α:Type}:Sem α→Prop
 | .pure _=>False
 | .load .. | .store .. | .getObj .. | .setObj .. | .sys ..=>False
 | .new o k=>zkB o=true∧∀ b,Dead P (k b)
 | .shape _ k=>∀ s,Dead P (k s)
 | .freeze _ _ k=>Dead P k
 | .frozen _ k=>∀ b,Dead P (k b)
 | .choose _ k=>∀ n,Dead P (k n)
 | .program k=>Dead P (k P)
 | .mark _ k=>Dead P k
 | .halt h=>zeb h
def zbm:Obj→Bool
 | .chan ..=>true
 | _=>false
def zaG (mf:Md):Obj→Bool
 | .view .. | .pending ..=>false
 | .loop l=>mf.okl l
 | .deferred c=>(match c with | some (_ :: _)=>false | _=>true)
 | _=>true
def zdh (mf:Md):Obj→Bool
 | .map ..=>mf.maps
 | .loop _ | .mapIter .. | .stringIter .. | .deferred _=>true
 | _=>false
def zgp (ρ:Rn):Prop:=∃ f:Nat→Nat,(∀ x,ρ.c x=.chan (some (f x)))∧∀ x y,f x=f y→x=y
inductive SR (P:Program) (mf:Md) (nc:Bool) (ρ:Rn) {α β:Type} (r:α→β→Prop):(Nat→Prop)→Sem α→Sem β→Prop
 | dead {K:Nat→Prop} {s:Sem α} {s' : Sem β} (h:Dead P s):SR P mf nc ρ r K s s'
 | pure {K:Nat→Prop} {a:α} {b:β} (h:r a b):SR P mf nc ρ r K (.pure a) (.pure b)
 | load {K:Nat→Prop} {a:Addr} {k:Value→Sem α} {k' : Value→Sem β} (h:∀ v,SR P mf nc ρ r K (k v) (k' (ren ρ v))):SR P mf nc ρ r K (.load .plain a k) (.load .plain (zak ρ a) k')
 | store {K:Nat→Prop} {a:Addr} {v:Value} {k:Sem α} {k' : Sem β} (h:SR P mf nc ρ r K k k'):SR P mf nc ρ r K (.store .plain a v k) (.store .plain (zak ρ a) (ren ρ v) k')
 | new {K:Nat→Prop} {o:Obj} {k:Nat→Sem α} {k' : Nat→Sem β} (ho:zaG mf o=true) (hc:zbm o=false) (h:∀ b,SR P mf nc ρ r (fun x=>K x∨x=b) (k b) (k' (ρ.p b))):SR P mf nc ρ r K (.new o k) (.new (zau ρ o) k')
 | shape {K:Nat→Prop} {b:Nat} {k:Option (TypeId×Nat)→Sem α} {k' : Option (TypeId×Nat)→Sem β} (h:∀ s,SR P mf nc ρ r K (k s) (k' s)):SR P mf nc ρ r K (.shape b k) (.shape (ρ.p b) k')
 | freeze {K:Nat→Prop} {a:Addr} {n:Nat} {k:Sem α} {k' : Sem β} (hK:K a.block) (h:SR P mf nc ρ r K k k'):SR P mf nc ρ r K (.freeze a n k) (.freeze (zak ρ a) n k')
 | frozen {K:Nat→Prop} {a:Addr} {k:Bool→Sem α} {k' : Bool→Sem β} (h:∀ x y,SR P mf nc ρ r K (k x) (k' y)):SR P mf nc ρ r K (.frozen a k) (.frozen (zak ρ a) k')
 | getObj {K:Nat→Prop} {b:Nat} {k:Obj→Sem α} {k' : Obj→Sem β} (h:∀ o,zbm o=false→zaG mf o=true→SR P mf nc ρ r (fun x=>K x∨(x=b∧zdh mf o=true)) (k o) (k' (zau ρ o))):SR P mf nc ρ r K (.getObj b k) (.getObj (ρ.p b) k')
 | setObj {K:Nat→Prop} {b:Nat} {o:Obj} {k:Sem α} {k' : Sem β} (hK:K b) (ho:zaG mf o=true) (hc:zbm o=false) (h:SR P mf nc ρ r K k k'):SR P mf nc ρ r K (.setObj b o k) (.setObj (ρ.p b) (zau ρ o) k')
 | choose {K:Nat→Prop} {q:Question} {k:Nat→Sem α} {k' : Nat→Sem β} (h:∀ n,SR P mf nc ρ r K (k n) (k' n)):SR P mf nc ρ r K (.choose q k) (.choose q k')
 | chooseL {K:Nat→Prop} {q:Question} {k:Nat→Sem α} {s' : Sem β} (hn:¬ zgp ρ) (h0:q.cut 0=0) (h:SR P mf nc ρ r K (k 0) s'):SR P mf nc ρ r K (.choose q k) s'
 | chooseR {K:Nat→Prop} {q:Question} {s:Sem α} {k' : Nat→Sem β} (hn:¬ zgp ρ) (h:∀ n,SR P mf nc ρ r K s (k' n)):SR P mf nc ρ r K s (.choose q k')
 | program {K:Nat→Prop} {k:Program→Sem α} {k' : Program→Sem β} (h:SR P mf nc ρ r K (k P) (k' P)):SR P mf nc ρ r K (.program k) (.program k')
 | mark {K:Nat→Prop} {k:Sem α} {k' : Sem β} (h:SR P mf nc ρ r K k k'):SR P mf nc ρ r K (.mark .noRoom k) (.mark .noRoom k')
section
variable {P:Program} {mf:Md} {nc:Bool} {ρ:Rn}
theorem Dead.bind {α β:Type} {f:α→Sem β}:∀ {s:Sem α},Dead P s→Dead P (s.bind f)
 | .pure _,h=>h.elim
 | .load _ _ _,h=>h.elim
 | .store _ _ _ _,h=>h.elim
 | .new _ _,h=>⟨h.1,fun v=>Dead.bind (h.2 v)⟩
 | .shape _ _,h=>fun v=>Dead.bind (h v)
 | .freeze _ _ k,h=>Dead.bind (s:=k) h
 | .frozen _ _,h=>fun v=>Dead.bind (h v)
 | .getObj _ _,h=>h.elim
 | .setObj _ _ _,h=>h.elim
 | .choose _ _,h=>fun v=>Dead.bind (h v)
 | .sys _ _,h=>h.elim
 | .program k,h=>Dead.bind (s:=k P) h
 | .mark _ k,h=>Dead.bind (s:=k) h
 | .halt _,h=>h
theorem Dead.bind_right {α β:Type} {f:α→Sem β} (hf:∀ a,Dead P (f a)):∀ {s:Sem α},Calm P s→Dead P (s.bind f)
 | .pure a,_=>hf a
 | .load _ _ _,h=>h.elim
 | .store _ _ _ _,h=>h.elim
 | .new _ _,h=>⟨h.1,fun v=>Dead.bind_right hf (h.2 v)⟩
 | .shape _ _,h=>fun v=>Dead.bind_right hf (h v)
 | .freeze _ _ k,h=>Dead.bind_right (s:=k) hf h
 | .frozen _ _,h=>fun v=>Dead.bind_right hf (h v)
 | .getObj _ _,h=>h.elim
 | .setObj _ _ _,h=>h.elim
 | .choose _ _,h=>fun v=>Dead.bind_right hf (h v)
 | .sys _ _,h=>h.elim
 | .program k,h=>Dead.bind_right (s:=k P) hf h
 | .mark _ k,h=>Dead.bind_right (s:=k) hf h
 | .halt _,h=>h
theorem SR.weaken {α β:Type} {r:α→β→Prop} {K:Nat→Prop} {s:Sem α} {s' : Sem β} (h:SR P mf nc ρ r K s s'):∀ {K' : Nat→Prop},(∀ x,K x→K' x)→SR P mf nc ρ r K' s s':=by
 induction h with
 | dead h=>exact fun _=>.dead h
 | pure h=>exact fun _=>.pure h
 | load _ ih=>exact fun hk=>.load fun v=>ih v hk
 | store _ ih=>exact fun hk=>.store (ih hk)
 | new ho hc _ ih=>exact fun hk=>.new ho hc fun b=>ih b fun x hx=>hx.imp (hk x) id
 | shape _ ih=>exact fun hk=>.shape fun s=>ih s hk
 | freeze hK _ ih=>exact fun hk=>.freeze (hk _ hK) (ih hk)
 | frozen _ ih=>exact fun hk=>.frozen fun x y=>ih x y hk
 | getObj _ ih=>exact fun hk=>.getObj (fun o ho hp=>ih o ho hp fun x hx=>hx.imp (hk x) id)
 | setObj hK ho hc _ ih=>exact fun hk=>.setObj (hk _ hK) ho hc (ih hk)
 | choose _ ih=>exact fun hk=>.choose fun n=>ih n hk
 | chooseL hn h0 _ ih=>exact fun hk=>.chooseL hn h0 (ih hk)
 | chooseR hn _ ih=>exact fun hk=>.chooseR hn fun n=>ih n hk
 | program _ ih=>exact fun hk=>.program (ih hk)
 | mark _ ih=>exact fun hk=>.mark (ih hk)
theorem SR.bind {α β γ δ:Type} {r:α→β→Prop} {q:γ→δ→Prop} {K:Nat→Prop} {s:Sem α} {s' : Sem β} (h:SR P mf nc ρ r K s s') :
  ∀ {f:α→Sem γ} {f' : β→Sem δ},(∀ a b,r a b→SR P mf nc ρ q K (f a) (f' b))→SR P mf nc ρ q K (s.bind f) (s'.bind f'):=by
 induction h with
 | dead h=>exact fun _=>.dead h.bind
 | pure h=>exact fun hf=>hf _ _ h
 | load _ ih=>exact fun hf=>.load fun v=>ih v hf
 | store _ ih=>exact fun hf=>.store (ih hf)
 | new ho hc _ ih=>exact fun hf=>.new ho hc fun b=>ih b fun x y hr=>(hf x y hr).weaken fun _ h=>.inl h
 | shape _ ih=>exact fun hf=>.shape fun s=>ih s hf
 | freeze hK _ ih=>exact fun hf=>.freeze hK (ih hf)
 | frozen _ ih=>exact fun hf=>.frozen fun x y=>ih x y hf
 | getObj _ ih=>exact fun hf=>.getObj (fun o ho hp=>ih o ho hp fun x y hr=>(hf x y hr).weaken fun _ h=>.inl h)
 | setObj hK ho hc _ ih=>exact fun hf=>.setObj hK ho hc (ih hf)
 | choose _ ih=>exact fun hf=>.choose fun n=>ih n hf
 | chooseL hn h0 _ ih=>exact fun hf=>.chooseL hn h0 (ih hf)
 | chooseR hn _ ih=>exact fun hf=>.chooseR hn fun n=>ih n hf
 | program _ ih=>exact fun hf=>.program (ih hf)
 | mark _ ih=>exact fun hf=>.mark (ih hf)
theorem SR.mono {α β:Type} {r q:α→β→Prop} {K:Nat→Prop} {s:Sem α} {s' : Sem β} (h:SR P mf nc ρ r K s s') (hq:∀ a b,r a b→q a b):SR P mf nc ρ q K s s':=by
 induction h with
 | dead h=>exact .dead h
 | pure h=>exact .pure (hq _ _ h)
 | load _ ih=>exact .load ih
 | store _ ih=>exact .store ih
 | new ho hc _ ih=>exact .new ho hc ih
 | shape _ ih=>exact .shape ih
 | freeze hK _ ih=>exact .freeze hK ih
 | frozen _ ih=>exact .frozen ih
 | getObj _ ih=>exact .getObj ih
 | setObj hK ho hc _ ih=>exact .setObj hK ho hc ih
 | choose _ ih=>exact .choose ih
 | chooseL hn h0 _ ih=>exact .chooseL hn h0 ih
 | chooseR hn _ ih=>exact .chooseR hn ih
 | program _ ih=>exact .program ih
 | mark _ ih=>exact .mark ih
end
end Go.Con
namespace Go.Con
open Go
variable [Lone]
structure RenOk (P:Program) (ρ:Rn):Prop where
 inj:∀ x y,ρ.p x=ρ.p y→x=y
 fix:∀ b,b<P.globals.size→ρ.p b=b
 fixo:∀ f,zaR P f=true→ρ.o f=f
theorem RenOk.lt {P:Program} {ρ:Rn} (R:RenOk P ρ) (b:Nat):ρ.p b<P.globals.size↔b<P.globals.size:=by
 constructor
 ·intro h
  have:=R.fix _ h
  rw [R.inj _ _ this] at h
  exact h
 ·intro h;rw [R.fix _ h];exact h
section
variable {P:Program} {mf:Md} {nc:Bool} {ρ:Rn} {K:Nat→Prop}
variable (P mf nc ρ) in
abbrev SV (K:Nat→Prop) (s s' : Sem Value):Prop:=SR P mf nc ρ (fun a b=>b=ren ρ a) K s s'
variable (P mf nc ρ) in
abbrev SI {α:Type} (K:Nat→Prop) (s s' : Sem α):Prop:=SR P mf nc ρ (fun a b=>b=a) K s s'
theorem zad {α β γ δ:Type} {r:α→β→Prop} {q:γ→δ→Prop} {s:Sem α} {s' : Sem β} {f:α→Sem γ} {f' : β→Sem δ} (h:SR P mf nc ρ r K s s') (hf:∀ a b,r a b→SR P mf nc ρ q K (f a) (f' b)) :
  SR P mf nc ρ q K (s >>= f) (s' >>= f'):=SR.bind h hf
theorem zaf {α β:Type} {r:α→β→Prop} {a:α} {b:β} (h:r a b):SR P mf nc ρ r K (pure a) (pure b):=.pure h
theorem zah {α β:Type} {r:α→β→Prop} {why:String} {s' : Sem β}:SR P mf nc ρ r K (stuck why:Sem α) s':=.dead trivial
theorem zai {α β:Type} {r:α→β→Prop} {u:Unsupported} {s' : Sem β} (hu:zeb (.unsupported u):=by trivial):SR P mf nc ρ r K (unsupported u:Sem α) s':=.dead hu
theorem zba {α β:Type} {s:Sem α} {f:α→Sem β} (h:Dead P s):Dead P (s >>= f):=Dead.bind h
theorem zbh {α β:Type} {s:Sem α} {f:α→Sem β} (hs:Calm P s) (h:∀ a,Dead P (f a)):Dead P (s >>= f):=Dead.bind_right h hs
theorem Calm.bind {α β:Type} {f:α→Sem β} (hf:∀ a,Calm P (f a)):∀ {s:Sem α},Calm P s→Calm P (s.bind f)
 | .pure a,_=>hf a
 | .load _ _ _,h=>h.elim
 | .store _ _ _ _,h=>h.elim
 | .new _ _,h=>⟨h.1,fun v=>Calm.bind hf (h.2 v)⟩
 | .shape _ _,h=>fun v=>Calm.bind hf (h v)
 | .freeze _ _ k,h=>Calm.bind (s:=k) hf h
 | .frozen _ _,h=>fun v=>Calm.bind hf (h v)
 | .getObj _ _,h=>h.elim
 | .setObj _ _ _,h=>h.elim
 | .choose _ _,h=>fun v=>Calm.bind hf (h v)
 | .sys _ _,h=>h.elim
 | .program k,h=>Calm.bind (s:=k P) hf h
 | .mark _ k,h=>Calm.bind (s:=k) hf h
 | .halt _,h=>h
theorem zbT {α β:Type} {s:Sem α} {f:α→Sem β} (hs:Calm P s) (hf:∀ a,Calm P (f a)):Calm P (s >>= f):=Calm.bind hf hs
theorem zid (t:TypeId):Calm P (typeInfo t):=by
 unfold typeInfo
 refine zbT trivial fun p=>?_
 split<;>trivial
theorem zdw (t:TypeId):Calm P (typeStr t):=by
 unfold typeStr
 refine zbT (zid t) fun p=>?_
 dsimp only
 split<;>trivial
theorem zgn (t:TypeId):Calm P (underlying t):=by
 unfold underlying
 refine zbT trivial fun p=>?_
 split<;>trivial
theorem zkc (t:TypeId):Calm P (elemOf t):=by
 unfold elemOf
 refine zbT (zgn t) fun p=>?_
 split<;>trivial
theorem zax {α:Type} (e:RuntimeError):Dead P (runtimePanic e:Sem α):=by
 unfold runtimePanic
 refine zbh trivial fun p=>?_
 cases e<;>first
  | exact trivial
  | exact zbh (zkc _) fun _=>zbh ⟨rfl,fun _=>trivial⟩ fun _=>trivial
theorem zaO {α β:Type} {r:α→β→Prop} {e:RuntimeError} {s' : Sem β}:SR P mf nc ρ r K (runtimePanic e:Sem α) s':=.dead (zax e)
theorem zfU {α:Type} (k:IntKind) (x y:Int) (c:BoundsCode):Dead P (boundsPanic k x y c:Sem α):=by
 unfold boundsPanic
 simp only
 split<;>exact zbh (by first | exact trivial | exact fun _=>trivial) fun _=>zax _
theorem zbe {α β:Type} {r:α→β→Prop} {k:IntKind} {x y:Int} {c:BoundsCode} {s' : Sem β}:SR P mf nc ρ r K (boundsPanic k x y c:Sem α) s':=.dead (zfU ..)
variable (P) in
inductive Info {α:Type}:Sem α→Prop
 | pure (a:α):Info (.pure a)
 | program {k:Program→Sem α} (h:Info (k P)):Info (.program k)
 | choose {q:Question} {k:Nat→Sem α} (h:∀ n,Info (k n)):Info (.choose q k)
 | halt (h:Halt) (hh:zeb h):Info (.halt h)
theorem Info.sr {α:Type} {s:Sem α} (h:Info P s):SI P mf nc ρ K s s:=by
 induction h with
 | pure a=>exact .pure rfl
 | program _ ih=>exact .program ih
 | choose _ ih=>exact .choose ih
 | halt h hh=>exact .dead hh
theorem Info.bind {α β:Type} {s:Sem α} {f:α→Sem β} (h:Info P s) (hf:∀ a,Info P (f a)):Info P (s >>= f):=by
 induction h with
 | pure a=>exact hf a
 | program _ ih=>exact .program ih
 | choose _ ih=>exact .choose ih
 | halt h hh=>exact .halt h hh
theorem zaZ {α:Type} (a:α):Info P (pure a:Sem α):=.pure a
theorem zcA {α:Type} (w:String):Info P (stuck w:Sem α):=.halt _ trivial
theorem zaL (q:Question):Info P (choose q):=.choose fun _=>.pure _
theorem info_program:Info P program:=.program (.pure _)
theorem zaN (t:TypeId):Info P (typeInfo t):=by
 unfold typeInfo
 refine info_program.bind fun p=>?_
 split
 ·exact .pure _
 ·exact .halt _ trivial
theorem zaw (t:TypeId):Info P (underlying t):=by
 unfold underlying
 refine info_program.bind fun p=>?_
 split
 ·exact .pure _
 ·exact .halt _ trivial
theorem zaI (t:TypeId):Info P (sizeOf t):=(zaN t).bind fun _=>.pure _
theorem zhM (t:TypeId):Info P (isAgg t):=by
 unfold isAgg
 refine (zaw t).bind fun d=>?_
 split<;>exact .pure _
theorem zni {α β:Type} {f:α→Sem β} (hf:∀ a,Info P (f a)) (xs:Array α):Info P (xs.mapM f):=by
 rw [Array.mapM_eq_foldlM_push,← Array.foldlM_toList]
 generalize (#[]:Array β)=acc
 induction xs.toList generalizing acc with
 | nil=>exact .pure _
 | cons a l ih =>
  rw [List.foldlM_cons]
  refine Info.bind ?_ fun b=>ih b
  exact (hf a).bind fun _=>.pure _
mutual
def zdp:Value→Bool
 | .pointer a=>a.isNone
 | .slice a _ _=>a.isNone
 | .map r=>r.isNone
 | .chan r=>r.isNone
 | .func ..=>false
 | .iface _ v=>zdp v
 | .agg cs=>zis cs
 | .tuple vs=>zis vs
 | .bool _ | .int .. | .float .. | .complex .. | .string _ | .nilFunc | .nilIface=>true
def zis:Array Value→Bool
 | ⟨l⟩=>zit l
def zit:List Value→Bool
 | []=>true
 | v :: l=>zdp v && zit l
end
mutual
theorem zc4 (ρ:Rn):∀ v,zdp v=true→ren ρ v=v
 | .pointer a,h=>by cases a<;>simp_all [zdp,ren]
 | .slice a _ _,h=>by cases a<;>simp_all [zdp,ren]
 | .map r,h=>by cases r<;>simp_all [zdp,ren]
 | .chan r,h=>by cases r<;>simp_all [zdp,ren]
 | .func ..,h=>by cases h
 | .iface _ v,h=>by simp only [zdp] at h;simp only [ren,zc4 ρ v h]
 | .agg cs,h=>by simp only [zdp] at h;simp only [ren,zgY ρ cs h]
 | .tuple cs,h=>by simp only [zdp] at h;simp only [ren,zgY ρ cs h]
 | .bool _,_ | .int ..,_ | .float ..,_ | .complex ..,_ | .string _,_ | .nilFunc,_ | .nilIface,_=>rfl
theorem zgY (ρ:Rn):∀ a,zis a=true→renA ρ a=a
 | ⟨l⟩,h=>by simp only [zis] at h;simp only [renA,zgZ ρ l h]
theorem zgZ (ρ:Rn):∀ l,zit l=true→renL ρ l=l
 | [],_=>rfl
 | v :: l,h=>by
  simp only [zit,Bool.and_eq_true] at h
  simp only [renL,zc4 ρ v h.1,zgZ ρ l h.2]
end
variable (P) in
def zOk (t:TypeId):Bool:=match P.info? t with
 | some i=>(match i.zero with | some v=>zdp v | none=>true)
 | none=>true
theorem zbS {t:TypeId} (h:zOk P t=true):SV P mf nc ρ K (zeroValue t) (zeroValue t):=by
 unfold zeroValue
 have h1:SR P mf nc ρ (fun a b=>b=a∧P.info? t=some a) K (typeInfo t) (typeInfo t):=by
  unfold typeInfo
  refine .program ?_
  show SR _ _ _ _ _ _ (match P.info? t with | some i=>pure i | none=>stuck "no such type") (match P.info? t with | some i=>pure i | none=>stuck "no such type")
  cases P.info? t with
  | none=>exact zah
  | some i=>exact zaf ⟨rfl,rfl⟩
 refine zad h1 ?_
 rintro _ i ⟨rfl,hi⟩
 simp only [zOk,hi] at h
 cases hz:i.zero with
 | none=>exact zai
 | some v=>rw [hz] at h;exact zaf (zc4 ρ v h).symm
theorem zke (v:Value):(cellV v).cells=#[cellV v]:=by
 rcases zdb v with ⟨_,h⟩ | ⟨_,_,_,h⟩ | ⟨_,h⟩ | ⟨_,_,_,h,_⟩ | ⟨_,h⟩<;>rw [h]<;>rfl
theorem zbQ {v:Value}:(ren ρ v).cells=v.cells.map (ren ρ):=by
 cases v with
 | chan r =>
  cases r with
  | none=>simp [ren,Value.cells]
  | some x =>
   show (ren ρ (.chan (some x))).cells=#[Value.chan (some x)].map (ren ρ)
   rw [Array.map_singleton,ren,zke]
 | func fn a b =>
  obtain⟨fn',a',b',h⟩:=zaV ρ fn a b
  show (ren ρ (.func fn a b)).cells=#[Value.func fn a b].map (ren ρ)
  rw [Array.map_singleton,h]
  rfl
 | _=>simp [ren,Value.cells,zaD]
theorem zd3 {v:Value}:SI P mf nc ρ K (asIntOf v) (asIntOf (ren ρ v)):=by
 unfold asIntOf
 cases v<;>first | exact zah | exact zaf rfl | (rename_i a;cases a<;>first | exact zah | exact zai)
theorem zgd {v:Value}:SI P mf nc ρ K (asInt v) (asInt (ren ρ v)):=by
 unfold asInt
 exact zad zd3 (by rintro a _ rfl;exact zaf rfl)
theorem zg5 {v:Value}:SI P mf nc ρ K (asBool v) (asBool (ren ρ v)):=by
 unfold asBool
 cases v<;>first | exact zah | exact zaf rfl
theorem zjL {v:Value}:SR P mf nc ρ (fun a b=>b=zak ρ a) K (asAddr v) (asAddr (ren ρ v)):=by
 unfold asAddr
 cases v<;>first | exact zah | (rename_i a;cases a<;>first | exact zaO | exact zaf rfl)
theorem zcI {v:Value}:SR P mf nc ρ (fun a b=>b=zak ρ a) K (Instr.sureAddr v) (Instr.sureAddr (ren ρ v)):=by
 unfold Instr.sureAddr
 cases v<;>first | exact zah | (rename_i a;cases a<;>first | exact zah | exact zaf rfl)
theorem zbd (a:Addr) (n:Nat):(zak ρ a).add n=zak ρ (a.add n):=by
 unfold Addr.add
 split<;>rfl
theorem znZ {a:Addr}:SV P mf nc ρ K (load a) (load (zak ρ a)):=.load fun _=>.pure rfl
theorem zpk {a:Addr} {v:Value}:SI P mf nc ρ K (store a v) (store (zak ρ a) (ren ρ v)):=.store (.pure rfl)
theorem zfZ {a:Addr} {n:Nat}:∀ {i:Nat} {acc:Array Value},SR P mf nc ρ (fun x y=>y=x.map (ren ρ)) K (loadCellsFrom a i n acc) (loadCellsFrom (zak ρ a) i n (acc.map (ren ρ))):=by
 induction n with
 | zero=>exact zaf rfl
 | succ n ih =>
  intro i acc
  refine zad (by rw [zbd];exact znZ) ?_
  rintro v _ rfl
  have:=ih (i:=i+1) (acc:=acc.push v)
  rw [Array.map_push] at this
  exact this
theorem zfI {a:Addr} {n:Nat}:SR P mf nc ρ (fun x y=>y=x.map (ren ρ)) K (loadCells a n) (loadCells (zak ρ a) n):=by
 have:=zfZ (P:=P) (mf:=mf) (nc:=nc) (K:=K) (ρ:=ρ) (a:=a) (n:=n) (i:=0) (acc:=#[])
 simp only [Array.map_empty] at this
 exact this
theorem zcu {a:Addr}:∀ {vs:List Value} {i:Nat},SI P mf nc ρ K (storeCells a vs i) (storeCells (zak ρ a) (vs.map (ren ρ)) i)
 | [],_=>zaf rfl
 | v :: rest,i=>by
  refine zad (by rw [zbd];exact zpk) ?_
  rintro _ _ rfl
  exact zcu
theorem zh3 {t:TypeId} {a:Addr}:SV P mf nc ρ K (loadVar t a) (loadVar t (zak ρ a)):=by
 unfold loadVar
 refine zad (zhM t).sr ?_
 rintro _ b rfl
 cases b
 ·exact znZ
 ·refine zad (zaI t).sr ?_
  rintro _ n rfl
  refine zad zfI ?_
  rintro cs _ rfl
  exact zaf (by simp [ren,zaD])
theorem zkQ {t:TypeId} {a:Addr} {v:Value}:SI P mf nc ρ K (storeVar t a v) (storeVar t (zak ρ a) (ren ρ v)):=by
 unfold storeVar
 refine zad (zaI t).sr ?_
 rintro _ n rfl
 rw [zbQ,Array.size_map,Array.toList_map]
 split
 ·exact zah
 ·exact zcu
theorem zc8 {o:Obj} (h:zaG mf o=true) (hc:zbm o=false):SR P mf nc ρ (fun a b=>b=ρ.p a) K (newObj o) (newObj (zau ρ o)):=.new h hc fun _=>.pure rfl
theorem zcH {e:TypeId} {cs:Array Value}:SR P mf nc ρ (fun a b=>b=zak ρ a) K (newRow e cs) (newRow e (cs.map (ren ρ))):=by
 unfold newRow
 exact zad (zc8 (o:=.cells cs e) rfl rfl) (by rintro a _ rfl;exact zaf rfl)
theorem zjQ {t:TypeId} {v:Value}:SR P mf nc ρ (fun a b=>b=zak ρ a) K (newVar t v) (newVar t (ren ρ v)):=by
 unfold newVar
 rw [zbQ]
 exact zcH
theorem zdL {t:TypeId} {cs:Array Value} {off:Nat}:SV P mf nc ρ K (part t cs off) (part t (cs.map (ren ρ)) off):=by
 unfold part
 refine zad (zhM t).sr ?_
 rintro _ b rfl
 cases b
 ·simp only [Bool.false_eq_true,if_false,Array.getElem?_map]
  cases cs[off]? with
  | none=>exact zah
  | some v=>exact zaf rfl
 ·refine zad (zaI t).sr ?_
  rintro _ n rfl
  exact zaf (by simp [ren,zaD])
end
end Go.Con
namespace Go.Con
open Go
variable [Lone]
section
variable {P:Program} {mf:Md} {nc:Bool} {ρ:Rn} {K:Nat→Prop}
theorem zd4 {b:Nat}:SI P mf nc ρ K (shape b) (shape (ρ.p b)):=.shape fun _=>.pure rfl
theorem zcl {b:Nat}:SR P mf nc ρ (fun a b=>b=zau ρ a) K (getObj b) (getObj (ρ.p b)):=.getObj fun _ _ _=>.pure rfl
theorem zjR {b:Nat}:SR P mf nc ρ (fun a b=>b.isSome=a.isSome) K (viewAt b) (viewAt (ρ.p b)):=by
 unfold viewAt
 refine zad zd4 ?_
 rintro _ s rfl
 cases s with
 | some s=>exact zaf rfl
 | none =>
  simp only [Option.isSome_none,Bool.false_eq_true,if_false]
  refine zad zcl ?_
  rintro o _ rfl
  cases o<;>exact zaf rfl
theorem zha {b:Nat}:SR P mf nc ρ (fun a b=>b=a.map fun x=>(zak ρ x.1,x.2)) K (numberAt b) (numberAt (ρ.p b)):=by
 unfold numberAt
 refine zad zd4 ?_
 rintro _ s rfl
 cases s with
 | some s=>exact zaf rfl
 | none =>
  simp only [Option.isSome_none,Bool.false_eq_true,if_false]
  refine zad zcl ?_
  rintro o _ rfl
  cases o<;>exact zaf rfl
theorem za7 {a:Addr}:SR P mf nc ρ (fun a b=>b=(zak ρ a.1,a.2)) K (behindNumber a) (behindNumber (zak ρ a)):=by
 unfold behindNumber
 refine zad zha ?_
 rintro o _ rfl
 cases o<;>exact zaf rfl
theorem zkL {a:Addr} {l:Bool}:SV P mf nc ρ K (asNumber a l) (asNumber (zak ρ a) l):=by
 unfold asNumber
 exact zad (zc8 (o:=.number a l) rfl rfl) (by rintro b _ rfl;exact zaf rfl)
theorem zn3 {a:Addr}:SI P mf nc ρ K (noView a) (noView (zak ρ a)):=by
 unfold noView
 refine zad zjR ?_
 intro x y hxy
 rw [hxy]
 split
 ·exact zai
 ·exact zaf rfl
theorem zbR:SR P mf nc ρ (fun a b=>a=P∧b=P) K program program:=.program (.pure ⟨rfl,rfl⟩)
theorem zcG {a:Addr}:SI P mf nc ρ K (byteOf a) (byteOf (zak ρ a)):=by
 unfold byteOf
 obtain⟨b,off,spot⟩:=a
 cases spot with
 | some s=>exact zaf rfl
 | none =>
  refine zad zbR ?_
  rintro _ _ ⟨rfl,rfl⟩
  refine zad zn3 ?_
  rintro _ _ rfl
  refine zad zd4 ?_
  rintro _ s rfl
  cases s with
  | none=>exact zah
  | some s =>
   simp only [zak]
   split
   ·exact zaf rfl
   ·split
    ·exact zaf rfl
    ·exact zah
theorem sr_unsafeAddP {ats:Array TypeId} {t:TypeId} {x y:Value}:SR P mf nc ρ (fun a b=>b=ren ρ a∧∃ p,a=.pointer p) K (Builtin.unsafeAdd_ ats t #[x,y]) (Builtin.unsafeAdd_ ats t #[ren ρ x,ren ρ y]):=by
 unfold Builtin.unsafeAdd_
 cases x with
 | pointer ptr =>
  refine zad (s:=asInt y) (s':=asInt (ren ρ y)) zgd ?_
  rintro _ n rfl
  cases ptr with
  | none =>
   dsimp only
   split
   ·exact zai
   ·split
    ·exact .dead trivial
    ·exact zai
  | some a =>
   dsimp only [Option.map_some]
   split
   ·refine zad zjR ?_
    intro x y hxy
    rw [hxy]
    split
    ·exact .dead trivial
    ·exact zaf ⟨rfl,_,rfl⟩
   ·split
    ·exact .dead trivial
    ·refine zad zd4 ?_
     rintro _ s rfl
     cases s with
     | none=>exact zai
     | some s =>
      refine zad zbR ?_
      rintro _ _ ⟨rfl,rfl⟩
      dsimp only [zak]
      split
      ·exact zaf ⟨rfl,_,rfl⟩
      ·exact zai
 | _=>exact zah
theorem zcm {ats:Array TypeId} {t:TypeId} {x y:Value}:SV P mf nc ρ K (Builtin.unsafeAdd_ ats t #[x,y]) (Builtin.unsafeAdd_ ats t #[ren ρ x,ren ρ y]):=sr_unsafeAddP.mono fun _ _ h=>h.1
end
end Go.Con
