import Derived.Calls
import Derived.CallsIn
import Derived.Conc.Neutral
import Derived.Laws.Sem
import GoSem.Dispatch
import Derived.KernelRfl
set_option linter.all false
open Bool renaming false_eq_true → jqa
open Array renaming forIn_toList → jqb
namespace Go.Con
open Go
structure Rn where
 p:Nat→Nat
 c:Nat→Value
 o:Fn→Fn
def cellV:Value→Value
 | .pointer (some a)=>.pointer (some a)
 | .slice a n c=>.slice a n c
 | .map r=>.map r
 | .func (.method _) _ _=>.chan none
 | .func f a b=>.func f a b
 | .chan r=>.chan r
 | _=>.chan none
def zeN:Fn→Array Value→Array Value→Option Nat
 | .method _,⟨[.nilIface]⟩,⟨[.chan (some x)]⟩=>some x
 | _,_,_=>none
def zla:Value→Value
 | .func (.method s) a b=>.func (.method s) a b
 | _=>.func (.method "") #[] #[]
theorem znq (v:Value):∃ s a b,zla v=.func (.method s) a b:=by
 unfold zla
 split<;>exact⟨_,_,_,rfl⟩
theorem zhv {fn:Fn} {a b:Array Value} {x:Nat} (h:zeN fn a b=some x):∃ s,fn=.method s∧a=#[.nilIface]∧b=#[.chan (some x)]:=by
 unfold zeN at h
 split at h
 ·cases h;exact⟨_,rfl,rfl,rfl⟩
 ·cases h
theorem zdw (v:Value):(∃ a,cellV v=.pointer (some a))∨(∃ a n c,cellV v=.slice a n c)∨(∃ r,cellV v=.map r)∨(∃ f a b,cellV v=.func f a b∧∀ s,f≠.method s)∨∃ r,cellV v=.chan r:=by
 unfold cellV
 split<;>simp_all
theorem znb (v:Value):(∀ c,cellV v≠.agg c)∧(∀ c,cellV v≠.tuple c):=by
 rcases zdw v with ⟨_,h⟩ | ⟨_,_,_,h⟩ | ⟨_,h⟩ | ⟨_,_,_,h,_⟩ | ⟨_,h⟩<;>rw [h]<;>simp
def zak (ρ:Rn) (a:Addr):Addr:={ a with block:=ρ.p a.block }
def zfi (ρ:Rn):Fn→Fn
 | .yield l=>.yield (ρ.p l)
 | f=>ρ.o f
mutual
def ren (ρ:Rn):Value→Value
 | .pointer a=>.pointer (a.map (zak ρ))
 | .slice a n c=>.slice (a.map (zak ρ)) n c
 | .map r=>.map (r.map ρ.p)
 | .chan none=>.chan none
 | .chan (some x)=>cellV (ρ.c x)
 | .func fn first captured=>match zeN fn first captured with
  | some x=>zla (ρ.c x)
  | none=>.func (zfi ρ fn) (renA ρ first) (renA ρ captured)
 | .iface t v=>.iface t (ren ρ v)
 | .agg cs=>.agg (renA ρ cs)
 | .tuple vs=>.tuple (renA ρ vs)
 | .bool b=>.bool b
 | .int k n=>.int k n
 | .float k b=>.float k b
 | .complex k a b=>.complex k a b
 | .string s=>.string s
 | .nilFunc=>.nilFunc
 | .nilIface=>.nilIface
def renA (ρ:Rn):Array Value→Array Value
 | ⟨l⟩=>⟨renL ρ l⟩
def renL (ρ:Rn):List Value→List Value
 | []=>[]
 | v :: l=>ren ρ v :: renL ρ l
end
theorem zcd (ρ:Rn) (r:Option Nat):(∃ a,ren ρ (.chan r)=.pointer (some a))∨(∃ a n c,ren ρ (.chan r)=.slice a n c)∨(∃ r',ren ρ (.chan r)=.map r')∨(∃ f a b,ren ρ (.chan r)=.func f a b∧∀ s,f≠.method s)∨∃ r',ren ρ (.chan r)=.chan r':=by
 cases r with
 | none=>exact .inr (.inr (.inr (.inr ⟨none,by simp only [ren]⟩)))
 | some x=>simp only [ren];exact zdw _
theorem za5 (ρ:Rn) (fn:Fn) (a b:Array Value):∃ fn' a' b',ren ρ (.func fn a b)=.func fn' a' b':=by
 simp only [ren];split
 ·obtain⟨s,a',b',h⟩:=znq (ρ.c _);exact⟨_,_,_,h⟩
 ·exact⟨_,_,_,rfl⟩
theorem zbO (ρ:Rn) (fn:Fn) (a b:Array Value):(∀ k n,ren ρ (.func fn a b)≠.int k n)∧(∀ s,ren ρ (.func fn a b)≠.string s)∧(∀ k s,ren ρ (.func fn a b)≠.float k s)∧(∀ k s q,ren ρ (.func fn a b)≠.complex k s q):=by
 obtain⟨_,_,_,h⟩:=za5 ρ fn a b;rw [h];simp
theorem zeR (ρ:Rn) {fn:Fn} {a b:Array Value} (h:zeN fn a b=none):ren ρ (.func fn a b)=.func (zfi ρ fn) (renA ρ a) (renA ρ b):=by
 simp only [ren,h]
theorem zbH (ρ:Rn) (r:Option Nat):(∀ k a,ren ρ (.chan r)≠.int k a)∧(∀ s,ren ρ (.chan r)≠.string s)∧(∀ k s,ren ρ (.chan r)≠.float k s)∧(∀ k s q,ren ρ (.chan r)≠.complex k s q):=by
 rcases zcd ρ r with ⟨_,h⟩ | ⟨_,_,_,h⟩ | ⟨_,h⟩ | ⟨_,_,_,h,_⟩ | ⟨_,h⟩<;>rw [h]<;>simp
theorem zlY (ρ:Rn):∀ l,renL ρ l=l.map (ren ρ)
 | []=>by simp [renL]
 | v :: l=>by simp [renL,zlY ρ l]
theorem zaE (ρ:Rn) (a:Array Value):renA ρ a=a.map (ren ρ):=by
 obtain⟨l⟩:=a;simp [renA,zlY]
def zdf (ρ:Rn):Target→Target
 | .fn f c=>.fn (zfi ρ f) (c.map (ren ρ))
 | .nil=>.nil
 | .builtin b a t c=>.builtin b a t c
 | .collected r=>.collected (ρ.p r)
 | .coroexit c=>.coroexit (ρ.p c)
def zaM (ρ:Rn) (d:Deferred):Deferred:={ target:=zdf ρ d.target,args:=d.args.map (ren ρ) }
def zaB (ρ:Rn) (e:MapEntry):MapEntry:={ key:=ren ρ e.key,val:=ren ρ e.val,born:=e.born }
def zdt (ρ:Rn) (l:Loop):Loop:={ l with tmps:=l.tmps.map (ren ρ),defers:=ρ.p l.defers }
def zaz (ρ:Rn):Obj→Obj
 | .cells c e fz=>.cells (c.map (ren ρ)) e fz
 | .pending c e=>.pending (c.map (ren ρ)) e
 | .view a t=>.view (zak ρ a) t
 | .number a l=>.number (zak ρ a) l
 | .map es c=>.map (es.map (zaB ρ)) c
 | .chan cap buf cl s r tm=>.chan cap (buf.map (ren ρ)) cl s r tm
 | .stringIter s p=>.stringIter s p
 | .mapIter m a b c=>.mapIter (m.map ρ.p) a b c
 | .loop l=>.loop (zdt ρ l)
 | .deferred c=>.deferred (c.map (·.map (zaM ρ)))
 | .coro p=>.coro p
 | .finalizers f r=>.finalizers f r
class Lone where
 v:FuncId→Bool
 lm:Bool
variable [Lone]
def zaL (P:Program):Fn→Bool
 | .func f=>match P.funcs[f]? with
  | some fn=>fn.body.isSome && fn.name != "runtime.NumGoroutine" && Lone.v f
  | none=>false
 | _=>false
structure Md where
 maps:Bool
 okc:Code→Bool
def Md.okl (mf:Md) (l:Loop):Bool:=mf.okc l.assign && mf.okc l.body && l.pending.all mf.okc
inductive NextR (P:Program) (mf:Md) (ρ:Rn):Next→Next→Prop
 | value (v:Value):NextR P mf ρ (.value v) (.value (ren ρ v))
 | skip:NextR P mf ρ .skip .skip
 | enter (f:FuncId) (args:Array Value) (hg:zaL P (.func f)=true):NextR P mf ρ (.enter f args) (.enter f (args.map (ren ρ)))
 | round (l:Nat) (f:FuncId) (tmps:Array Value) (a b:Code) (h:∃ r,mf.okl r=true∧r.fn=f∧r.assign=a∧r.body=b):NextR P mf ρ (.round l f tmps a b) (.round (ρ.p l) f (tmps.map (ren ρ)) a b)
def zjK:Obj→Bool
 | .deferred (some (_ :: _))=>false
 | _=>true
def zej:Halt→Prop
 | .panic _ | .stuck _=>True
 | .unsupported (.initOrder _)=>False
 | .unsupported _=>True
 | _=>False
def Calm (P:Program) {α:Type}:Sem α→Prop
 | .pure _=>True
 | .load .. | .store .. | .getObj .. | .setObj .. | .sys ..=>False
 | .new o k=>zjK o=true∧∀ b,Calm P (k b)
 | .shape _ k=>∀ s,Calm P (k s)
 | .freeze _ _ k=>Calm P k
 | .frozen _ k=>∀ b,Calm P (k b)
 | .choose _ k=>∀ n,Calm P (k n)
 | .program k=>Calm P (k P)
 | .mark _ k=>Calm P k
 | .halt h=>zej h
def Dead (P:Program) {α:Type}:Sem α→Prop
 | .pure _=>False
 | .load .. | .store .. | .getObj .. | .setObj .. | .sys ..=>False
 | .new o k=>zjK o=true∧∀ b,Dead P (k b)
 | .shape _ k=>∀ s,Dead P (k s)
 | .freeze _ _ k=>Dead P k
 | .frozen _ k=>∀ b,Dead P (k b)
 | .choose _ k=>∀ n,Dead P (k n)
 | .program k=>Dead P (k P)
 | .mark _ k=>Dead P k
 | .halt h=>zej h
def zbv:Obj→Bool
 | .chan ..=>true
 | _=>false
def zaK (mf:Md):Obj→Bool
 | .view .. | .pending ..=>false
 | .loop l=>mf.okl l
 | .deferred c=>(match c with | some (_ :: _)=>false | _=>true)
 | _=>true
def zcA (mf:Md):Obj→Bool
 | .map ..=>mf.maps
 | .loop _ | .mapIter .. | .stringIter .. | .deferred _=>true
 | _=>false
inductive SR (P:Program) (mf:Md) (nc:Bool) (ρ:Rn) {α β:Type} (r:α→β→Prop):(Nat→Prop)→Sem α→Sem β→Prop
 | dead {K:Nat→Prop} {s:Sem α} {s' : Sem β} (h:Dead P s):SR P mf nc ρ r K s s'
 | pure {K:Nat→Prop} {a:α} {b:β} (h:r a b):SR P mf nc ρ r K (.pure a) (.pure b)
 | load {K:Nat→Prop} {a:Addr} {k:Value→Sem α} {k' : Value→Sem β} (h:∀ v,SR P mf nc ρ r K (k v) (k' (ren ρ v))):SR P mf nc ρ r K (.load .plain a k) (.load .plain (zak ρ a) k')
 | store {K:Nat→Prop} {a:Addr} {v:Value} {k:Sem α} {k' : Sem β} (h:SR P mf nc ρ r K k k'):SR P mf nc ρ r K (.store .plain a v k) (.store .plain (zak ρ a) (ren ρ v) k')
 | new {K:Nat→Prop} {o:Obj} {k:Nat→Sem α} {k' : Nat→Sem β} (ho:zaK mf o=true) (hc:zbv o=false) (h:∀ b,SR P mf nc ρ r (fun x=>K x∨x=b) (k b) (k' (ρ.p b))):SR P mf nc ρ r K (.new o k) (.new (zaz ρ o) k')
 | shape {K:Nat→Prop} {b:Nat} {k:Option (TypeId×Nat)→Sem α} {k' : Option (TypeId×Nat)→Sem β} (h:∀ s,SR P mf nc ρ r K (k s) (k' s)):SR P mf nc ρ r K (.shape b k) (.shape (ρ.p b) k')
 | freeze {K:Nat→Prop} {a:Addr} {n:Nat} {k:Sem α} {k' : Sem β} (hK:K a.block) (h:SR P mf nc ρ r K k k'):SR P mf nc ρ r K (.freeze a n k) (.freeze (zak ρ a) n k')
 | frozen {K:Nat→Prop} {a:Addr} {k:Bool→Sem α} {k' : Bool→Sem β} (h:∀ x y,SR P mf nc ρ r K (k x) (k' y)):SR P mf nc ρ r K (.frozen a k) (.frozen (zak ρ a) k')
 | getObj {K:Nat→Prop} {b:Nat} {k:Obj→Sem α} {k' : Obj→Sem β} (h:∀ o,zbv o=false→zaK mf o=true→SR P mf nc ρ r (fun x=>K x∨(x=b∧zcA mf o=true)) (k o) (k' (zaz ρ o))):SR P mf nc ρ r K (.getObj b k) (.getObj (ρ.p b) k')
 | setObj {K:Nat→Prop} {b:Nat} {o:Obj} {k:Sem α} {k' : Sem β} (hK:K b) (ho:zaK mf o=true) (hc:zbv o=false) (h:SR P mf nc ρ r K k k'):SR P mf nc ρ r K (.setObj b o k) (.setObj (ρ.p b) (zaz ρ o) k')
 | choose {K:Nat→Prop} {q:Question} {k:Nat→Sem α} {k' : Nat→Sem β} (h:∀ n,SR P mf nc ρ r K (k n) (k' n)):SR P mf nc ρ r K (.choose q k) (.choose q k')
 | program {K:Nat→Prop} {k:Program→Sem α} {k' : Program→Sem β} (h:SR P mf nc ρ r K (k P) (k' P)):SR P mf nc ρ r K (.program k) (.program k')
 | mark {K:Nat→Prop} {k:Sem α} {k' : Sem β} (h:SR P mf nc ρ r K k k'):SR P mf nc ρ r K (.mark .noRoom k) (.mark .noRoom k')
section
variable {P:Program} {mf:Md} {nc:Bool} {ρ:Rn}
theorem Dead.bind {α β:Type} {f:α→Sem β}:∀ {s:Sem α},Dead P s→Dead P (s.bind f)
 | .pure _,h=>h.elim
 | .load _ _ _,h=>h.elim
 | .store _ _ _ _,h=>h.elim
 | .new _ _,h=>⟨h.1,fun v=>Dead.bind (h.2 v)⟩
 | .shape _ _,h=>fun v=>Dead.bind (h v)
 | .freeze _ _ k,h=>Dead.bind (s:=k) h
 | .frozen _ _,h=>fun v=>Dead.bind (h v)
 | .getObj _ _,h=>h.elim
 | .setObj _ _ _,h=>h.elim
 | .choose _ _,h=>fun v=>Dead.bind (h v)
 | .sys _ _,h=>h.elim
 | .program k,h=>Dead.bind (s:=k P) h
 | .mark _ k,h=>Dead.bind (s:=k) h
 | .halt _,h=>h
theorem Dead.bind_right {α β:Type} {f:α→Sem β} (hf:∀ a,Dead P (f a)):∀ {s:Sem α},Calm P s→Dead P (s.bind f)
 | .pure a,_=>hf a
 | .load _ _ _,h=>h.elim
 | .store _ _ _ _,h=>h.elim
 | .new _ _,h=>⟨h.1,fun v=>Dead.bind_right hf (h.2 v)⟩
 | .shape _ _,h=>fun v=>Dead.bind_right hf (h v)
 | .freeze _ _ k,h=>Dead.bind_right (s:=k) hf h
 | .frozen _ _,h=>fun v=>Dead.bind_right hf (h v)
 | .getObj _ _,h=>h.elim
 | .setObj _ _ _,h=>h.elim
 | .choose _ _,h=>fun v=>Dead.bind_right hf (h v)
 | .sys _ _,h=>h.elim
 | .program k,h=>Dead.bind_right (s:=k P) hf h
 | .mark _ k,h=>Dead.bind_right (s:=k) hf h
 | .halt _,h=>h
theorem SR.weaken {α β:Type} {r:α→β→Prop} {K:Nat→Prop} {s:Sem α} {s' : Sem β} (h:SR P mf nc ρ r K s s'):∀ {K' : Nat→Prop},(∀ x,K x→K' x)→SR P mf nc ρ r K' s s':=by
 induction h with
 | dead h=>exact fun _=>.dead h
 | pure h=>exact fun _=>.pure h
 | load _ ih=>exact fun hk=>.load fun v=>ih v hk
 | store _ ih=>exact fun hk=>.store (ih hk)
 | new ho hc _ ih=>exact fun hk=>.new ho hc fun b=>ih b fun x hx=>hx.imp (hk x) id
 | shape _ ih=>exact fun hk=>.shape fun s=>ih s hk
 | freeze hK _ ih=>exact fun hk=>.freeze (hk _ hK) (ih hk)
 | frozen _ ih=>exact fun hk=>.frozen fun x y=>ih x y hk
 | getObj _ ih=>exact fun hk=>.getObj (fun o ho hp=>ih o ho hp fun x hx=>hx.imp (hk x) id)
 | setObj hK ho hc _ ih=>exact fun hk=>.setObj (hk _ hK) ho hc (ih hk)
 | choose _ ih=>exact fun hk=>.choose fun n=>ih n hk
 | program _ ih=>exact fun hk=>.program (ih hk)
 | mark _ ih=>exact fun hk=>.mark (ih hk)
theorem SR.bind {α β γ δ:Type} {r:α→β→Prop} {q:γ→δ→Prop} {K:Nat→Prop} {s:Sem α} {s' : Sem β} (h:SR P mf nc ρ r K s s') :
  ∀ {f:α→Sem γ} {f' : β→Sem δ},(∀ a b,r a b→SR P mf nc ρ q K (f a) (f' b))→SR P mf nc ρ q K (s.bind f) (s'.bind f'):=by
 induction h with
 | dead h=>exact fun _=>.dead h.bind
 | pure h=>exact fun hf=>hf _ _ h
 | load _ ih=>exact fun hf=>.load fun v=>ih v hf
 | store _ ih=>exact fun hf=>.store (ih hf)
 | new ho hc _ ih=>exact fun hf=>.new ho hc fun b=>ih b fun x y hr=>(hf x y hr).weaken fun _ h=>.inl h
 | shape _ ih=>exact fun hf=>.shape fun s=>ih s hf
 | freeze hK _ ih=>exact fun hf=>.freeze hK (ih hf)
 | frozen _ ih=>exact fun hf=>.frozen fun x y=>ih x y hf
 | getObj _ ih=>exact fun hf=>.getObj (fun o ho hp=>ih o ho hp fun x y hr=>(hf x y hr).weaken fun _ h=>.inl h)
 | setObj hK ho hc _ ih=>exact fun hf=>.setObj hK ho hc (ih hf)
 | choose _ ih=>exact fun hf=>.choose fun n=>ih n hf
 | program _ ih=>exact fun hf=>.program (ih hf)
 | mark _ ih=>exact fun hf=>.mark (ih hf)
theorem SR.mono {α β:Type} {r q:α→β→Prop} {K:Nat→Prop} {s:Sem α} {s' : Sem β} (h:SR P mf nc ρ r K s s') (hq:∀ a b,r a b→q a b):SR P mf nc ρ q K s s':=by
 induction h with
 | dead h=>exact .dead h
 | pure h=>exact .pure (hq _ _ h)
 | load _ ih=>exact .load ih
 | store _ ih=>exact .store ih
 | new ho hc _ ih=>exact .new ho hc ih
 | shape _ ih=>exact .shape ih
 | freeze hK _ ih=>exact .freeze hK ih
 | frozen _ ih=>exact .frozen ih
 | getObj _ ih=>exact .getObj ih
 | setObj hK ho hc _ ih=>exact .setObj hK ho hc ih
 | choose _ ih=>exact .choose ih
 | program _ ih=>exact .program ih
 | mark _ ih=>exact .mark ih
end
end Go.Con
namespace Go.Con
open Go
variable [Lone]
def zbM (P:Program) (t:TypeId):Bool:=if t<P.types.size then (match P.underlying t with
 | some (.map k _)=>(match P.underlying k with
  | some .bool | some (.int _) | some .string=>true
  | _=>false)
 | _=>true) else true
def ze8 (ρ:Rn):Prop:=∃ f:Nat→Nat,(∀ x,ρ.c x=.chan (some (f x)))∧∀ x y,f x=f y→x=y
structure RenOk (P:Program) (ρ:Rn):Prop where
 keys:(∀ t,zbM P t=true)∨ze8 ρ
 inj:∀ x y,ρ.p x=ρ.p y→x=y
 fix:∀ b,b<P.globals.size→ρ.p b=b
 fixo:∀ f,zaL P f=true→ρ.o f=f
theorem RenOk.lt {P:Program} {ρ:Rn} (R:RenOk P ρ) (b:Nat):ρ.p b<P.globals.size↔b<P.globals.size:=by
 constructor
 ·intro h
  have:=R.fix _ h;rw [R.inj _ _ this] at h;exact h
 ·intro h;rw [R.fix _ h];exact h
section
variable {P:Program} {mf:Md} {nc:Bool} {ρ:Rn} {K:Nat→Prop}
variable (P mf nc ρ) in
abbrev SV (K:Nat→Prop) (s s' : Sem Value):Prop:=SR P mf nc ρ (fun a b=>b=ren ρ a) K s s'
variable (P mf nc ρ) in
abbrev SI {α:Type} (K:Nat→Prop) (s s' : Sem α):Prop:=SR P mf nc ρ (fun a b=>b=a) K s s'
theorem zab {α β γ δ:Type} {r:α→β→Prop} {q:γ→δ→Prop} {s:Sem α} {s' : Sem β} {f:α→Sem γ} {f' : β→Sem δ} (h:SR P mf nc ρ r K s s') (hf:∀ a b,r a b→SR P mf nc ρ q K (f a) (f' b)) :
  SR P mf nc ρ q K (s >>= f) (s' >>= f'):=SR.bind h hf
theorem zac {α β:Type} {r:α→β→Prop} {a:α} {b:β} (h:r a b):SR P mf nc ρ r K (pure a) (pure b):=.pure h
theorem zad {α β:Type} {r:α→β→Prop} {why:String} {s' : Sem β}:SR P mf nc ρ r K (stuck why:Sem α) s':=.dead trivial
theorem zai {α β:Type} {r:α→β→Prop} {u:Unsupported} {s' : Sem β} (hu:zej (.unsupported u):=by trivial):SR P mf nc ρ r K (unsupported u:Sem α) s':=.dead hu
theorem zbh {α β:Type} {s:Sem α} {f:α→Sem β} (h:Dead P s):Dead P (s >>= f):=Dead.bind h
theorem zbt {α β:Type} {s:Sem α} {f:α→Sem β} (hs:Calm P s) (h:∀ a,Dead P (f a)):Dead P (s >>= f):=Dead.bind_right h hs
theorem Calm.bind {α β:Type} {f:α→Sem β} (hf:∀ a,Calm P (f a)):∀ {s:Sem α},Calm P s→Calm P (s.bind f)
 | .pure a,_=>hf a
 | .load _ _ _,h=>h.elim
 | .store _ _ _ _,h=>h.elim
 | .new _ _,h=>⟨h.1,fun v=>Calm.bind hf (h.2 v)⟩
 | .shape _ _,h=>fun v=>Calm.bind hf (h v)
 | .freeze _ _ k,h=>Calm.bind (s:=k) hf h
 | .frozen _ _,h=>fun v=>Calm.bind hf (h v)
 | .getObj _ _,h=>h.elim
 | .setObj _ _ _,h=>h.elim
 | .choose _ _,h=>fun v=>Calm.bind hf (h v)
 | .sys _ _,h=>h.elim
 | .program k,h=>Calm.bind (s:=k P) hf h
 | .mark _ k,h=>Calm.bind (s:=k) hf h
 | .halt _,h=>h
theorem zce {α β:Type} {s:Sem α} {f:α→Sem β} (hs:Calm P s) (hf:∀ a,Calm P (f a)):Calm P (s >>= f):=Calm.bind hf hs
theorem zh4 (t:TypeId):Calm P (typeInfo t):=by
 unfold typeInfo;refine zce trivial fun p=>?_
 split<;>trivial
theorem zdR (t:TypeId):Calm P (typeStr t):=by
 unfold typeStr;refine zce (zh4 t) fun p=>?_;dsimp only
 split<;>trivial
theorem zf3 (t:TypeId):Calm P (underlying t):=by
 unfold underlying;refine zce trivial fun p=>?_
 split<;>trivial
theorem zjR (t:TypeId):Calm P (elemOf t):=by
 unfold elemOf;refine zce (zf3 t) fun p=>?_
 split<;>trivial
theorem zas {α:Type} (e:RuntimeError):Dead P (runtimePanic e:Sem α):=by
 unfold runtimePanic;refine zbt trivial fun p=>?_
 cases e<;>first
  | exact trivial
  | exact zbt (zjR _) fun _=>zbt ⟨rfl,fun _=>trivial⟩ fun _=>trivial
theorem zaX {α β:Type} {r:α→β→Prop} {e:RuntimeError} {s' : Sem β}:SR P mf nc ρ r K (runtimePanic e:Sem α) s':=.dead (zas e)
theorem zfK {α:Type} (k:IntKind) (x y:Int) (c:BoundsCode):Dead P (boundsPanic k x y c:Sem α):=by
 unfold boundsPanic;simp only
 split<;>exact zbt (by first | exact trivial | exact fun _=>trivial) fun _=>zas _
theorem zbl {α β:Type} {r:α→β→Prop} {k:IntKind} {x y:Int} {c:BoundsCode} {s' : Sem β}:SR P mf nc ρ r K (boundsPanic k x y c:Sem α) s':=.dead (zfK ..)
variable (P) in
inductive Info {α:Type}:Sem α→Prop
 | pure (a:α):Info (.pure a)
 | program {k:Program→Sem α} (h:Info (k P)):Info (.program k)
 | choose {q:Question} {k:Nat→Sem α} (h:∀ n,Info (k n)):Info (.choose q k)
 | halt (h:Halt) (hh:zej h):Info (.halt h)
theorem Info.sr {α:Type} {s:Sem α} (h:Info P s):SI P mf nc ρ K s s:=by
 induction h with
 | pure a=>exact .pure rfl
 | program _ ih=>exact .program ih
 | choose _ ih=>exact .choose ih
 | halt h hh=>exact .dead hh
theorem Info.bind {α β:Type} {s:Sem α} {f:α→Sem β} (h:Info P s) (hf:∀ a,Info P (f a)):Info P (s >>= f):=by
 induction h with
 | pure a=>exact hf a
 | program _ ih=>exact .program ih
 | choose _ ih=>exact .choose ih
 | halt h hh=>exact .halt h hh
theorem za7 {α:Type} (a:α):Info P (pure a:Sem α):=.pure a
theorem zcJ {α:Type} (w:String):Info P (stuck w:Sem α):=.halt _ trivial
theorem za1 (q:Question):Info P (choose q):=.choose fun _=>.pure _
theorem info_program:Info P program:=.program (.pure _)
theorem zaV (t:TypeId):Info P (typeInfo t):=by
 unfold typeInfo;refine info_program.bind fun p=>?_;split
 ·exact .pure _
 ·exact .halt _ trivial
theorem zar (t:TypeId):Info P (underlying t):=by
 unfold underlying;refine info_program.bind fun p=>?_;split
 ·exact .pure _
 ·exact .halt _ trivial
theorem zaP (t:TypeId):Info P (sizeOf t):=(zaV t).bind fun _=>.pure _
theorem zhx (t:TypeId):Info P (isAgg t):=by
 unfold isAgg;refine (zar t).bind fun d=>?_
 split<;>exact .pure _
theorem zmu {α β:Type} {f:α→Sem β} (hf:∀ a,Info P (f a)) (xs:Array α):Info P (xs.mapM f):=by
 rw [Array.mapM_eq_foldlM_push,← Array.foldlM_toList];generalize (#[]:Array β)=acc
 induction xs.toList generalizing acc with
 | nil=>exact .pure _
 | cons a l ih =>
  rw [List.foldlM_cons];refine Info.bind ?_ fun b=>ih b;exact (hf a).bind fun _=>.pure _
mutual
def zdD:Value→Bool
 | .pointer a=>a.isNone
 | .slice a _ _=>a.isNone
 | .map r=>r.isNone
 | .chan r=>r.isNone
 | .func ..=>false
 | .iface _ v=>zdD v
 | .agg cs=>zib cs
 | .tuple vs=>zib vs
 | .bool _ | .int .. | .float .. | .complex .. | .string _ | .nilFunc | .nilIface=>true
def zib:Array Value→Bool
 | ⟨l⟩=>zhK l
def zhK:List Value→Bool
 | []=>true
 | v :: l=>zdD v && zhK l
end
mutual
theorem zde (ρ:Rn):∀ v,zdD v=true→ren ρ v=v
 | .pointer a,h=>by cases a<;>simp_all [zdD,ren]
 | .slice a _ _,h=>by cases a<;>simp_all [zdD,ren]
 | .map r,h=>by cases r<;>simp_all [zdD,ren]
 | .chan r,h=>by cases r<;>simp_all [zdD,ren]
 | .func ..,h=>by cases h
 | .iface _ v,h=>by simp only [zdD] at h;simp only [ren,zde ρ v h]
 | .agg cs,h=>by simp only [zdD] at h;simp only [ren,zgy ρ cs h]
 | .tuple cs,h=>by simp only [zdD] at h;simp only [ren,zgy ρ cs h]
 | .bool _,_ | .int ..,_ | .float ..,_ | .complex ..,_ | .string _,_ | .nilFunc,_ | .nilIface,_=>rfl
theorem zgy (ρ:Rn):∀ a,zib a=true→renA ρ a=a
 | ⟨l⟩,h=>by simp only [zib] at h;simp only [renA,zgD ρ l h]
theorem zgD (ρ:Rn):∀ l,zhK l=true→renL ρ l=l
 | [],_=>rfl
 | v :: l,h=>by
  simp only [zhK,Bool.and_eq_true] at h;simp only [renL,zde ρ v h.1,zgD ρ l h.2]
end
variable (P) in
def zOk (t:TypeId):Bool:=match P.info? t with
 | some i=>(match i.zero with | some v=>zdD v | none=>true)
 | none=>true
theorem zb5 {t:TypeId} (h:zOk P t=true):SV P mf nc ρ K (zeroValue t) (zeroValue t):=by
 unfold zeroValue;have h1:SR P mf nc ρ (fun a b=>b=a∧P.info? t=some a) K (typeInfo t) (typeInfo t):=by
  unfold typeInfo;refine .program ?_;show SR _ _ _ _ _ _ (match P.info? t with | some i=>pure i | none=>stuck "no such type") (match P.info? t with | some i=>pure i | none=>stuck "no such type")
  cases P.info? t with
  | none=>exact zad
  | some i=>exact zac ⟨rfl,rfl⟩
 refine zab h1 ?_;rintro _ i ⟨rfl,hi⟩;simp only [zOk,hi] at h
 cases hz:i.zero with
 | none=>exact zai
 | some v=>rw [hz] at h;exact zac (zde ρ v h).symm
theorem zjh (v:Value):(cellV v).cells=#[cellV v]:=by
 rcases zdw v with ⟨_,h⟩ | ⟨_,_,_,h⟩ | ⟨_,h⟩ | ⟨_,_,_,h,_⟩ | ⟨_,h⟩<;>rw [h]<;>rfl
theorem zb1 {v:Value}:(ren ρ v).cells=v.cells.map (ren ρ):=by
 cases v with
 | chan r =>
  cases r with
  | none=>simp [ren,Value.cells]
  | some x =>
   show (ren ρ (.chan (some x))).cells=#[Value.chan (some x)].map (ren ρ);rw [Array.map_singleton,ren,zjh]
 | func fn a b =>
  obtain⟨fn',a',b',h⟩:=za5 ρ fn a b;show (ren ρ (.func fn a b)).cells=#[Value.func fn a b].map (ren ρ);rw [Array.map_singleton,h];rfl
 | _=>simp [ren,Value.cells,zaE]
theorem zef {v:Value}:SI P mf nc ρ K (asIntOf v) (asIntOf (ren ρ v)):=by
 unfold asIntOf
 cases v<;>first | exact zad | exact zac rfl | (rename_i a;cases a<;>first | exact zad | exact zai)
theorem zfT {v:Value}:SI P mf nc ρ K (asInt v) (asInt (ren ρ v)):=by
 unfold asInt;exact zab zef (by rintro a _ rfl;exact zac rfl)
theorem zgh {v:Value}:SI P mf nc ρ K (asBool v) (asBool (ren ρ v)):=by
 unfold asBool
 cases v<;>first | exact zad | exact zac rfl
theorem zii {v:Value}:SR P mf nc ρ (fun a b=>b=zak ρ a) K (asAddr v) (asAddr (ren ρ v)):=by
 unfold asAddr
 cases v<;>first | exact zad | (rename_i a;cases a<;>first | exact zaX | exact zac rfl)
theorem zcQ {v:Value}:SR P mf nc ρ (fun a b=>b=zak ρ a) K (Instr.sureAddr v) (Instr.sureAddr (ren ρ v)):=by
 unfold Instr.sureAddr
 cases v<;>first | exact zad | (rename_i a;cases a<;>first | exact zad | exact zac rfl)
theorem zbm (a:Addr) (n:Nat):(zak ρ a).add n=zak ρ (a.add n):=by
 unfold Addr.add
 split<;>rfl
theorem zl1 {a:Addr}:SV P mf nc ρ K (load a) (load (zak ρ a)):=.load fun _=>.pure rfl
theorem zoh {a:Addr} {v:Value}:SI P mf nc ρ K (store a v) (store (zak ρ a) (ren ρ v)):=.store (.pure rfl)
theorem zfL {a:Addr} {n:Nat}:∀ {i:Nat} {acc:Array Value},SR P mf nc ρ (fun x y=>y=x.map (ren ρ)) K (loadCellsFrom a i n acc) (loadCellsFrom (zak ρ a) i n (acc.map (ren ρ))):=by
 induction n with
 | zero=>exact zac rfl
 | succ n ih =>
  intro i acc;refine zab (by rw [zbm];exact zl1) ?_;rintro v _ rfl;have:=ih (i:=i+1) (acc:=acc.push v);rw [Array.map_push] at this;exact this
theorem zfv {a:Addr} {n:Nat}:SR P mf nc ρ (fun x y=>y=x.map (ren ρ)) K (loadCells a n) (loadCells (zak ρ a) n):=by
 have:=zfL (P:=P) (mf:=mf) (nc:=nc) (K:=K) (ρ:=ρ) (a:=a) (n:=n) (i:=0) (acc:=#[]);simp only [Array.map_empty] at this;exact this
theorem zcE {a:Addr}:∀ {vs:List Value} {i:Nat},SI P mf nc ρ K (storeCells a vs i) (storeCells (zak ρ a) (vs.map (ren ρ)) i)
 | [],_=>zac rfl
 | v :: rest,i=>by
  refine zab (by rw [zbm];exact zoh) ?_;rintro _ _ rfl;exact zcE
theorem zhe {t:TypeId} {a:Addr}:SV P mf nc ρ K (loadVar t a) (loadVar t (zak ρ a)):=by
 unfold loadVar;refine zab (zhx t).sr ?_;rintro _ b rfl;cases b
 ·exact zl1
 ·refine zab (zaP t).sr ?_
  rintro _ n rfl;refine zab zfv ?_;rintro cs _ rfl;exact zac (by simp [ren,zaE])
theorem zjl {t:TypeId} {a:Addr} {v:Value}:SI P mf nc ρ K (storeVar t a v) (storeVar t (zak ρ a) (ren ρ v)):=by
 unfold storeVar;refine zab (zaP t).sr ?_;rintro _ n rfl;rw [zb1,Array.size_map,Array.toList_map];split
 ·exact zad
 ·exact zcE
theorem zc7 {o:Obj} (h:zaK mf o=true) (hc:zbv o=false):SR P mf nc ρ (fun a b=>b=ρ.p a) K (newObj o) (newObj (zaz ρ o)):=.new h hc fun _=>.pure rfl
theorem zcY {e:TypeId} {cs:Array Value}:SR P mf nc ρ (fun a b=>b=zak ρ a) K (newRow e cs) (newRow e (cs.map (ren ρ))):=by
 unfold newRow;exact zab (zc7 (o:=.cells cs e) rfl rfl) (by rintro a _ rfl;exact zac rfl)
theorem zja {t:TypeId} {v:Value}:SR P mf nc ρ (fun a b=>b=zak ρ a) K (newVar t v) (newVar t (ren ρ v)):=by
 unfold newVar;rw [zb1];exact zcY
theorem zdW {t:TypeId} {cs:Array Value} {off:Nat}:SV P mf nc ρ K (part t cs off) (part t (cs.map (ren ρ)) off):=by
 unfold part;refine zab (zhx t).sr ?_;rintro _ b rfl;cases b
 ·simp only [jqa,if_false,Array.getElem?_map]
  cases cs[off]? with
  | none=>exact zad
  | some v=>exact zac rfl
 ·refine zab (zaP t).sr ?_
  rintro _ n rfl;exact zac (by simp [ren,zaE])
end
end Go.Con
namespace Go.Con
open Go
variable [Lone]
section
variable {P:Program} {mf:Md} {nc:Bool} {ρ:Rn} {K:Nat→Prop}
theorem zee {b:Nat}:SI P mf nc ρ K (shape b) (shape (ρ.p b)):=.shape fun _=>.pure rfl
theorem zcw {b:Nat}:SR P mf nc ρ (fun a b=>b=zaz ρ a) K (getObj b) (getObj (ρ.p b)):=.getObj fun _ _ _=>.pure rfl
theorem ziY {b:Nat}:SR P mf nc ρ (fun a b=>b.isSome=a.isSome) K (viewAt b) (viewAt (ρ.p b)):=by
 unfold viewAt;refine zab zee ?_;rintro _ s rfl
 cases s with
 | some s=>exact zac rfl
 | none =>
  simp only [Option.isSome_none,jqa,if_false];refine zab zcw ?_;rintro o _ rfl
  cases o<;>exact zac rfl
theorem zf7 {b:Nat}:SR P mf nc ρ (fun a b=>b=a.map fun x=>(zak ρ x.1,x.2)) K (numberAt b) (numberAt (ρ.p b)):=by
 unfold numberAt;refine zab zee ?_;rintro _ s rfl
 cases s with
 | some s=>exact zac rfl
 | none =>
  simp only [Option.isSome_none,jqa,if_false];refine zab zcw ?_;rintro o _ rfl
  cases o<;>exact zac rfl
theorem zbb {a:Addr}:SR P mf nc ρ (fun a b=>b=(zak ρ a.1,a.2)) K (behindNumber a) (behindNumber (zak ρ a)):=by
 unfold behindNumber;refine zab zf7 ?_;rintro o _ rfl
 cases o<;>exact zac rfl
theorem zjd {a:Addr} {l:Bool}:SV P mf nc ρ K (asNumber a l) (asNumber (zak ρ a) l):=by
 unfold asNumber;exact zab (zc7 (o:=.number a l) rfl rfl) (by rintro b _ rfl;exact zac rfl)
theorem zm4 {a:Addr}:SI P mf nc ρ K (noView a) (noView (zak ρ a)):=by
 unfold noView;refine zab ziY ?_;intro x y hxy;rw [hxy];split
 ·exact zai
 ·exact zac rfl
theorem zb8:SR P mf nc ρ (fun a b=>a=P∧b=P) K program program:=.program (.pure ⟨rfl,rfl⟩)
theorem zcS {a:Addr}:SI P mf nc ρ K (byteOf a) (byteOf (zak ρ a)):=by
 unfold byteOf;obtain⟨b,off,spot⟩:=a
 cases spot with
 | some s=>exact zac rfl
 | none =>
  refine zab zb8 ?_;rintro _ _ ⟨rfl,rfl⟩;refine zab zm4 ?_;rintro _ _ rfl;refine zab zee ?_;rintro _ s rfl
  cases s with
  | none=>exact zad
  | some s =>
   simp only [zak];split
   ·exact zac rfl
   ·split
    ·exact zac rfl
    ·exact zad
theorem sr_unsafeAddP {ats:Array TypeId} {t:TypeId} {x y:Value}:SR P mf nc ρ (fun a b=>b=ren ρ a∧∃ p,a=.pointer p) K (Builtin.unsafeAdd_ ats t #[x,y]) (Builtin.unsafeAdd_ ats t #[ren ρ x,ren ρ y]):=by
 unfold Builtin.unsafeAdd_
 cases x with
 | pointer ptr =>
  refine zab (s:=asInt y) (s':=asInt (ren ρ y)) zfT ?_;rintro _ n rfl
  cases ptr with
  | none =>
   dsimp only;split
   ·exact zai
   ·split
    ·exact .dead trivial
    ·exact zai
  | some a =>
   dsimp only [Option.map_some];split
   ·refine zab ziY ?_
    intro x y hxy;rw [hxy];split
    ·exact .dead trivial
    ·exact zac ⟨rfl,_,rfl⟩
   ·split
    ·exact .dead trivial
    ·refine zab zee ?_
     rintro _ s rfl
     cases s with
     | none=>exact zai
     | some s =>
      refine zab zb8 ?_;rintro _ _ ⟨rfl,rfl⟩;dsimp only [zak];split
      ·exact zac ⟨rfl,_,rfl⟩
      ·exact zai
 | _=>exact zad
theorem zcu {ats:Array TypeId} {t:TypeId} {x y:Value}:SV P mf nc ρ K (Builtin.unsafeAdd_ ats t #[x,y]) (Builtin.unsafeAdd_ ats t #[ren ρ x,ren ρ y]):=sr_unsafeAddP.mono fun _ _ h=>h.1
end
end Go.Con
namespace Go.Con
open Go
variable [Lone]
section
variable {P:Program} {mf:Md} {nc:Bool} {ρ:Rn} {K:Nat→Prop}
theorem zcs {t:TypeId} {x y:Value}:SV P mf nc ρ K (movedNumber t x y) (movedNumber t (ren ρ x) (ren ρ y)):=by
 unfold movedNumber;refine zab (zar t).sr ?_;rintro _ d rfl
 cases d with
 | unsafePointer=>exact .dead trivial
 | _ =>
  simp only [jqa,if_false]
  cases x with
  | pointer a =>
   cases a with
   | none =>
    exact zcu (x:=.pointer none)
   | some n =>
    refine zab zbb ?_;rintro ⟨a,l⟩ _ rfl;refine zab (sr_unsafeAddP (x:=.pointer (some a))) ?_;rintro _ _ ⟨rfl,b,rfl⟩
    cases b with
    | none=>exact zac rfl
    | some b=>exact zjd
  | chan r=>exact zad
  | func f a b=>exact zad
  | _=>exact zcu
theorem zgt {t:TypeId} {x y:Value}:SV P mf nc ρ K (movedPointer t x y) (movedPointer t (ren ρ x) (ren ρ y)):=by
 unfold movedPointer
 cases x<;>first | exact zcu | exact zad | skip
 rename_i a
 cases a with
 | none=>exact zcu (x:=.pointer none)
 | some a =>
  refine zab zf7 ?_;rintro o _ rfl
  cases o with
  | none =>
   show SV P mf nc ρ K (Builtin.unsafeAdd_ #[] t #[.pointer (some a),y]) (Builtin.unsafeAdd_ #[] t #[ren ρ (.pointer (some a)),ren ρ y]);exact zcu
  | some o=>exact .dead trivial
theorem zfs (R:RenOk P ρ) {a b:Addr}:SI P mf nc ρ K (Op.twoPlaces a b) (Op.twoPlaces (zak ρ a) (zak ρ b)):=by
 unfold Op.twoPlaces;refine zab zb8 ?_;rintro _ Q ⟨rfl,hQ⟩;subst hQ;have e1:((zak ρ a).block != (zak ρ b).block)=(a.block != b.block):=by
  show (ρ.p a.block != ρ.p b.block)=_;rw [Bool.eq_iff_iff];simp only [bne_iff_ne];exact⟨fun h e=>h (by rw [e]),fun h e=>h (R.inj _ _ e)⟩
 have e2:decide ((zak ρ a).block≥Q.globals.size)=decide (a.block≥Q.globals.size):=by
  have:=R.lt a.block;rw [decide_eq_decide];show ρ.p a.block≥_↔_;omega
 rw [e1,e2];split
 ·exact .dead trivial
 ·refine zab zcS ?_
  rintro _ x rfl;refine zab zcS ?_;rintro _ y rfl;exact zac rfl
theorem zkT (R:RenOk P ρ) {k:IntKind} {a b:Addr}:SV P mf nc ρ K (Op.addrSub k a b) (Op.addrSub k (zak ρ a) (zak ρ b)):=by
 unfold Op.addrSub;exact zab (zfs R) (by rintro _ x rfl;exact zac rfl)
theorem zkW (R:RenOk P ρ) {op:BinOp} {a b:Addr}:SV P mf nc ρ K (Op.addrCmp op a b) (Op.addrCmp op (zak ρ a) (zak ρ b)):=by
 unfold Op.addrCmp;exact zab (zfs R) (by rintro _ x rfl;cases op<;>first | exact zac rfl | exact zai)
theorem zhl {k:IntKind} {a:Addr} {n:Int}:SV P mf nc ρ K (Op.addrMod k a n) (Op.addrMod k (zak ρ a) n):=by
 unfold Op.addrMod;refine zab zee ?_;rintro _ s rfl
 cases s with
 | none=>exact zai
 | some s =>
  refine zab (zaV _).sr ?_;rintro _ i rfl;dsimp only;split
  ·exact .dead trivial
  ·exact zab zcS (by rintro _ x rfl;exact zac rfl)
def eqOk (P:Program):Nat→TypeId→Bool
 | 0,_=>true
 | d+1,t=>match P.underlying t with
  | some (.pointer _) | some .unsafePointer | some (.interface _) | some (.array ..) | some (.chan ..)=>false
  | some (.struct fs)=>fs.toList.all fun f=>eqOk P d f.type
  | _=>true
theorem zaT (t:TypeId):SR P mf nc ρ (fun a b=>b=a∧P.underlying t=some a) K (underlying t) (underlying t):=by
 unfold underlying;refine .program ?_;show SR _ _ _ _ _ _ (match P.underlying t with | some d=>pure d | none=>stuck "no such type") (match P.underlying t with | some d=>pure d | none=>stuck "no such type")
 cases P.underlying t with
 | none=>exact zad
 | some i=>exact zac ⟨rfl,rfl⟩
theorem zcc {α β:Type} {f f' : α→β→Sem (ForInStep β)}:∀ {l:List α} {b:β},(∀ x∈l,∀ b,SI P mf nc ρ K (f x b) (f' x b))→SI P mf nc ρ K (forIn l b f) (forIn l b f')
 | [],b,_=>zac rfl
 | a :: l,b,h=>by
  rw [List.forIn_cons,List.forIn_cons];refine zab (h a (by simp) b) ?_;rintro _ s rfl
  cases s with
  | done b=>exact zac rfl
  | yield b=>exact zcc fun x hx=>h x (by simp [hx])
theorem zlz (R:RenOk P ρ) (d:Nat):∀ (t:TypeId) (x y:Value),eqOk P d t=true→SI P mf nc ρ K (Op.equalIn d t x y) (Op.equalIn d t (ren ρ x) (ren ρ y)):=by
 induction d with
 | zero=>exact fun _ _ _ _=>zai
 | succ d ih =>
  intro t x y h;unfold Op.equalIn;refine zab (zaT t) ?_;rintro _ u ⟨rfl,hu⟩;simp only [eqOk,hu] at h
  cases u with
  | bool =>
   cases x with
   | bool a=>cases y<;>first | exact zac rfl | exact zad
   | _=>exact zad
  | int k =>
   cases x with
   | int k a =>
    cases y with
    | int k' b =>
     dsimp only [ren];split
     ·exact zac rfl
     ·exact zad
    | pointer b =>
     cases b with
     | none=>exact zai
     | some b=>rcases a with (_ | a) | a<;>first | exact zac rfl | exact zai
    | _=>exact zad
   | pointer a =>
    cases a with
    | none=>cases y<;>exact zai
    | some a =>
     cases y with
     | int k b=>rcases b with (_ | b) | b<;>first | exact zac rfl | exact zai
     | pointer b =>
      cases b with
      | none=>exact zai
      | some b =>
       refine zab zbb ?_;rintro ⟨a,l⟩ _ rfl;refine zab zbb ?_;rintro ⟨b,m⟩ _ rfl;refine zab zb8 ?_;rintro _ Q ⟨rfl,hQ⟩;subst hQ;have e1:((zak ρ a).block == (zak ρ b).block)=(a.block == b.block):=by
        show (ρ.p a.block == ρ.p b.block)=_;rw [Bool.eq_iff_iff];simp only [beq_iff_eq];exact⟨fun e=>R.inj _ _ e,fun e=>by rw [e]⟩
       have e2:decide ((zak ρ a).block<Q.globals.size)=decide (a.block<Q.globals.size):=by
        rw [decide_eq_decide];exact R.lt _
       have e3:(zak ρ a == zak ρ b)=(a == b):=by
        rw [Bool.eq_iff_iff];simp only [beq_iff_eq];refine⟨fun e=>?_,fun e=>by rw [e]⟩;obtain⟨a1,a2,a3⟩:=a;obtain⟨b1,b2,b3⟩:=b;simp only [zak,Addr.mk.injEq] at e ⊢;exact⟨R.inj _ _ e.1,e.2⟩
       dsimp only;rw [e1,e2];split
       ·refine zab zcS ?_
        rintro _ x rfl;refine zab zcS ?_;rintro _ y rfl;exact zac rfl
       ·refine zab (zaV _).sr ?_
        rintro _ i rfl;split
        ·rw [e3]
         split
         ·exact zac rfl
         ·exact zai
        ·exact zai
     | _=>exact zai
   | _=>cases y<;>first | exact zad | exact zai
  | string =>
   cases x with
   | string a=>cases y<;>first | exact zac rfl | exact zad
   | _=>exact zad
  | slice e =>
   cases x with
   | slice a n c =>
    cases y with
    | slice b m q=>cases a<;>cases b<;>first | exact zac rfl | exact zad
    | _=>cases a<;>exact zad
   | _=>exact zad
  | map k e =>
   cases x with
   | map a =>
    cases y with
    | map b=>cases a<;>cases b<;>first | exact zac rfl | exact zad
    | _=>cases a<;>exact zad
   | _=>exact zad
  | func a b c =>
   cases x with
   | func f a' b' =>
    obtain⟨_,_,_,h1⟩:=za5 ρ f a' b';rw [h1]
    cases y with
    | func f' a'' b''=>obtain⟨_,_,_,h2⟩:=za5 ρ f' a'' b'';rw [h2];first | exact zac rfl | exact zad
    | _=>first | exact zac rfl | exact zad
   | nilFunc =>
    cases y with
    | func f' a'' b''=>obtain⟨_,_,_,h2⟩:=za5 ρ f' a'' b'';rw [h2];first | exact zac rfl | exact zad
    | _=>first | exact zac rfl | exact zad
   | _=>exact zad
  | struct fs =>
   cases x with
   | agg xs =>
    cases y with
    | agg ys =>
     refine zab zb8 ?_;rintro _ Q ⟨rfl,hQ⟩;subst hQ;dsimp only [ren];rw [zaE,zaE];split
     ·exact .dead trivial
     ·refine zab (r:=fun a b=>b=a) ?_ ?_
      ·rw [← jqb,← jqb]
       refine zcc fun f hf b=>?_;have hfo:=List.all_eq_true.1 h f hf;split
       ·refine zab zdW ?_
        rintro v _ rfl;refine zab zdW ?_;rintro v' _ rfl;refine zab (ih f.type v v' hfo) ?_;rintro _ b rfl
        split<;>exact zac rfl
       ·exact zac rfl
      ·rintro _ r rfl
       obtain⟨r,_⟩:=r
       cases r<;>exact zac rfl
    | _=>exact zad
   | _=>exact zad
  | float k =>
   cases x with
   | float k a =>
    cases y with
    | float k' b =>
     dsimp only [ren];split
     ·exact zac rfl
     ·exact zad
    | _=>exact zad
   | _=>exact zad
  | complex k =>
   cases x with
   | complex k a c =>
    cases y with
    | complex k' b e =>
     dsimp only [ren];split
     ·exact zac rfl
     ·exact zad
    | _=>exact zad
   | _=>exact zad
  | _=>first | (cases h;done) | exact zad
theorem zhX (R:RenOk P ρ) {t:TypeId} {x y:Value} (h:eqOk P Op.maxDepth t=true):SI P mf nc ρ K (Op.equal t x y) (Op.equal t (ren ρ x) (ren ρ y)):=zlz R _ _ _ _ h
theorem zfz (d:Nat):∀ (t:TypeId) (x y:Value),eqOk P d t=true→SI P mf nc ρ K (Op.eqGuardIn d t x y) (Op.eqGuardIn d t (ren ρ x) (ren ρ y)):=by
 induction d with
 | zero=>exact fun _ _ _ _=>zai
 | succ d ih =>
  intro t x y h;unfold Op.eqGuardIn;refine zab (zaT t) ?_;rintro _ u ⟨rfl,hu⟩;simp only [eqOk,hu] at h
  cases u with
  | interface _=>cases h
  | array=>cases h
  | struct fs =>
   cases x with
   | agg xs =>
    cases y with
    | agg ys =>
     dsimp only [ren];rw [zaE,zaE];refine zab (r:=fun a b=>b=a) ?_ ?_
     ·rw [← jqb,← jqb]
      refine zcc fun f hf b=>?_;have hfo:=List.all_eq_true.1 h f hf;split
      ·refine zab zdW ?_
       rintro v _ rfl;refine zab zdW ?_;rintro v' _ rfl;refine zab (ih f.type v v' hfo) ?_;rintro _ b rfl
       split<;>exact zac rfl
      ·exact zac rfl
     ·rintro _ r rfl
      obtain⟨r,_⟩:=r
      cases r<;>exact zac rfl
    | chan r=>rcases zcd ρ r with ⟨_,h⟩ | ⟨_,_,_,h⟩ | ⟨_,h⟩ | ⟨_,_,_,h,_⟩ | ⟨_,h⟩<;>rw [h]<;>exact zac rfl
    | func f a b=>obtain⟨_,_,_,h⟩:=za5 ρ f a b;rw [h];exact zac rfl
    | _=>exact zac rfl
   | chan r=>rcases zcd ρ r with ⟨_,h⟩ | ⟨_,_,_,h⟩ | ⟨_,h⟩ | ⟨_,_,_,h,_⟩ | ⟨_,h⟩<;>rw [h]<;>exact zac rfl
   | func f a b=>obtain⟨_,_,_,h⟩:=za5 ρ f a b;rw [h];exact zac rfl
   | _=>exact zac rfl
  | _=>exact zac rfl
theorem zll {op:BinOp} {t:TypeId} {x y:Operand} {a b:Value} (h:(op=.eql∨op=.neq)→eqOk P Op.maxDepth t=true):SI P mf nc ρ K (eqGuard op t x y a b) (eqGuard op t x y (ren ρ a) (ren ρ b)):=by
 unfold eqGuard
 cases op with
 | eql | neq =>
  have ho:=h (by simp)
  cases a with
  | nilIface =>
   cases b with
   | nilIface =>
    cases x<;>cases y<;>first
     | exact zac rfl
     | (refine zab (zfz _ t .nilIface .nilIface ho) ?_
        rintro _ c rfl;cases c
        ·exact zac rfl
        ·exact zai)
   | chan r=>rcases zcd ρ r with ⟨_,h⟩ | ⟨_,_,_,h⟩ | ⟨_,h⟩ | ⟨_,_,_,h,_⟩ | ⟨_,h⟩<;>rw [h]<;>exact zac rfl
   | func f a b=>obtain⟨_,_,_,h⟩:=za5 ρ f a b;rw [h];exact zac rfl
   | _=>exact zac rfl
  | agg xs =>
   cases b with
   | agg ys =>
    refine zab zb8 ?_;rintro _ Q ⟨rfl,hQ⟩;subst hQ;refine zab zb8 ?_;rintro _ Q' ⟨rfl,hQ⟩;subst hQ;split
    ·exact zac rfl
    ·refine zab (zfz _ t (.agg xs) (.agg ys) ho) ?_
     rintro _ c rfl;split
     ·exact zai
     ·exact zac rfl
   | chan r=>rcases zcd ρ r with ⟨_,h⟩ | ⟨_,_,_,h⟩ | ⟨_,h⟩ | ⟨_,_,_,h,_⟩ | ⟨_,h⟩<;>rw [h]<;>exact zac rfl
   | func f a b=>obtain⟨_,_,_,h⟩:=za5 ρ f a b;rw [h];exact zac rfl
   | _=>exact zac rfl
  | chan r=>rcases zcd ρ r with ⟨_,h⟩ | ⟨_,_,_,h⟩ | ⟨_,h⟩ | ⟨_,_,_,h,_⟩ | ⟨_,h⟩<;>rw [h]<;>exact zac rfl
  | func f a b=>obtain⟨_,_,_,h⟩:=za5 ρ f a b;rw [h];exact zac rfl
  | _=>exact zac rfl
 | _=>exact zac rfl
end
end Go.Con
