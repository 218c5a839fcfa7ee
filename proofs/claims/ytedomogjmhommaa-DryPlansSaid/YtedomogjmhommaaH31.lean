import Derived.Test.YtedomogjmhommaaH28
import Derived.Test.YtedomogjmhommaaH30
set_option linter.all false
set_option maxRecDepth 100000
set_option maxHeartbeats 8000000
namespace Go.Con
open Go
variable [Lone]
section
variable {P:Program} {maps:Bool}
def zjt:Next→Prop
 | .value _ | .skip | .enter .. | .round ..=>True
 | _=>False
theorem zbI {s:Sem Value} {w w1:World} {n:Next} (h:(do pure (.value (← s)):Sem Next).run P w=.ok n w1):zjt n:=by
 rw [Sem.run_bind] at h
 cases hs:s.run P w with
 | halt=>rw [hs] at h;cases h
 | ok v w2=>rw [hs] at h;cases h;trivial
theorem znC {s:Sem Unit} {w w1:World} {n:Next} (h:(do s;pure .skip:Sem Next).run P w=.ok n w1):zjt n:=by
 rw [Sem.run_bind] at h
 cases hs:s.run P w with
 | halt=>rw [hs] at h;cases h
 | ok v w2=>rw [hs] at h;cases h;trivial
theorem zir {f:FuncId} (hg:zaR P (.func f)=true) {args:Array Value} {w w1:World} {n:Next} (h:(callFunc f args).run P w=.ok n w1):zjt n:=by
 unfold callFunc at h
 rw [Sem.run_bind] at h
 simp only [program,Sem.run,Result.andThen] at h
 simp only [zaR] at hg
 cases hf:P.funcs[f]? with
 | none=>rw [hf] at hg;cases hg
 | some fn =>
  rw [hf] at hg h
  simp only [Bool.and_eq_true] at hg
  have h1:(fn.name == "runtime.NumGoroutine")=false:=by
   have:=hg.1.2
   simpa [bne] using this
  have h2:fn.body.isNone=false:=by
   cases hb:fn.body<;>simp_all
  simp only [h1,h2,Bool.false_eq_true,if_false] at h
  cases h
  trivial
theorem zea {f:Value} (hc:zcs P f=true) {args:Array Value} {w w1:World} {n:Next}
  (h:(do let d ← Deferred.ofValue f args;invoke d.target d.args).run P w=.ok n w1):zjt n:=by
 cases f with
 | func fn a b =>
  cases fn with
  | func g=>exact zir hc h
  | yield l =>
   change (Instr.yield l (a++args)).run P w=_ at h
   unfold Instr.yield at h
   rw [Sem.run_bind] at h
   cases hs:(Instr.getLoop l).run P w with
   | halt=>rw [hs] at h;cases h
   | ok r w2 =>
    rw [hs] at h
    simp only [Result.andThen] at h
    split at h
    ·cases h
    ·cases h;trivial
  | method s =>
   exfalso
   obtain⟨x,rfl,rfl⟩:=zbW hc
   have e:(#[Value.nilIface]++args)[0]?=some .nilIface:=by
    rw [Array.getElem?_append_left (by simp)];rfl
   change (invoke (.fn (.method s) #[.chan (some x)]) (#[.nilIface]++args)).run P w=_ at h
   unfold invoke at h
   rw [e] at h
   exact zaF (zax (P:=P) (α:=Next) .nilDeref) _ _ h
  | _=>cases hc
 | nilFunc =>
  exfalso
  have:=zaF (zax (P:=P) (α:=Next) .nilDeref) (W:=w) n w1
  exact this h
 | _=>cases h
theorem zkA {e:Operand→Value} {o:Oper} (ho:okOp P maps o.op=true) (hv:zhp P e o.op=true) {w w1:World} {n:Next} (h:(execOp e o).run P w=.ok n w1):zjt n:=by
 unfold execOp at h
 obtain⟨dst,op,ty,pos,after,guard⟩:=o
 cases op with
 | move x=>cases h;trivial
 | assign x=>cases h;trivial
 | pick c a b =>
  dsimp only at h
  rw [Sem.run_bind] at h
  cases hs:(asBool (e c)).run P w with
  | halt=>rw [hs] at h;cases h
  | ok v w2=>rw [hs] at h;cases h;trivial
 | nilCheck x =>
  have hv' : zcs P (e x)=true:=hv
  dsimp only at h
  have hp:∀ n w1,(runtimePanic .nilDeref:Sem Next).run P w≠.ok n w1:=fun n w1=>zaF (zax (P:=P) (α:=Next) .nilDeref) n w1
  cases hx:e x with
  | pointer a=>rw [hx] at h;cases a<;>first | exact (hp _ _ h).elim | (cases h;trivial)
  | nilIface=>rw [hx] at h;exact (hp _ _ h).elim
  | nilFunc=>rw [hx] at h;exact (hp _ _ h).elim
  | func fn a b =>
   rw [hx] at h hv'
   cases fn with
   | method s=>obtain⟨x,rfl,rfl⟩:=zbW hv';exact (hp _ _ h).elim
   | _=>first | (cases hv';done) | (cases h;trivial)
  | _=>rw [hx] at h;cases h;trivial
 | store t a x=>exact znC h
 | mapUpdate t m k x=>exact znC h
 | insert t m k x=>exact znC h
 | call c =>
  obtain⟨cal,args,ats⟩:=c
  simp only [okOp,zln,Bool.and_eq_true] at ho
  dsimp only [resolve] at h
  cases cal with
  | value f=>exact zea hv h
  | builtin b =>
   change (builtin b ats ty _ _).run P w=_ at h
   unfold builtin at h
   cases b<;>first | (cases ho.2;done) | exact zbI h
  | invoke=>cases ho.2
 | alloc=>exact zbI h
 | box=>exact zbI h
 | build=>exact zbI h
 | buildSlice=>exact zbI h
 | load=>exact zbI h
 | binOp=>exact zbI h
 | unOp=>exact zbI h
 | convert=>exact zbI h
 | makeFunc=>exact zbI h
 | makeMap=>exact zbI h
 | makeSlice=>exact zbI h
 | slice=>exact zbI h
 | fieldAddr=>exact zbI h
 | field=>exact zbI h
 | indexAddr=>exact zbI h
 | index=>exact zbI h
 | lookup=>exact zbI h
 | range=>exact zbI h
 | next=>exact zbI h
 | entry=>exact zbI h
 | extract=>exact zbI h
 | _=>cases ho
def zdQ (P:Program) (fr:Frame):Prop:=match fr.todo with
 | .code (.rangeFunc f ..) :: _=>zcs P (fr.eval f)=true
 | .inRegion ops (i :: _) :: _=>∀ o,ops[i]?=some o→zhp P fr.eval o.op=true
 | _=>True
def fails (s:GStep) (cs:List Frame) (w:World):Prop :=
 (∃ o w es,s=.ended o w es) ∨
 ∃ fr v es,s=.go { frame:=Frame.raise fr [{ v,recovered:=false }],callers:=cs,status:=.running,dying:=none } w es∧fr.mode=.run∧fr.kind=.normal ∧
  (∀ d∈fr.defers,∃ r,d={ target:=.collected r,args:=#[] })
theorem zbb {s:GStep} {cs:List Frame} {es:Array Event} {w1:World} (h:fails s cs w1):fails (GStep.after es s) cs w1:=by
 rcases h with ⟨o,w,e,rfl⟩ | ⟨fr,v,e,rfl,h1,h2⟩
 ·exact .inl ⟨o,w,es++e,rfl⟩
 ·exact .inr ⟨fr,v,es++e,rfl,h1,h2⟩
theorem zda {fr:Frame} {cs:List Frame} {s:Sem Next} {w w1:World} {hh:Halt} (hm:fr.mode=.run) (hk:fr.kind=.normal) (hd:∀ d∈fr.defers,∃ r,d={ target:=.collected r,args:=#[] })
  (h:s.run P w=.halt hh w1) (hok:zeb hh):fails (stepG.apply P true fr cs none s w) cs w1:=by
 unfold stepG.apply
 simp only [Sem.runT_eq,if_true]
 rw [h]
 cases hh with
 | panic v=>exact zbb (.inr ⟨fr,v,#[],rfl,hm,hk,hd⟩)
 | stuck v=>exact zbb (.inl ⟨_,_,#[],rfl⟩)
 | unsupported u=>cases u<;>first | exact hok.elim | exact zbb (.inl ⟨_,_,#[],rfl⟩)
 | _=>exact hok.elim
theorem zen {main:Bool} {fr:Frame} {cs:List Frame} {jump:Option Code} {w w1:World} {hh:Halt} (hcs:fr.roundOf=none∨cs≠[]) :
  (zaU fr cs jump).run P w=.halt hh w1 →
  fails (match fr.roundOf with
   | none=>if jump matches none | some .ret then .go { frame:={ fr with mode:=.returning },callers:=cs,status:=.running,dying:=none } w else .ended (.stuck "exit, goto: no such block or label" (fr.pos P)) w
   | some l =>
    let (r,es):=(Instr.endRound l jump).runT P w #[]
    GStep.after (seen P fr.fn es) <| match r with
    | .ok v w=>doReturn P main fr cs none v w
    | .halt _ w=>.ended (.stuck "range over a function: no such loop" (fr.pos P)) w) cs w1:=by
 intro h
 obtain⟨fn,tmps,todo,defers,mode,kind,roundOf⟩:=fr
 cases roundOf with
 | none =>
  cases jump with
  | none=>cases h
  | some c=>cases c<;>first | (cases h;done) | exact .inl ⟨_,_,_,rfl⟩
 | some l =>
  dsimp only [zaU] at h ⊢
  rw [Sem.run_bind] at h
  simp only [Sem.runT_eq]
  cases hs:(Instr.endRound l jump).run P w with
  | halt hh w1=>exact zbb (.inl ⟨_,_,_,rfl⟩)
  | ok v w1 =>
   rw [hs] at h
   simp only [Result.andThen] at h
   cases cs with
   | nil=>exact absurd rfl (hcs.resolve_left (by simp))
   | cons c rest=>cases h
theorem zhk {fn:FuncId} {tmps:Array Value} {params:Array Tmp} {a b:Code} {around:Option Nat} {w w1:World} {x:Nat×List Deferred}
  (h:(Instr.enterLoop fn tmps params a b around).run P w=.ok x w1):∀ d∈x.2,∃ r,d={ target:=.collected r,args:=#[] }:=by
 unfold Instr.enterLoop at h
 cases around with
 | none =>
  dsimp only at h
  rw [Sem.run_bind] at h
  cases hs:(newObj (.deferred (some []))).run P w with
  | halt=>rw [hs] at h;cases h
  | ok r w2 =>
   rw [hs] at h
   cases h
   intro d hd
   exact⟨r,List.mem_singleton.1 hd⟩
 | some l =>
  dsimp only at h
  rw [Sem.run_bind] at h
  cases hs:(Instr.getLoop l).run P w with
  | halt=>rw [hs] at h;cases h
  | ok r w2 =>
   rw [hs] at h
   cases h
   intro d hd
   cases hd
theorem zmG {main:Bool} {fr:Frame} {cs:List Frame} {st:GoStatus} {off:Option (Array CommCase×CommShape)} {w w1:World} {hh:Halt} (hok:OkFrame P maps fr) (hc:zdQ P fr)
  (hcs:fr.roundOf=none∨cs≠[]) (hret:fr.mode=.returning→fr.defers=[]→cs≠[]) (h:(zan P fr cs).run P w=.halt hh w1) (hhok:zeb hh) :
  fails (stepG P main { frame:=fr,callers:=cs,status:=st,dying:=none,offers:=off } w true) cs w1:=by
 have hk:=hok.kind
 have hd:=hok.defers
 rcases hok.mode with hm | hm
 ·unfold zan at h
  rw [hm] at h
  have hst:stepG P main { frame:=fr,callers:=cs,status:=st,dying:=none,offers:=off } w true=stepG.exec P main true fr cs none w:=by
   unfold stepG
   simp only [hm]
  rw [hst]
  have htodo:=hok.todo
  obtain⟨fn,tmps,todo,defers,mode,kind,roundOf⟩:=fr
  dsimp only at hm hk htodo hd hcs
  subst hm hk
  dsimp only at h
  unfold stepG.exec
  unfold zb3 at h
  cases todo with
  | nil=>exact zen hcs h
  | cons it k =>
   simp only [List.all_cons,Bool.and_eq_true] at htodo
   cases it with
   | code c =>
    cases c with
    | skip=>cases h
    | ret=>exact zen hcs h
    | seq a b=>cases h
    | block id b=>cases h
    | loop b=>cases h
    | scope b=>cases h
    | label l=>cases h
    | cond c a b =>
     dsimp only at h ⊢
     split at h
     ·cases h
     ·rename_i hx
      split
      ·rename_i b hb
       exact (hx b hb).elim
      ·exact .inl ⟨_,_,_,rfl⟩
    | exit id =>
     dsimp only at h ⊢
     cases he:exitTo id k with
     | none=>rw [he] at h;exact zen hcs h
     | some k'=>rw [he] at h;cases h
    | region id ops draw =>
     cases draw
     ·cases h
     ·simp only [Bool.not_true,Bool.false_eq_true,if_false] at h ⊢
      rw [Sem.run_bind] at h
      cases hc:(choose (.order fn id)).run P w with
      | halt hh w1=>exact .inl ⟨_,_,_,rfl⟩
      | ok t w1=>rw [hc] at h;cases h
    | rangeFunc f params assign body =>
     dsimp only at h ⊢
     simp only [Sem.runT_eq]
     rw [Sem.run_bind] at h
     cases hs:(Instr.enterLoop fn tmps params assign body roundOf).run P w with
     | halt hh w1=>exact zbb (.inl ⟨_,_,_,rfl⟩)
     | ok x w2 =>
      have hmk:=zhk hs
      obtain⟨l,mark⟩:=x
      rw [hs] at h
      simp only [Result.andThen] at h ⊢
      have hres:resolve (Frame.eval { fn:=fn,tmps:=tmps,todo:=Item.inRangeFunc l :: k,defers:=mark++defers,mode:=FrameMode.run,kind:=CallKind.normal,roundOf:=roundOf }) { callee:=.value f,args:=#[.const (.func (.yield l) #[] #[])],argTypes:=#[] } 0 =
        Deferred.ofValue (Frame.eval { fn:=fn,tmps:=tmps,todo:=Item.code (Code.rangeFunc f params assign body) :: k,defers:=defers,mode:=FrameMode.run,kind:=CallKind.normal,roundOf:=roundOf } f) #[.func (.yield l) #[] #[]]:=by
       cases f<;>simp [resolve,Frame.eval]
      rw [hres]
      rw [Sem.run_bind] at h
      cases hn:(do let d ← Deferred.ofValue (Frame.eval { fn:=fn,tmps:=tmps,todo:=Item.code (Code.rangeFunc f params assign body) :: k,defers:=defers,mode:=FrameMode.run,kind:=CallKind.normal,roundOf:=roundOf } f) #[.func (.yield l) #[] #[]];invoke d.target d.args:Sem Next).run P w2 with
      | ok n w3 =>
       rw [hn] at h
       have:=zea hc hn
       cases n<;>first | exact this.elim | (cases h;done)
      | halt hh3 w3 =>
       rw [hn] at h
       cases h
       refine zbb (zda rfl rfl ?_ hn hhok)
       intro d hdm
       rcases List.mem_append.1 hdm with hdm | hdm
       ·exact hmk d hdm
       ·exact hd d hdm
    | _=>cases htodo.1
   | inBlock id=>cases h
   | inScope c=>cases h
   | inLoop b=>cases h
   | inRegion ops todo =>
    cases todo with
    | nil=>cases h
    | cons i rest =>
     dsimp only at h ⊢
     split at h
     ·rename_i hw
      rw [if_pos hw]
      cases ho:ops[i]? with
      | none=>rw [ho] at hw;cases hw
      | some o =>
       rw [ho] at h
       have hop:okOp P maps o.op=true:=by
        have:=htodo.1
        simp only [za3,List.all_cons,ho,Option.all_some,Bool.and_eq_true] at this
        exact this.1
       have hf:({ fn:=fn,tmps:=tmps,todo:=Item.inRegion ops (i :: rest) :: k,defers:=defers,mode:=FrameMode.run,kind:=CallKind.normal,roundOf:=roundOf }:Frame).oper?=some o:=ho
       unfold stepG.oper
       rw [hf]
       dsimp only at h
       rw [Sem.run_bind] at h
       have hg2:fails (stepG.apply P true { fn:=fn,tmps:=tmps,todo:=Item.inRegion ops (i :: rest) :: k,defers:=defers,mode:=FrameMode.run,kind:=CallKind.normal,roundOf:=roundOf } cs none
         (execOp (Frame.eval { fn:=fn,tmps:=tmps,todo:=Item.inRegion ops (i :: rest) :: k,defers:=defers,mode:=FrameMode.run,kind:=CallKind.normal,roundOf:=roundOf }) o) w) cs w1:=by
        cases hn:(execOp (Frame.eval { fn:=fn,tmps:=tmps,todo:=Item.inRegion ops (i :: rest) :: k,defers:=defers,mode:=FrameMode.run,kind:=CallKind.normal,roundOf:=roundOf }) o).run P w with
        | ok n w3 =>
         rw [hn] at h
         have:=zkA hop (hc o ho) hn
         cases n<;>first | exact this.elim | (cases h;done)
        | halt hh3 w3 =>
         rw [hn] at h
         cases h
         exact zda rfl rfl hd hn hhok
       dsimp only
       split
       ·rename_i l c hh
        rw [hh] at hop
        cases hop
       ·exact hg2
     ·cases h
   | inRangeFunc l=>exact .inl ⟨_,_,_,rfl⟩
   | endRangeFunc l =>
    dsimp only at h ⊢
    simp only [Sem.runT_eq]
    rw [Sem.run_bind] at h
    cases hs:(Instr.endLoop l).run P w with
    | halt hh2 w2 =>
     rw [hs] at h
     cases h
     cases hh with
     | panic v=>exact zbb (.inr ⟨_,v,#[],rfl,rfl,rfl,hd⟩)
     | _=>exact zbb (.inl ⟨_,_,_,rfl⟩)
    | ok jump w1=>rw [hs] at h;cases h
   | beginRound =>
    dsimp only at h ⊢
    rw [Sem.run_bind] at h
    cases hs:(roundOf.elim (stuck "") Instr.beginRound:Sem Unit).run P w with
    | ok u w1=>rw [hs] at h;cases h
    | halt hh2 w2 =>
     rw [hs] at h
     cases h
     cases roundOf with
     | none =>
      change (Result.halt (.stuck "") w:Result Unit)=_ at hs
      cases hs
      exact zda (hh:=.stuck "beginRound: no round") rfl rfl hd rfl trivial
     | some l =>
      refine zda rfl rfl hd (w1:=w1) ?_ hhok
      rw [Sem.run_bind]
      change ((Instr.beginRound l).run P w).andThen _=_
      change (Instr.beginRound l).run P w=_ at hs
      rw [hs]
      rfl
   | _=>cases htodo.1
 ·
  obtain⟨fn,tmps,todo,defers,mode,kind,roundOf⟩:=fr
  dsimp only at hm hk hret
  subst hm hk
  have hst:stepG P main { frame:={ fn:=fn,tmps:=tmps,todo:=todo,defers:=defers,mode:=FrameMode.returning,kind:=CallKind.normal,roundOf:=roundOf },callers:=cs,status:=st,dying:=none,offers:=off } w true=unwind P main { fn:=fn,tmps:=tmps,todo:=todo,defers:=defers,mode:=FrameMode.returning,kind:=CallKind.normal,roundOf:=roundOf } cs none w:=by
   unfold stepG
   rfl
  rw [hst]
  unfold unwind
  unfold zan at h
  dsimp only at h ⊢ hd
  cases defers with
  | cons d ds =>
   obtain⟨b,rfl⟩:=hd d (List.mem_cons_self ..)
   dsimp only at h ⊢
   simp only [Sem.runT_eq]
   rw [Sem.run_bind] at h
   cases hs:(Instr.takeDeferred b).run P w with
   | halt hh w1=>exact zbb (.inl ⟨_,_,_,rfl⟩)
   | ok calls w1=>rw [hs] at h;cases h
  | nil =>
   dsimp only at h ⊢
   cases hf:P.funcs[fn]? with
   | none =>
    rw [hf] at h
    cases cs with
    | nil=>exact absurd rfl (hret rfl rfl)
    | cons c rest=>cases h
   | some f =>
    rw [hf] at h
    dsimp only at h ⊢
    simp only [Sem.runT_eq]
    rw [Sem.run_bind] at h
    cases hs:(results f tmps).run P w with
    | halt hh2 w2=>cases hh2<;>exact zbb (.inl ⟨_,_,_,rfl⟩)
    | ok v w1 =>
     rw [hs] at h
     simp only [Result.andThen] at h
     cases cs with
     | nil=>exact absurd rfl (hret rfl rfl)
     | cons c rest=>cases h
end
end Go.Con
namespace Go.Con
open Go
variable [Lone]
def zal (ρ:Rn):Item→Item
 | .inRangeFunc l=>.inRangeFunc (ρ.p l)
 | .endRangeFunc l=>.endRangeFunc (ρ.p l)
 | .call d w r s=>.call (zaE ρ d) w r (s.map (ren ρ))
 | .extern row args=>.extern row (args.map (ren ρ))
 | .code c=>.code c
 | .inBlock i=>.inBlock i
 | .inLoop b=>.inLoop b
 | .inScope b=>.inScope b
 | .inRegion ops l=>.inRegion ops l
 | .beginRound=>.beginRound
def zab (ρ:Rn) (fr:Frame):Frame:={ fr with tmps:=fr.tmps.map (ren ρ),todo:=fr.todo.map (zal ρ),defers:=fr.defers.map (zaE ρ),roundOf:=fr.roundOf.map ρ.p }
section
variable {P:Program} {maps nc:Bool} {ρ:Rn} {K:Nat→Prop}
theorem zik (tmps:Array Value) (t:Nat):(tmps.map (ren ρ)).getD t undef=ren ρ (tmps.getD t undef):=by
 simp only [Array.getD_eq_getD_getElem?,Array.getElem?_map]
 cases tmps[t]? with
 | none=>exact ren_undef.symm
 | some v=>rfl
theorem zcf (R:RenOk P ρ) {fr:Frame} (x:Operand) (h:zaS P x=true):(zab ρ fr).eval x=ren ρ (fr.eval x):=by
 cases x with
 | tmp t=>exact zik fr.tmps t
 | const v=>exact (zc4 ρ v h).symm
 | global g =>
  have hg:g<P.globals.size:=by simpa [zaS] using h
  show Value.pointer (some ⟨g,0,none⟩)=Value.pointer (some ⟨ρ.p g,0,none⟩)
  rw [R.fix g hg]
 | func f =>
  show Value.func (.func f) #[] #[]=Value.func (ρ.o (.func f)) (renA ρ #[]) (renA ρ #[])
  rw [R.fixo _ (show zaR P (.func f)=true from h)]
  simp [zaD]
theorem map_set (tmps:Array Value) (d:Nat) (v:Value):(tmps.map (ren ρ)).setIfInBounds d (ren ρ v)=(tmps.setIfInBounds d v).map (ren ρ):=Array.map_setIfInBounds.symm
theorem zaQ {fr:Frame} {v:Value}:(zab ρ fr).finish (ren ρ v)=zab ρ (fr.finish v):=by
 obtain⟨fn,tmps,todo,defers,mode,kind,roundOf⟩:=fr
 unfold Frame.finish zab
 cases todo with
 | nil=>rfl
 | cons it k =>
  cases it with
  | inRegion ops l =>
   cases l with
   | nil=>rfl
   | cons i rest =>
    simp only [List.map_cons,zal]
    cases (ops[i]?).bind (·.dst) with
    | none=>rfl
    | some d=>simp only [map_set]
  | call d w r s=>simp [zal]
  | extern r a=>simp [zal]
  | _=>rfl
theorem zdA {fr:Frame} {v:Value} (h:OkFrame P maps fr):OkFrame P maps (fr.finish v):=by
 obtain⟨fn,tmps,todo,defers,mode,kind,roundOf⟩:=fr
 obtain⟨h1,h2,h3,h4⟩:=h
 unfold Frame.finish
 cases todo with
 | nil=>exact⟨h1,h2,h3,h4⟩
 | cons it k =>
  simp only [List.all_cons,Bool.and_eq_true] at h1
  cases it with
  | inRegion ops l =>
   cases l with
   | nil=>exact⟨by simpa using h1,h2,h3,h4⟩
   | cons i rest =>
    simp only [za3,List.all_cons,Bool.and_eq_true] at h1
    exact⟨by simp only [List.all_cons,za3,h1.1.2,h1.2,Bool.and_self],h2,h3,h4⟩
  | call=>cases h1.1
  | extern=>cases h1.1
  | inRangeFunc l=>exact⟨by simpa [za3] using h1,h2,h3,h4⟩
  | beginRound=>exact⟨by simpa [za3] using h1.2,h2,h3,h4⟩
  | _=>exact⟨by simpa using h1,h2,h3,h4⟩
theorem finish_fn {fr:Frame} {v:Value}:(fr.finish v).fn=fr.fn∧(fr.finish v).roundOf=fr.roundOf:=by
 unfold Frame.finish
 split<;>exact⟨rfl,rfl⟩
theorem zfi (id:Nat):∀ k:List Item,exitTo id (k.map (zal ρ))=(exitTo id k).map (·.map (zal ρ))
 | []=>rfl
 | it :: k=>by
  have ih:=zfi id k
  cases it<;>simp only [List.map_cons,zal,exitTo,ih]
  split<;>simp
theorem zgA (id:Nat):∀ {k k' : List Item},k.all (za3 P maps)=true→exitTo id k=some k'→k'.all (za3 P maps)=true
 | [],k',_,h=>by cases h
 | it :: k,k',hk,h=>by
  simp only [List.all_cons,Bool.and_eq_true] at hk
  cases it<;>simp only [exitTo] at h
  case inBlock =>
   split at h
   ·cases h;exact hk.2
   ·exact zgA id hk.2 h
  all_goals exact zgA id hk.2 h
theorem zce {ops:Array Oper} {tmps:Array Value} (j:Nat):yielded ops (tmps.map (ren ρ)) j=yielded ops tmps j:=by
 unfold yielded
 cases (ops[j]?).bind (·.dst) with
 | none=>rfl
 | some d =>
  simp only [Option.bind_some,Array.getElem?_map]
  cases tmps[d]? with
  | none=>rfl
  | some v =>
   rw [Option.map_some]
   cases v with
   | chan r=>rcases zb2 ρ r with ⟨_,h⟩ | ⟨_,_,_,h⟩ | ⟨_,h⟩ | ⟨_,_,_,h,_⟩ | ⟨_,h⟩<;>rw [h]
   | func f a b=>obtain⟨_,_,_,h⟩:=zaV ρ f a b;rw [h]
   | _=>rfl
variable (P maps) in
def Moves (fr:Frame) (cs:List Frame) (fr' : Frame) (cs' : List Frame):Prop :=
 (cs'=cs∧fr'.roundOf=fr.roundOf∧fr'.fn=fr.fn∧OkFrame P maps fr') ∨
 (∃ fr1,cs'=fr1 :: cs∧fr1.roundOf=fr.roundOf∧fr1.fn=fr.fn∧OkFrame P maps fr1∧fr1.todo≠[]∧((∃ f args,fr'=Frame.enter P f args .normal∧zaR P (.func f)=true)∨OkFrame P maps fr')) ∨
 (∃ c,cs=c :: cs'∧fr'.roundOf=c.roundOf∧fr'.fn=c.fn∧OkFrame P maps fr')
variable (P maps ρ) in
def FR (fr:Frame) (cs:List Frame) (a b:Frame×List Frame):Prop:=b=(zab ρ a.1,a.2.map (zab ρ))∧Moves P maps fr cs a.1 a.2
theorem zhb {fr:Frame} {cs:List Frame} (hcs:∀ c∈cs,OkFrame P maps c) {v:Value} {mf:Md}:SR P mf nc ρ (FR P maps ρ fr cs) K (zdq cs v) (zdq (cs.map (zab ρ)) (ren ρ v)):=by
 cases cs with
 | nil=>exact zah
 | cons c rest=>exact zaf ⟨by rw [← zaQ],.inr (.inr ⟨c,rfl,finish_fn.2,finish_fn.1,zdA (hcs c (List.mem_cons_self ..))⟩)⟩
theorem zev {fr:Frame} {cs:List Frame} (hok:OkFrame P maps fr) (hcs:∀ c∈cs,OkFrame P maps c) {jump:Option Code} (hj:jump.all (za6 P (maps && Lone.lm))=true) :
  SR P (mdOf P maps) nc ρ (FR P maps ρ fr cs) K (zaU fr cs jump) (zaU (zab ρ fr) (cs.map (zab ρ)) jump):=by
 obtain⟨fn,tmps,todo,defers,mode,kind,roundOf⟩:=fr
 have hr:OkFrame P maps { fn:=fn,tmps:=tmps,todo:=todo,defers:=defers,mode:=.returning,kind:=kind,roundOf:=roundOf }:=⟨hok.todo,.inr rfl,hok.defers,hok.kind⟩
 cases roundOf with
 | none =>
  cases jump with
  | none=>exact zaf ⟨rfl,.inl ⟨rfl,rfl,rfl,hr⟩⟩
  | some c=>cases c<;>first | exact zah | exact zaf ⟨rfl,.inl ⟨rfl,rfl,rfl,hr⟩⟩
 | some l =>
  refine zad (zkN hj) ?_
  rintro v _ rfl
  exact zhb hcs
theorem zh4 {fr fr0:Frame} {cs:List Frame} (hok:OkFrame P maps fr) (h0:fr.roundOf=fr0.roundOf∧fr.fn=fr0.fn) (hne:fr.todo≠[]) {n n' : Next} (h:NextR P (mdOf P maps) ρ n n') :
  SR P (mdOf P maps) nc ρ (FR P maps ρ fr0 cs) K (zbO P fr cs n) (zbO P (zab ρ fr) (cs.map (zab ρ)) n'):=by
 cases h with
 | value v=>exact zaf ⟨by rw [← zaQ],.inl ⟨rfl,finish_fn.2.trans h0.1,finish_fn.1.trans h0.2,zdA hok⟩⟩
 | skip=>exact zaf ⟨by rw [← zaQ,ren_undef],.inl ⟨rfl,finish_fn.2.trans h0.1,finish_fn.1.trans h0.2,zdA hok⟩⟩
 | enter f args hg =>
  refine zaf ⟨?_,.inr (.inl ⟨fr,rfl,h0.1,h0.2,hok,hne,.inl ⟨f,args,rfl,hg⟩⟩)⟩
  simp only [List.map_cons,Prod.mk.injEq,and_true]
  unfold Frame.enter zab
  simp only [Array.map_append,Array.size_map,List.map_cons,List.map_nil,zal,Option.map_none,Frame.mk.injEq,and_true,true_and]
  congr 1
  apply Array.ext
  ·simp
  ·intro i h1 h2;simp [ren_undef]
 | round l f tmps a b hr =>
  obtain⟨r,hr,rfl,rfl,rfl⟩:=hr
  simp only [Md.okl,mdOf,Bool.and_eq_true] at hr
  exact zaf ⟨rfl,.inr (.inl ⟨fr,rfl,h0.1,h0.2,hok,hne,.inr ⟨by simp [Frame.round,za3,zbc hr.1.1,zbc hr.1.2],.inl rfl,by simp [Frame.round],rfl⟩⟩)⟩
theorem zeu (R:RenOk P ρ) {fr:Frame} {cs:List Frame} (hok:OkFrame P maps fr) (hcs:∀ c∈cs,OkFrame P maps c) (hc:zdQ P fr) :
  SR P (mdOf P maps) nc ρ (FR P maps ρ fr cs) K (zan P fr cs) (zan P (zab ρ fr) (cs.map (zab ρ))):=by
 have hok0:=hok
 have hev:∀ x,zaS P x=true→(zab ρ fr).eval x=ren ρ (fr.eval x):=fun x h=>zcf R x h
 obtain⟨fn,tmps,todo,defers,mode,kind,roundOf⟩:=fr
 obtain⟨htodo,hm,hd,hk⟩:=hok
 dsimp only at htodo hm hd hk
 have upd:∀ {t:List Item},t.all (za3 P maps)=true→OkFrame P maps { fn:=fn,tmps:=tmps,todo:=t,defers:=defers,mode:=mode,kind:=kind,roundOf:=roundOf }:=fun h=>⟨h,hm,hd,hk⟩
 have stay:∀ {K:Nat→Prop} {t:List Item},t.all (za3 P maps)=true →
   SR P (mdOf P maps) nc ρ (FR P maps ρ { fn:=fn,tmps:=tmps,todo:=todo,defers:=defers,mode:=mode,kind:=kind,roundOf:=roundOf } cs) K
    (pure ({ fn:=fn,tmps:=tmps,todo:=t,defers:=defers,mode:=mode,kind:=kind,roundOf:=roundOf },cs))
    (pure ({ fn:=fn,tmps:=tmps.map (ren ρ),todo:=t.map (zal ρ),defers:=defers.map (zaE ρ),mode:=mode,kind:=kind,roundOf:=roundOf.map ρ.p },cs.map (zab ρ))) :=
  fun h=>zaf ⟨rfl,.inl ⟨rfl,rfl,rfl,upd h⟩⟩
 rcases hm with rfl | rfl
 ·
  show SR _ _ _ _ _ _ (zb3 P _ cs) (zb3 P _ _)
  unfold zb3 zab
  cases todo with
  | nil=>exact zev hok0 hcs rfl
  | cons it k =>
   simp only [List.all_cons,Bool.and_eq_true] at htodo
   cases it with
   | code c =>
    have hcc:za6 P maps c=true:=htodo.1
    cases c with
    | skip=>exact stay htodo.2
    | ret=>exact zev hok0 hcs rfl
    | seq a b =>
     simp only [za6,Bool.and_eq_true] at hcc
     exact stay (by simp [za3,hcc,htodo.2])
    | block id b=>exact stay (by simp only [za6] at hcc;simp [za3,hcc,htodo.2])
    | loop b=>exact stay (by simp only [za6] at hcc;simp [za3,hcc,htodo.2])
    | scope b=>exact stay (by simp only [za6] at hcc;simp [za3,hcc,htodo.2])
    | label l=>exact stay htodo.2
    | cond c a b =>
     simp only [za6,Bool.and_eq_true] at hcc
     have he:=hev c hcc.1.1
     unfold zab at he
     simp only [List.map_cons,zal] at he ⊢
     rw [he]
     cases Frame.eval { fn:=fn,tmps:=tmps,todo:=Item.code (Code.cond c a b) :: k,defers:=defers,mode:=FrameMode.run,kind:=kind,roundOf:=roundOf } c<;>first
      | exact zah
      | (rename_i x
         exact stay (t:=.code (if x then a else b) :: k) (by cases x<;>simp [za3,hcc,htodo.2]))
    | exit id =>
     simp only [List.map_cons,zal]
     rw [zfi]
     cases he:exitTo id k with
     | none=>exact zev hok0 hcs rfl
     | some k'=>exact stay (zgA id htodo.2 he)
    | region id ops draw =>
     simp only [List.map_cons,zal]
     cases draw
     ·exact stay (t:=.inRegion ops (List.range ops.size) :: k) (by simp only [za6] at hcc;simp only [List.all_cons,za3,zjD hcc,htodo.2,Bool.and_self])
     ·refine zad (zaL _).sr ?_
      rintro t _ rfl
      exact stay (t:=.inRegion ops _ :: k) (by simp only [za6] at hcc;simp only [List.all_cons,za3,zjD hcc,htodo.2,Bool.and_self])
    | rangeFunc f params assign body =>
     simp only [za6,Bool.and_eq_true] at hcc
     simp only [List.map_cons,zal]
     refine zad (zjN hcc.1.2 hcc.2) ?_
     rintro ⟨l,mark⟩ _ ⟨rfl,hmk⟩
     have he:=hev f hcc.1.1
     unfold zab at he
     simp only [List.map_cons,zal] at he ⊢
     rw [he]
     refine zad (r:=NextR P (mdOf P maps) ρ) ?_ ?_
     ·have:=zfE (mf:=mdOf P maps) (nc:=nc) (K:=K) R (f:=Frame.eval { fn:=fn,tmps:=tmps,todo:=Item.code (Code.rangeFunc f params assign body) :: k,defers:=defers,mode:=FrameMode.run,kind:=kind,roundOf:=roundOf } f) hc (args:=#[.func (.yield l) #[] #[]])
      simp only [List.map_toArray,List.map_cons,List.map_nil,ren,zd6,zaD] at this
      exact this
     ·intro n n' hn
      have:=zh4 (nc:=nc) (K:=K) (cs:=cs) (fr:={ fn:=fn,tmps:=tmps,todo:=Item.inRangeFunc l :: k,defers:=mark++defers,mode:=FrameMode.run,kind:=kind,roundOf:=roundOf })
       (fr0:={ fn:=fn,tmps:=tmps,todo:=Item.code (Code.rangeFunc f params assign body) :: k,defers:=defers,mode:=FrameMode.run,kind:=kind,roundOf:=roundOf })
       ⟨by simp [za3,htodo.2],.inl rfl,fun d hdm=>(List.mem_append.1 hdm).elim (hmk d) (hd d),hk⟩ ⟨rfl,rfl⟩ (by simp) hn
      simp only [zab,List.map_append] at this
      exact this
    | _=>cases hcc
   | inBlock id=>exact stay htodo.2
   | inScope c=>exact stay htodo.2
   | inLoop b=>exact stay (by have:za6 P maps b=true:=htodo.1;simp [za3,this,htodo.2])
   | inRegion ops l =>
    cases l with
    | nil=>exact stay htodo.2
    | cons i rest =>
     simp only [List.map_cons,zal]
     have hy:(yielded ops (tmps.map (ren ρ)))=yielded ops tmps:=funext fun j=>zce j
     rw [hy]
     split
     ·cases ho:ops[i]? with
      | none=>exact zah
      | some o =>
       have hop:okOp P maps o.op=true:=by
        have:=htodo.1
        simp only [za3,List.all_cons,ho,Option.all_some,Bool.and_eq_true] at this
        exact this.1
       refine zad (zjO R (fun x hx=>hev x hx) hop (hc o ho)) fun n n' hn=>?_
       exact zh4 hok0 ⟨rfl,rfl⟩ (by simp) hn
     ·refine zaf ⟨?_,.inl ⟨rfl,finish_fn.2,finish_fn.1,zdA hok0⟩⟩
      rw [← zaQ,ren_undef]
      rfl
   | inRangeFunc l=>exact zah
   | endRangeFunc l =>
    simp only [List.map_cons,zal]
    refine zad zmr ?_
    rintro _ jump ⟨rfl,hj⟩
    have:=stay (K:=K) (t:=(jump.map Item.code).toList++k) (by
     cases jump with
     | none=>simpa using htodo.2
     | some c=>simp only [Option.map_some,Option.toList_some,List.cons_append,List.nil_append,List.all_cons,Bool.and_eq_true];exact⟨zbc hj,htodo.2⟩)
    have e:((jump.map Item.code).toList++k).map (zal ρ)=(jump.map Item.code).toList++k.map (zal ρ):=by
     cases jump<;>rfl
    rw [e] at this
    exact this
   | beginRound =>
    simp only [List.map_cons,zal]
    refine zad (r:=fun _ _=>True) ?_ ?_
    ·cases roundOf with
     | none=>exact zah
     | some l=>exact sr_beginRound.mono fun _ _ _=>trivial
    ·rintro _ _ _
     refine zaf ⟨?_,.inl ⟨rfl,(finish_fn (v:=undef)).2,(finish_fn (v:=undef)).1,zdA (v:=undef) hok0⟩⟩
     rw [← zaQ,ren_undef]
     rfl
   | _=>cases htodo.1
 ·
  unfold zan zab
  dsimp only
  cases defers with
  | cons d ds =>
   obtain⟨b,rfl⟩:=hd d (List.mem_cons_self ..)
   refine zad zhc ?_
   rintro _ _ ⟨rfl,rfl⟩
   exact zaf ⟨rfl,.inl ⟨rfl,rfl,rfl,⟨htodo,.inr rfl,fun d h=>hd d (List.mem_cons_of_mem _ h),hk⟩⟩⟩
  | nil =>
   dsimp only [List.map_nil]
   cases hf:P.funcs[fn]? with
   | none =>
    dsimp only
    rw [zik]
    exact zhb hcs
   | some f =>
    refine zad zmC ?_
    rintro v _ rfl
    exact zhb hcs
end
end Go.Con
