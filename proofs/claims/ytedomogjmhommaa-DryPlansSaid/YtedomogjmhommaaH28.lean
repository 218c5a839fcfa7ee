import Derived.Test.YtedomogjmhommaaH27
import Derived.Conc.Events
import Derived.Conc.Listed
import Derived.Test.YtedomogjmhommaaH23
set_option linter.all false
set_option maxRecDepth 100000
set_option maxHeartbeats 8000000
namespace Go.Con
open Go
variable [Lone]
def za6 (P:Program):Bool→Code→Bool
 | _,.skip | _,.exit _ | _,.ret | _,.label _=>true
 | maps,.region _ ops _=>ops.all fun o=>okOp P maps o.op
 | maps,.seq a b=>za6 P maps a && za6 P maps b
 | maps,.cond c a b=>zaS P c && za6 P maps a && za6 P maps b
 | maps,.block _ b | maps,.loop b | maps,.scope b=>za6 P maps b
 | maps,.rangeFunc f _ a b=>zaS P f && za6 P (maps && Lone.lm) a && za6 P (maps && Lone.lm) b
 | _,.goto _ | _,.refuse _=>false
def mdOf (P:Program) (maps:Bool):Md:=⟨maps,za6 P (maps && Lone.lm)⟩
theorem znF {P:Program} {m:Bool} {o:Op} (h:okOp P (m && Lone.lm) o=true):okOp P m o=true:=by
 cases m with
 | false=>exact h
 | true =>
  generalize Lone.lm=b at h
  cases b with
  | true=>exact h
  | false =>
   cases o<;>first
    | exact h
    | (exfalso;simp [okOp] at h;done)
theorem zbc {P:Program}:∀ {c:Code} {m:Bool},za6 P (m && Lone.lm) c=true→za6 P m c=true
 | .skip,_,_ | .exit _,_,_ | .ret,_,_ | .label _,_,_=>rfl
 | .region _ ops _,m,h=>by
  simp only [za6,Array.all_eq_true_iff_forall_mem] at h ⊢
  exact fun o ho=>znF (h o ho)
 | .seq a b,m,h=>by
  simp only [za6,Bool.and_eq_true] at h ⊢
  exact⟨zbc h.1,zbc h.2⟩
 | .cond c a b,m,h=>by
  simp only [za6,Bool.and_eq_true] at h ⊢
  exact⟨⟨h.1.1,zbc h.1.2⟩,zbc h.2⟩
 | .block _ b,m,h=>zbc (c:=b) h
 | .loop b,m,h=>zbc (c:=b) h
 | .scope b,m,h=>zbc (c:=b) h
 | .rangeFunc f _ a b,m,h=>by
  simp only [za6,Bool.and_eq_true] at h ⊢
  rw [Bool.and_assoc,Bool.and_self] at h
  exact h
 | .goto _,_,h | .refuse _,_,h=>by cases h
theorem zjD {P:Program} {maps:Bool} {ops:Array Oper} (h:(ops.all fun o=>okOp P maps o.op)=true) (l:List Nat):(l.all fun i=>(ops[i]?).all fun o=>okOp P maps o.op)=true:=by
 rw [List.all_eq_true]
 intro i _
 cases ho:ops[i]? with
 | none=>rfl
 | some o=>exact Array.all_eq_true_iff_forall_mem.1 h o (Array.mem_of_getElem? ho)
section
variable (P:Program) (maps:Bool)
def za3:Item→Bool
 | .code c | .inLoop c | .inScope c=>za6 P maps c
 | .inBlock _ | .inRangeFunc _ | .endRangeFunc _ | .beginRound=>true
 | .inRegion ops l=>l.all fun i=>(ops[i]?).all fun o=>okOp P maps o.op
 | .call .. | .extern ..=>false
def zeq:Item→Bool
 | .code (.goto _) | .code (.refuse _)=>false
 | .code _=>true
 | .inRegion ops (i :: _)=>(ops[i]?).all fun o=>okOp P maps o.op
 | .call .. | .extern ..=>false
 | _=>true
theorem zma {it:Item} (h:za3 P maps it=true):zeq P maps it=true:=by
 cases it with
 | code c=>cases c<;>first | rfl | exact h
 | inRegion ops l =>
  cases l with
  | nil=>rfl
  | cons i rest=>simp only [za3,List.all_cons,Bool.and_eq_true] at h;exact h.1
 | _=>first | rfl | exact h
structure OkFrame (fr:Frame):Prop where
 todo:fr.todo.all (za3 P maps)=true
 mode:fr.mode=.run∨fr.mode=.returning
 defers:∀ d∈fr.defers,∃ r,d={ target:=.collected r,args:=#[] }
 kind:fr.kind=.normal
structure zgh (fr:Frame):Prop where
 todo:∀ it k,fr.todo=it :: k→zeq P maps it=true
 mode:fr.mode=.run∨fr.mode=.returning
 defers:∀ d∈fr.defers,∃ r,d={ target:=.collected r,args:=#[] }
 kind:fr.kind=.normal∨(fr.kind=.deferred∧fr.mode=.run∧fr.roundOf=none)
def zdq (cs:List Frame) (v:Value):Sem (Frame×List Frame):=match cs with
 | c :: rest=>pure (c.finish v,rest)
 | []=>stuck ""
def zaU (fr:Frame) (cs:List Frame) (jump:Option Code):Sem (Frame×List Frame) :=
 match fr.roundOf with
 | none=>match jump with
  | none | some .ret=>pure ({ fr with mode:=.returning },cs)
  | _=>stuck ""
 | some l=>do let v ← Instr.endRound l jump;zdq cs v
def zbO (fr:Frame) (cs:List Frame):Next→Sem (Frame×List Frame)
 | .value v=>pure (fr.finish v,cs)
 | .skip=>pure (fr.finish undef,cs)
 | .enter f args=>pure (Frame.enter P f args .normal,fr :: cs)
 | .round l f tmps a b=>pure (Frame.round l f tmps a b .normal,fr :: cs)
 | _=>stuck ""
def zb3 (fr:Frame) (cs:List Frame):Sem (Frame×List Frame) :=
 match fr.todo with
 | []=>zaU fr cs none
 | .code .ret :: _=>zaU fr cs (some .ret)
 | .code .skip :: k | .code (.label _) :: k | .inBlock _ :: k | .inScope _ :: k | .inRegion _ [] :: k=>pure ({ fr with todo:=k },cs)
 | .code (.seq a b) :: k=>pure ({ fr with todo:=.code a :: .code b :: k },cs)
 | .code (.cond c a b) :: k=>match fr.eval c with
  | .bool x=>pure ({ fr with todo:=.code (if x then a else b) :: k },cs)
  | _=>stuck ""
 | .code (.block id b) :: k=>pure ({ fr with todo:=.code b :: .inBlock id :: k },cs)
 | .code (.scope b) :: k=>pure ({ fr with todo:=.code b :: .inScope b :: k },cs)
 | .code (.loop b) :: k | .inLoop b :: k=>pure ({ fr with todo:=.code b :: .inLoop b :: k },cs)
 | .code (.exit id) :: k=>match exitTo id k with
  | some k'=>pure ({ fr with todo:=k' },cs)
  | none=>zaU fr cs (some (.exit id))
 | .code (.rangeFunc f params assign body) :: k=>do
  let x ← Instr.enterLoop fr.fn fr.tmps params assign body fr.roundOf
  let n ← (do let d ← Deferred.ofValue (fr.eval f) #[.func (.yield x.1) #[] #[]];invoke d.target d.args)
  zbO P { fr with todo:=.inRangeFunc x.1 :: k,defers:=x.2++fr.defers } cs n
 | .beginRound :: _=>do
  (fr.roundOf.elim (stuck "") Instr.beginRound:Sem Unit)
  pure (fr.finish undef,cs)
 | .endRangeFunc l :: k=>do
  let jump ← Instr.endLoop l
  pure ({ fr with todo:=(jump.map Item.code).toList++k },cs)
 | .code (.region id ops draw) :: k =>
  if !draw then pure ({ fr with todo:=.inRegion ops (List.range ops.size) :: k },cs)
  else do
   let t ← choose (.order fr.fn id)
   pure ({ fr with todo:=.inRegion ops (Region.schedule (P.follows .mixedOrders) ops t) :: k },cs)
 | .inRegion ops (i :: _) :: _ =>
  if ((ops[i]?).map (Region.wanted · (yielded ops fr.tmps))).getD false then
   match ops[i]? with
   | none=>stuck ""
   | some o=>do
    let n ← execOp fr.eval o
    zbO P fr cs n
  else pure (fr.finish undef,cs)
 | _=>stuck ""
def zan (fr:Frame) (cs:List Frame):Sem (Frame×List Frame) :=
 match fr.mode with
 | .run=>zb3 P fr cs
 | .returning=>match fr.defers with
  | { target:=.collected block,.. } :: ds=>do
   let calls ← Instr.takeDeferred block
   pure ({ fr with defers:=calls++ds },cs)
  | _ :: _=>stuck ""
  | []=>match P.funcs[fr.fn]? with
   | none=>zdq cs (fr.tmps.getD 0 undef)
   | some fn=>do
    let v ← results fn fr.tmps
    zdq cs v
 | .panicking _=>stuck ""
end
section
variable {P:Program} {maps:Bool}
def goes (s:GStep) (fr:Frame) (cs:List Frame) (w:World) (ok:Array Event):Prop :=
 ∃ es,s=.go { frame:=fr,callers:=cs,status:=.running,dying:=none } w es∧∀ e∈es,e∈ok
theorem zb7 {s:GStep} {fr:Frame} {cs:List Frame} {w:World} {ok ok' es:Array Event} (h:goes s fr cs w ok) (h1:∀ e∈ok,e∈ok') (h2:∀ e∈es,e∈ok'):goes (GStep.after es s) fr cs w ok':=by
 obtain⟨es',rfl,h⟩:=h
 refine⟨es++es',rfl,fun e he=>?_⟩
 rcases Array.mem_append.1 he with he | he
 ·exact h2 e he
 ·exact h1 e (h e he)
theorem zbF {α β:Type} {x:Sem α} {f:α→Sem β} {w:World} {es:Array Event} {e:Event} (h:e∈x.events P w es):e∈(x >>= f).events P w es:=by
 rw [Sem.events_bind]
 cases x.run P w with
 | halt=>exact h
 | ok a w1 =>
  rw [Result.evThen_ok,Sem.events_acc]
  exact Array.mem_append.2 (.inl h)
theorem zho {α β:Type} {x:Sem α} {f:α→Sem β} {a:α} {w w1:World} {es:Array Event} {e:Event} (hx:x.run P w=.ok a w1) (h:e∈(f a).events P w1 #[]):e∈(x >>= f).events P w es:=by
 rw [Sem.events_bind,hx,Result.evThen_ok,Sem.events_acc]
 exact Array.mem_append.2 (.inr h)
theorem zff {fr fr' : Frame} {cs cs' : List Frame} {s:Sem Next} {w w' : World} (ht:∀ d b r sv k,fr.todo≠.call d b r sv :: k) (hk2:(fr.kind == CallKind.early)=false)
  (h:(s >>= zbO P fr cs).run P w=.ok (fr',cs') w'):goes (stepG.apply P true fr cs none s w) fr' cs' w' (s.events P w #[]):=by
 rw [Sem.run_bind] at h
 unfold stepG.apply
 simp only [Sem.runT_eq,if_true]
 cases hs:s.run P w with
 | halt hh w1=>rw [hs] at h;cases h
 | ok n w1 =>
  rw [hs] at h
  simp only [hk2,Bool.false_eq_true,if_false]
  cases n<;>first
   | (cases h;done)
   | (simp only [zbO,Result.andThen,Sem.run_pure,Result.ok.injEq,Prod.mk.injEq] at h
      obtain⟨⟨rfl,rfl⟩,rfl⟩:=h
      refine zb7 (ok:=#[]) ⟨#[],?_,fun e he=>he⟩ (fun e he=>(Array.not_mem_empty e he).elim) fun e he=>Go.Conc.mem_seen he
      first
      | rfl
      | (dsimp only
         split
         ·rename_i h';exact (ht _ _ _ _ _ h').elim
         ·rfl))
theorem zfk {main:Bool} {fr fr' : Frame} {cs cs' : List Frame} {jump:Option Code} {w w' : World} (hk:fr.kind=.normal∨fr.roundOf=none) :
  (zaU fr cs jump).run P w=.ok (fr',cs') w' →
  goes (match fr.roundOf with
   | none=>if jump matches none | some .ret then .go { frame:={ fr with mode:=.returning },callers:=cs,status:=.running,dying:=none } w else .ended (.stuck "exit, goto: no such block or label" (fr.pos P)) w
   | some l =>
    let (r,es):=(Instr.endRound l jump).runT P w #[]
    GStep.after (seen P fr.fn es) <| match r with
    | .ok v w=>doReturn P main fr cs none v w
    | .halt _ w=>.ended (.stuck "range over a function: no such loop" (fr.pos P)) w) fr' cs' w' ((zaU fr cs jump).events P w #[]):=by
 intro h
 obtain⟨fn,tmps,todo,defers,mode,kind,roundOf⟩:=fr
 dsimp only at hk
 cases roundOf with
 | none =>
  cases jump with
  | none =>
   simp only [zaU,Sem.run_pure,Result.ok.injEq,Prod.mk.injEq] at h
   obtain⟨⟨rfl,rfl⟩,rfl⟩:=h
   exact⟨#[],rfl,fun e he=>(Array.not_mem_empty e he).elim⟩
  | some c =>
   cases c<;>first
    | (cases h;done)
    | (simp only [zaU,Sem.run_pure,Result.ok.injEq,Prod.mk.injEq] at h
       obtain⟨⟨rfl,rfl⟩,rfl⟩:=h
       exact⟨#[],rfl,fun e he=>(Array.not_mem_empty e he).elim⟩)
 | some l =>
  obtain rfl:=hk.resolve_right (by simp)
  dsimp only [zaU] at h ⊢
  rw [Sem.run_bind] at h
  rw [Sem.events_bind]
  simp only [Sem.runT_eq]
  cases hs:(Instr.endRound l jump).run P w with
  | halt hh w1=>rw [hs] at h;cases h
  | ok v w1 =>
   rw [hs] at h
   simp only [Result.andThen,Result.evThen] at h ⊢
   cases cs with
   | nil=>cases h
   | cons c rest =>
    simp only [zdq,Sem.run_pure,Result.ok.injEq,Prod.mk.injEq] at h
    obtain⟨⟨rfl,rfl⟩,rfl⟩:=h
    refine zb7 (ok:=#[]) ⟨#[],?_,fun e he=>he⟩ (fun e he=>(Array.not_mem_empty e he).elim) fun e he=>Go.Conc.mem_seen he
    rfl
theorem OkFrame.head {fr:Frame} (h:OkFrame P maps fr):zgh P maps fr :=
 ⟨fun it k e=>by have:=h.todo;rw [e] at this;simp only [List.all_cons,Bool.and_eq_true] at this;exact zma P maps this.1,h.mode,h.defers,.inl h.kind⟩
theorem zdM {main:Bool} {fr fr' : Frame} {cs cs' : List Frame} {st:GoStatus} {off:Option (Array CommCase×CommShape)} {w w' : World} (hok:zgh P maps fr)
  (h:(zan P fr cs).run P w=.ok (fr',cs') w') :
  goes (stepG P main { frame:=fr,callers:=cs,status:=st,dying:=none,offers:=off } w true) fr' cs' w' ((zan P fr cs).events P w #[]):=by
 have hk:=hok.kind
 have none_ok:∀ {fr fr' : Frame} {cs cs' : List Frame} {w w' : World} {ok:Array Event},(pure (fr,cs):Sem (Frame×List Frame)).run P w=.ok (fr',cs') w'→goes (.go { frame:=fr,callers:=cs,status:=.running,dying:=none } w) fr' cs' w' ok:=by
  intro fr fr' cs cs' w w' ok h
  simp only [Sem.run_pure,Result.ok.injEq,Prod.mk.injEq] at h
  obtain⟨⟨rfl,rfl⟩,rfl⟩:=h
  exact⟨#[],rfl,fun e he=>(Array.not_mem_empty e he).elim⟩
 rcases hok.mode with hm | hm
 ·
  unfold zan at h ⊢
  rw [hm] at h ⊢
  have hst:stepG P main { frame:=fr,callers:=cs,status:=st,dying:=none,offers:=off } w true=stepG.exec P main true fr cs none w:=by
   unfold stepG
   simp only [hm]
  rw [hst]
  have htodo:=hok.todo
  obtain⟨fn,tmps,todo,defers,mode,kind,roundOf⟩:=fr
  dsimp only at hm hk htodo
  subst hm
  have hk2:(kind == CallKind.early)=false:=by rcases hk with rfl | ⟨rfl,_⟩<;>rfl
  have hk3:kind=.normal∨roundOf=none:=hk.imp id fun h=>h.2.2
  dsimp only at h ⊢
  unfold stepG.exec
  unfold zb3 at h ⊢
  cases todo with
  | nil=>exact zfk hk3 h
  | cons it k =>
   have htodo:zeq P maps it=true∧True:=⟨htodo it k rfl,trivial⟩
   cases it with
   | code c =>
    cases c with
    | skip=>exact none_ok h
    | ret=>exact zfk hk3 h
    | seq a b=>exact none_ok h
    | block id b=>exact none_ok h
    | loop b=>exact none_ok h
    | cond c a b =>
     dsimp only at h ⊢
     split at h
     ·rename_i hc
      rw [hc]
      exact none_ok h
     ·cases h
    | exit id =>
     dsimp only at h ⊢
     cases he:exitTo id k with
     | none=>rw [he] at h;exact zfk hk3 h
     | some k'=>rw [he] at h;exact none_ok h
    | region id ops draw =>
     cases draw
     ·exact none_ok h
     ·simp only [Bool.not_true,Bool.false_eq_true,if_false] at h ⊢
      rw [Sem.run_bind] at h
      cases hc:(choose (.order fn id)).run P w with
      | halt hh w1=>rw [hc] at h;cases h
      | ok t w1=>rw [hc] at h;exact none_ok h
    | rangeFunc f params assign body =>
     dsimp only at h ⊢
     simp only [Sem.runT_eq]
     cases hs:(Instr.enterLoop fn tmps params assign body roundOf).run P w with
     | halt hh w1=>rw [Sem.run_bind,hs] at h;cases h
     | ok x w1 =>
      obtain⟨l,mark⟩:=x
      have h2:=h
      rw [Sem.run_bind,hs] at h2
      simp only [Result.andThen] at h2 ⊢
      have hres:resolve (Frame.eval { fn:=fn,tmps:=tmps,todo:=Item.inRangeFunc l :: k,defers:=mark++defers,mode:=FrameMode.run,kind:=kind,roundOf:=roundOf }) { callee:=.value f,args:=#[.const (.func (.yield l) #[] #[])],argTypes:=#[] } 0 =
        Deferred.ofValue (Frame.eval { fn:=fn,tmps:=tmps,todo:=Item.code (Code.rangeFunc f params assign body) :: k,defers:=defers,mode:=FrameMode.run,kind:=kind,roundOf:=roundOf } f) #[.func (.yield l) #[] #[]]:=by
       cases f<;>simp [resolve,Frame.eval]
      rw [hres]
      refine zb7 (zff ?_ hk2 h2) (fun e he=>?_) (fun e he=>?_)
      ·intro d b r sv k hh;cases hh
      ·exact zho hs (zbF he)
      ·exact zbF (Go.Conc.mem_seen he)
    | scope b=>exact none_ok h
    | label l=>exact none_ok h
    | _=>cases htodo.1
   | inBlock id=>exact none_ok h
   | inScope c=>exact none_ok h
   | inLoop b=>exact none_ok h
   | inRegion ops todo =>
    cases todo with
    | nil=>exact none_ok h
    | cons i rest =>
     dsimp only at h ⊢
     split at h
     ·rename_i hw
      rw [if_pos hw,if_pos hw]
      cases ho:ops[i]? with
      | none=>rw [ho] at h;cases h
      | some o =>
       rw [ho] at h
       have hop:okOp P maps o.op=true:=by
        have:=htodo.1
        simp only [zeq,ho,Option.all_some] at this
        exact this
       have hf:({ fn:=fn,tmps:=tmps,todo:=Item.inRegion ops (i :: rest) :: k,defers:=defers,mode:=FrameMode.run,kind:=kind,roundOf:=roundOf }:Frame).oper?=some o:=ho
       unfold stepG.oper
       rw [hf]
       have hg:=zff (P:=P) (fr:={ fn:=fn,tmps:=tmps,todo:=Item.inRegion ops (i :: rest) :: k,defers:=defers,mode:=FrameMode.run,kind:=kind,roundOf:=roundOf }) (cs:=cs) (by intro d b r sv k hh;cases hh) hk2 h
       have hg2:=zb7 (es:=#[]) hg (ok':=(do let n ← execOp (Frame.eval { fn:=fn,tmps:=tmps,todo:=Item.inRegion ops (i :: rest) :: k,defers:=defers,mode:=FrameMode.run,kind:=kind,roundOf:=roundOf }) o;zbO P { fn:=fn,tmps:=tmps,todo:=Item.inRegion ops (i :: rest) :: k,defers:=defers,mode:=FrameMode.run,kind:=kind,roundOf:=roundOf } cs n:Sem (Frame×List Frame)).events P w #[]) (fun e he=>zbF he) (fun e he=>(Array.not_mem_empty e he).elim)
       have hne:∀ s:GStep,GStep.after #[] s=s:=by intro s;cases s<;>simp [GStep.after]
       rw [hne] at hg2
       dsimp only
       split
       ·rename_i l c hh
        rw [hh] at hop
        cases hop
       ·exact hg2
     ·rename_i hw
      rw [if_neg hw]
      exact none_ok h
   | inRangeFunc l=>cases h
   | endRangeFunc l =>
    dsimp only at h ⊢
    rw [Sem.run_bind] at h
    rw [Sem.events_bind]
    simp only [Sem.runT_eq]
    cases hs:(Instr.endLoop l).run P w with
    | halt hh w1=>rw [hs] at h;cases h
    | ok jump w1 =>
     rw [hs] at h
     simp only [Result.andThen,Result.evThen,Sem.run_pure,Result.ok.injEq,Prod.mk.injEq] at h ⊢
     obtain⟨⟨rfl,rfl⟩,rfl⟩:=h
     exact zb7 (ok:=#[]) ⟨#[],rfl,fun e he=>he⟩ (fun e he=>(Array.not_mem_empty e he).elim) fun e he=>Go.Conc.mem_seen he
   | beginRound =>
    dsimp only at h ⊢
    cases hs:(roundOf.elim (stuck "") Instr.beginRound:Sem Unit).run P w with
    | halt hh w1=>rw [Sem.run_bind,hs] at h;cases h
    | ok u w1 =>
     have h2:=h
     rw [Sem.run_bind,hs] at h2
     simp only [Result.andThen,Sem.run_pure,Result.ok.injEq,Prod.mk.injEq] at h2
     obtain⟨⟨rfl,rfl⟩,rfl⟩:=h2
     have hb:(do (roundOf.elim (stuck "beginRound: no round") Instr.beginRound:Sem Unit);pure Next.skip:Sem Next)=(do (roundOf.elim (stuck "") Instr.beginRound:Sem Unit);pure Next.skip):=by
      cases roundOf with
      | none=>cases hs
      | some l=>rfl
     rw [hb]
     have hg:=zff (P:=P) (w':=w1) (s:=(do (roundOf.elim (stuck "") Instr.beginRound:Sem Unit);pure Next.skip)) (fr:={ fn:=fn,tmps:=tmps,todo:=Item.beginRound :: k,defers:=defers,mode:=FrameMode.run,kind:=kind,roundOf:=roundOf }) (cs:=cs) (by intro d b r sv k hh;cases hh) hk2
      (by rw [Sem.run_bind,Sem.run_bind,hs];rfl)
     obtain⟨es,h1,h3⟩:=hg
     refine⟨es,h1,fun e he=>?_⟩
     have:=h3 e he
     rw [Sem.events_bind,hs] at this
     exact zbF this
   | _=>cases htodo.1
 ·
  obtain⟨fn,tmps,todo,defers,mode,kind,roundOf⟩:=fr
  dsimp only at hm hk
  subst hm
  replace hk:=hk.resolve_right (by simp)
  subst hk
  have hd:=hok.defers
  have hst:stepG P main { frame:={ fn:=fn,tmps:=tmps,todo:=todo,defers:=defers,mode:=FrameMode.returning,kind:=CallKind.normal,roundOf:=roundOf },callers:=cs,status:=st,dying:=none,offers:=off } w true=unwind P main { fn:=fn,tmps:=tmps,todo:=todo,defers:=defers,mode:=FrameMode.returning,kind:=CallKind.normal,roundOf:=roundOf } cs none w:=by
   unfold stepG
   rfl
  rw [hst]
  unfold unwind
  unfold zan at h ⊢
  dsimp only at h ⊢ hd
  cases defers with
  | cons d ds =>
   obtain⟨b,rfl⟩:=hd d (List.mem_cons_self ..)
   dsimp only at h ⊢
   simp only [Sem.runT_eq]
   cases hs:(Instr.takeDeferred b).run P w with
   | halt hh w1=>rw [Sem.run_bind,hs] at h;cases h
   | ok calls w1 =>
    have h2:=h
    rw [Sem.run_bind,hs] at h2
    simp only [Result.andThen,Sem.run_pure,Result.ok.injEq,Prod.mk.injEq] at h2 ⊢
    obtain⟨⟨rfl,rfl⟩,rfl⟩:=h2
    exact zb7 (ok:=#[]) ⟨#[],rfl,fun e he=>he⟩ (fun e he=>(Array.not_mem_empty e he).elim) fun e he=>zbF (Go.Conc.mem_seen he)
  | nil =>
   dsimp only at h ⊢
   cases hf:P.funcs[fn]? with
   | none =>
    rw [hf] at h
    dsimp only at h ⊢
    cases cs with
    | nil=>cases h
    | cons c rest =>
     simp only [zdq,Sem.run_pure,Result.ok.injEq,Prod.mk.injEq] at h
     obtain⟨⟨rfl,rfl⟩,rfl⟩:=h
     exact⟨#[],rfl,fun e he=>(Array.not_mem_empty e he).elim⟩
   | some f =>
    rw [hf] at h
    dsimp only at h ⊢
    simp only [Sem.runT_eq]
    cases hs:(results f tmps).run P w with
    | halt hh w1=>rw [Sem.run_bind,hs] at h;cases h
    | ok v w1 =>
     have h2:=h
     rw [Sem.run_bind,hs] at h2
     simp only [Result.andThen] at h2 ⊢
     cases cs with
     | nil=>cases h2
     | cons c rest =>
      simp only [zdq,Sem.run_pure,Result.ok.injEq,Prod.mk.injEq] at h2
      obtain⟨⟨rfl,rfl⟩,rfl⟩:=h2
      exact zb7 (ok:=#[]) ⟨#[],rfl,fun e he=>he⟩ (fun e he=>(Array.not_mem_empty e he).elim) fun e he=>zbF (Go.Conc.mem_seen he)
end
end Go.Con
namespace Go.Con
open Go
variable [Lone]
open Classical in
noncomputable def dblD (G:Nat) (D:Nat→Prop) (b:Nat):Nat:=if b<G then b else if D b then 2 * b else 2 * b+1
def dbl (G:Nat) (b:Nat):Nat:=if b<G then b else 2 * b
theorem zpQ (G:Nat):∀ a b,dbl G a=dbl G b→a=b:=by
 intro a b h
 unfold dbl at h
 split at h<;>split at h<;>omega
theorem zou (G:Nat) (D:Nat→Prop):∀ a b,dblD G D a=dblD G D b→a=b:=by
 intro a b h
 unfold dblD at h
 split at h<;>split at h<;>(try split at h)<;>(try split at h)<;>omega
theorem dbl_eq {G:Nat} {D:Nat→Prop} {b:Nat}:dbl G b=dblD G D b↔(b<G∨D b):=by
 unfold dbl dblD
 split
 ·rename_i h;simp [h]
 ·rename_i h
  split<;>rename_i h'<;>simp [h,h']
theorem zpP {G b:Nat} (h:b<G):dbl G b=b:=by simp [dbl,h]
theorem zot {G:Nat} {D:Nat→Prop} {b:Nat} (h:b<G):dblD G D b=b:=by simp [dblD,h]
structure Gd where
 n:Nat
 good:Fn→Bool
def ziY (good:Fn→Bool) (f:Fn):Fn:=if good f then f else match f with
 | .func _=>.method ""
 | _=>.func 0
theorem badFn_eq {good:Fn→Bool} {f:Fn}:f=ziY good f↔good f=true:=by
 unfold ziY
 by_cases h:good f=true
 ·simp [h]
 ·simp only [h,Bool.false_eq_true,if_false,iff_false]
  cases f<;>simp
def tokA (x:Nat):Value:=.chan (some x)
def RA (G:Gd):Rn:=⟨dbl G.n,tokA,id⟩
noncomputable def RB (G:Gd) (D _E:Nat→Prop):Rn:=⟨dblD G.n D,tokA,ziY G.good⟩
def supV (G:Gd) (D E:Nat→Prop) (v:Value):Prop:=ren (RA G) v=ren (RB G D E) v
def za8 (G:Gd) (D E:Nat→Prop) (o:Obj):Prop:=zau (RA G) o=zau (RB G D E) o
theorem renAddr_eq {ρ σ:Rn} {a:Addr}:zak ρ a=zak σ a↔ρ.p a.block=σ.p a.block:=by
 obtain⟨b,o,s⟩:=a
 simp [zak]
theorem zgX {ρ σ:Rn} {a:Option Addr}:a.map (zak ρ)=a.map (zak σ)↔∀ x,a=some x→ρ.p x.block=σ.p x.block:=by
 cases a<;>simp [renAddr_eq]
theorem zny {ρ σ:Nat→Nat} {a:Option Nat}:a.map ρ=a.map σ↔∀ x,a=some x→ρ x=σ x:=by
 cases a<;>simp
theorem zj1 {G:Gd} {D E:Nat→Prop} {ρ σ:Rn} (h:∀ b,b<G.n∨D b→ρ.p b=σ.p b) (hF:∀ f,G.good f=true→ρ.o f=σ.o f) {f:Fn} (hf:zd6 (RA G) f=zd6 (RB G D E) f):zd6 ρ f=zd6 σ f:=by
 cases f with
 | yield l =>
  simp only [zd6,Fn.yield.injEq] at hf ⊢
  exact h _ (dbl_eq.1 hf)
 | _=>exact hF _ (badFn_eq.1 hf)
section
variable {G:Gd} {D E:Nat→Prop} {ρ σ:Rn}
mutual
theorem zcd (h:∀ b,b<G.n∨D b→ρ.p b=σ.p b) (hE:∀ b,ρ.c b=σ.c b) (hF:∀ f,G.good f=true→ρ.o f=σ.o f):∀ v,supV G D E v→ren ρ v=ren σ v
 | .pointer a,hv=>by
  simp only [supV,ren,Value.pointer.injEq,zgX] at hv ⊢
  exact fun x hx=>h _ (dbl_eq.1 (hv x hx))
 | .slice a n c,hv=>by
  simp only [supV,ren,Value.slice.injEq,zgX,and_true] at hv ⊢
  exact fun x hx=>h _ (dbl_eq.1 (hv x hx))
 | .map a,hv=>by
  simp only [supV,ren,Value.map.injEq,zny] at hv ⊢
  exact fun x hx=>h _ (dbl_eq.1 (hv x hx))
 | .chan none,_=>rfl
 | .chan (some x),_=>by simp only [ren,hE]
 | .func fn a b,hv=>by
  simp only [supV,ren] at hv ⊢
  cases ht:zem fn a b with
  | some x=>simp only [hE]
  | none =>
  simp only [ht,Value.func.injEq] at hv ⊢
  exact⟨zj1 h hF hv.1,zge h hE hF a hv.2.1,zge h hE hF b hv.2.2⟩
 | .iface t v,hv=>by
  simp only [supV,ren,Value.iface.injEq,true_and] at hv ⊢
  exact zcd h hE hF v hv
 | .agg cs,hv=>by
  simp only [supV,ren,Value.agg.injEq] at hv ⊢
  exact zge h hE hF cs hv
 | .tuple cs,hv=>by
  simp only [supV,ren,Value.tuple.injEq] at hv ⊢
  exact zge h hE hF cs hv
 | .bool _,_ | .int ..,_ | .float ..,_ | .complex ..,_ | .string _,_ | .nilFunc,_ | .nilIface,_=>rfl
theorem zge (h:∀ b,b<G.n∨D b→ρ.p b=σ.p b) (hE:∀ b,ρ.c b=σ.c b) (hF:∀ f,G.good f=true→ρ.o f=σ.o f):∀ a:Array Value,renA (RA G) a=renA (RB G D E) a→renA ρ a=renA σ a
 | ⟨l⟩,hv=>by
  simp only [renA,Array.mk.injEq] at hv ⊢
  exact zlF h hE hF l hv
theorem zlF (h:∀ b,b<G.n∨D b→ρ.p b=σ.p b) (hE:∀ b,ρ.c b=σ.c b) (hF:∀ f,G.good f=true→ρ.o f=σ.o f):∀ l:List Value,renL (RA G) l=renL (RB G D E) l→renL ρ l=renL σ l
 | [],_=>rfl
 | v :: l,hv=>by
  simp only [renL,List.cons.injEq] at hv ⊢
  exact⟨zcd h hE hF v hv.1,zlF h hE hF l hv.2⟩
end
theorem zcT {α β:Type} {f g f' g' : α→β} (h:∀ a,f a=g a→f' a=g' a) {c:Array α} (hc:c.map f=c.map g):c.map f'=c.map g':=by
 apply Array.ext
 ·simp
 ·intro i h1 h2
  simp only [Array.size_map] at h1
  simp only [Array.getElem_map]
  refine h _ ?_
  have:=congrArg (fun a=>a[i]?) hc
  simpa [Array.getElem?_eq_getElem h1] using this
theorem zcQ {α β:Type} {f g f' g' : α→β} (h:∀ a,f a=g a→f' a=g' a):∀ {c:List α},c.map f=c.map g→c.map f'=c.map g'
 | [],_=>rfl
 | a :: l,hc=>by
  simp only [List.map_cons,List.cons.injEq] at hc ⊢
  exact⟨h a hc.1,zcQ h hc.2⟩
theorem zfs (h:∀ b,b<G.n∨D b→ρ.p b=σ.p b) (hE:∀ b,ρ.c b=σ.c b) (hF:∀ f,G.good f=true→ρ.o f=σ.o f) {d:Deferred} (hd:zaE (RA G) d=zaE (RB G D E) d):zaE ρ d=zaE σ d:=by
 obtain⟨t,as⟩:=d
 simp only [zaE,Deferred.mk.injEq] at hd ⊢
 refine⟨?_,zcT (fun v=>zcd h hE hF v) hd.2⟩
 have ht:=hd.1
 cases t<;>simp only [zbw,Target.fn.injEq,Target.collected.injEq,Target.coroexit.injEq] at ht ⊢
 ·exact⟨zj1 h hF ht.1,zcT (fun v=>zcd h hE hF v) ht.2⟩
 ·exact h _ (dbl_eq.1 ht)
 ·exact h _ (dbl_eq.1 ht)
theorem zft (h:∀ b,b<G.n∨D b→ρ.p b=σ.p b) (hE:∀ b,ρ.c b=σ.c b) (hF:∀ f,G.good f=true→ρ.o f=σ.o f) {o:Obj} (ho:za8 G D E o):zau ρ o=zau σ o:=by
 cases o<;>simp only [za8,zau,Obj.cells.injEq,Obj.pending.injEq,Obj.view.injEq,Obj.number.injEq,Obj.map.injEq,Obj.chan.injEq,Obj.mapIter.injEq,Obj.loop.injEq,Obj.deferred.injEq,
  and_true,true_and,renAddr_eq,zny] at ho ⊢
 ·exact zcT (fun v=>zcd h hE hF v) ho
 ·exact zcT (fun v=>zcd h hE hF v) ho
 ·exact h _ (dbl_eq.1 ho)
 ·exact h _ (dbl_eq.1 ho)
 ·refine zcT (fun e he=>?_) ho
  simp only [zaz,MapEntry.mk.injEq,and_true] at he ⊢
  exact⟨zcd h hE hF _ he.1,zcd h hE hF _ he.2⟩
 ·exact zcT (fun v=>zcd h hE hF v) ho
 ·exact fun x hx=>h _ (dbl_eq.1 (ho x hx))
 ·rename_i l
  obtain⟨a,b,c,d,e,f,g,i⟩:=l
  simp only [zcU,Loop.mk.injEq,true_and] at ho ⊢
  exact⟨zcT (fun v=>zcd h hE hF v) ho.1,h _ (dbl_eq.1 ho.2)⟩
 ·rename_i c
  cases c with
  | none=>rfl
  | some l =>
   simp only [Option.map_some,Option.some.injEq] at ho ⊢
   exact zcQ (fun d hd=>zfs h hE hF hd) ho
end
inductive Sup (P:Program) (mf:Md) (G:Gd) (D E:Nat→Prop) {α:Type} (rs:α→Prop):Sem α→Prop
 | dead {s:Sem α} (h:Dead P s):Sup P mf G D E rs s
 | pure {a:α} (h:rs a):Sup P mf G D E rs (.pure a)
 | load {m:Mode} {a:Addr} {k:Value→Sem α} (ha:D a.block) (h:∀ v,supV G D E v→Sup P mf G D E rs (k v)):Sup P mf G D E rs (.load m a k)
 | store {m:Mode} {a:Addr} {v:Value} {k:Sem α} (ha:D a.block) (hv:supV G D E v) (h:Sup P mf G D E rs k):Sup P mf G D E rs (.store m a v k)
 | new {o:Obj} {k:Nat→Sem α} (ho:za8 G D E o) (h:∀ b,D b→Sup P mf G D E rs (k b)) (hc:zbm o=false) (hp:zaG mf o=true):Sup P mf G D E rs (.new o k)
 | shape {b:Nat} {k:Option (TypeId×Nat)→Sem α} (hb:D b) (h:∀ s,Sup P mf G D E rs (k s)):Sup P mf G D E rs (.shape b k)
 | freeze {a:Addr} {n:Nat} {k:Sem α} (ha:D a.block) (h:Sup P mf G D E rs k):Sup P mf G D E rs (.freeze a n k)
 | frozen {a:Addr} {k:Bool→Sem α} (ha:D a.block) (h:∀ b,Sup P mf G D E rs (k b)):Sup P mf G D E rs (.frozen a k)
 | getObj {b:Nat} {k:Obj→Sem α} (hb:D b) (h:∀ o,zbm o=false→zaG mf o=true→za8 G D E o→Sup P mf G D E rs (k o)):Sup P mf G D E rs (.getObj b k)
 | setObj {b:Nat} {o:Obj} {k:Sem α} (hb:D b) (ho:za8 G D E o) (h:Sup P mf G D E rs k) (hc:zbm o=false) (hp:zaG mf o=true):Sup P mf G D E rs (.setObj b o k)
 | choose {q:Question} {k:Nat→Sem α} (h:∀ n,Sup P mf G D E rs (k n)):Sup P mf G D E rs (.choose q k)
 | program {k:Program→Sem α} (h:Sup P mf G D E rs (k P)):Sup P mf G D E rs (.program k)
 | mark {m:Mark} {k:Sem α} (h:Sup P mf G D E rs k):Sup P mf G D E rs (.mark m k)
theorem zbo {p:Nat→Nat} {o:Fn→Fn}:zgp ⟨p,tokA,o⟩:=⟨id,fun _=>rfl,fun _ _ h=>h⟩
theorem zlE {P:Program} {mf:Md} {G:Gd} {D E:Nat→Prop} (hG:∀ b,b<G.n→D b) {α β:Type} {rA rB:α→β→Prop} {K:Nat→Prop} {s:Sem α} {t:Sem β} (hA:SR P mf false (RA G) rA K s t) :
  ∀ {K' : Nat→Prop},SR P mf false (RB G D E) rB K' s t→Sup P mf G D E (fun a=>∃ b,rA a b∧rB a b) s:=by
 induction hA with
 | dead h=>exact fun _=>.dead h
 | pure h =>
  intro K' hB
  rename_i a b
  generalize ht:Sem.pure b=t at hB
  cases hB with
  | dead h=>exact .dead h
  | chooseR hn _=>exact absurd zbo hn
  | pure h'=>cases ht;exact .pure ⟨_,h,h'⟩
 | load h ih =>
  intro K' hB
  rename_i a k k'
  generalize ht:Sem.load .plain (zak (RA G) a) k'=t at hB
  cases hB with
  | dead h=>exact .dead h
  | chooseR hn _=>exact absurd zbo hn
  | load h' =>
   simp only [Sem.load.injEq,true_and] at ht
   obtain⟨h1,rfl⟩:=ht
   refine .load (((dbl_eq.1 (renAddr_eq.1 h1)).elim (hG _) id)) fun v hv=>ih v (K':=K') ?_
   rw [show ren (RA G) v=ren (RB G D E) v from hv]
   exact h' v
 | store h ih =>
  intro K' hB
  rename_i a v k k'
  generalize ht:Sem.store .plain (zak (RA G) a) (ren (RA G) v) k'=t at hB
  cases hB with
  | dead h=>exact .dead h
  | chooseR hn _=>exact absurd zbo hn
  | store h' =>
   simp only [Sem.store.injEq,true_and] at ht
   obtain⟨h1,h2,rfl⟩:=ht
   exact .store (((dbl_eq.1 (renAddr_eq.1 h1)).elim (hG _) id)) h2 (ih h')
 | new ho hc h ih =>
  intro K' hB
  rename_i o k k'
  generalize ht:Sem.new (zau (RA G) o) k'=t at hB
  cases hB with
  | dead h=>exact .dead h
  | chooseR hn _=>exact absurd zbo hn
  | new ho' hc' h' =>
   simp only [Sem.new.injEq] at ht
   obtain⟨h1,rfl⟩:=ht
   refine .new h1 (fun b hb=>ih b ?_ (K':=fun x=>K' x∨x=b)) hc ho
   rw [show (RA G).p b=(RB G D E).p b from dbl_eq.2 (.inr hb)]
   exact h' b
 | shape h ih =>
  intro K' hB
  rename_i b k k'
  generalize ht:Sem.shape ((RA G).p b) k'=t at hB
  cases hB with
  | dead h=>exact .dead h
  | chooseR hn _=>exact absurd zbo hn
  | shape h' =>
   simp only [Sem.shape.injEq] at ht
   obtain⟨h1,rfl⟩:=ht
   exact .shape ((dbl_eq.1 h1).elim (hG _) id) fun s=>ih s (h' s)
 | freeze hK h ih =>
  intro K' hB
  rename_i a n k k'
  generalize ht:Sem.freeze (zak (RA G) a) n k'=t at hB
  cases hB with
  | dead h=>exact .dead h
  | chooseR hn _=>exact absurd zbo hn
  | freeze hK' h' =>
   simp only [Sem.freeze.injEq,true_and] at ht
   obtain⟨h1,rfl⟩:=ht
   exact .freeze (((dbl_eq.1 (renAddr_eq.1 h1)).elim (hG _) id)) (ih h')
 | frozen h ih =>
  intro K' hB
  rename_i a k k'
  generalize ht:Sem.frozen (zak (RA G) a) k'=t at hB
  cases hB with
  | dead h=>exact .dead h
  | chooseR hn _=>exact absurd zbo hn
  | frozen h' =>
   simp only [Sem.frozen.injEq] at ht
   obtain⟨h1,rfl⟩:=ht
   exact .frozen (((dbl_eq.1 (renAddr_eq.1 h1)).elim (hG _) id)) fun x=>ih x x (h' x x)
 | getObj h ih =>
  intro K' hB
  rename_i b k k'
  generalize ht:Sem.getObj ((RA G).p b) k'=t at hB
  cases hB with
  | dead h=>exact .dead h
  | chooseR hn _=>exact absurd zbo hn
  | getObj h' =>
   simp only [Sem.getObj.injEq] at ht
   obtain⟨h1,rfl⟩:=ht
   refine .getObj ((dbl_eq.1 h1).elim (hG _) id) fun o ho hp hs=>ih o ho hp (K':=fun x=>K' x∨(x=b∧zdh mf o=true)) ?_
   rw [show zau (RA G) o=zau (RB G D E) o from hs]
   exact h' o ho hp
 | setObj hK ho hc h ih =>
  intro K' hB
  rename_i b o k k'
  generalize ht:Sem.setObj ((RA G).p b) (zau (RA G) o) k'=t at hB
  cases hB with
  | dead h=>exact .dead h
  | chooseR hn _=>exact absurd zbo hn
  | setObj hK' ho' hc' h' =>
   simp only [Sem.setObj.injEq] at ht
   obtain⟨h1,h2,rfl⟩:=ht
   exact .setObj ((dbl_eq.1 h1).elim (hG _) id) h2 (ih h') hc ho
 | choose h ih =>
  intro K' hB
  rename_i q k k'
  generalize ht:Sem.choose q k'=t at hB
  cases hB with
  | dead h=>exact .dead h
  | chooseR hn _=>exact absurd zbo hn
  | chooseL hn _ _=>exact absurd zbo hn
  | choose h' =>
   simp only [Sem.choose.injEq,true_and] at ht
   subst ht
   exact .choose fun n=>ih n (h' n)
 | chooseL hn _ _ _=>exact fun _=>absurd zbo hn
 | chooseR hn _ _=>exact fun _=>absurd zbo hn
 | program h ih =>
  intro K' hB
  rename_i k k'
  generalize ht:Sem.program k'=t at hB
  cases hB with
  | dead h=>exact .dead h
  | chooseR hn _=>exact absurd zbo hn
  | program h' =>
   simp only [Sem.program.injEq] at ht
   subst ht
   exact .program (ih h')
 | mark h ih =>
  intro K' hB
  rename_i k k'
  generalize ht:Sem.mark .noRoom k'=t at hB
  cases hB with
  | dead h=>exact .dead h
  | chooseR hn _=>exact absurd zbo hn
  | mark h' =>
   simp only [Sem.mark.injEq,true_and] at ht
   subst ht
   exact .mark (ih h')
theorem Sup.mono {P:Program} {mf:Md} {G:Gd} {D E:Nat→Prop} {α:Type} {rs rs' : α→Prop} {s:Sem α} (h:Sup P mf G D E rs s) (hq:∀ a,rs a→rs' a):Sup P mf G D E rs' s:=by
 induction h with
 | dead h=>exact .dead h
 | pure h=>exact .pure (hq _ h)
 | load ha _ ih=>exact .load ha ih
 | store ha hv _ ih=>exact .store ha hv ih
 | new ho _ hc hp ih=>exact .new ho ih hc hp
 | shape hb _ ih=>exact .shape hb ih
 | freeze ha _ ih=>exact .freeze ha ih
 | frozen ha _ ih=>exact .frozen ha ih
 | getObj hb _ ih=>exact .getObj hb ih
 | setObj hb ho _ hc hp ih=>exact .setObj hb ho ih hc hp
 | choose _ ih=>exact .choose ih
 | program _ ih=>exact .program ih
 | mark _ ih=>exact .mark ih
end Go.Con
