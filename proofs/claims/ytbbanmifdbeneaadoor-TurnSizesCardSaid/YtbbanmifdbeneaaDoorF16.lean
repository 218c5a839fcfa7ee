import Derived.Test.YtbbanmifdbeneaaDoorF15
import Derived.Conc.Events
import Derived.Conc.Listed
import Derived.Test.YtbbanmifdbeneaaDoorF13
set_option linter.all false
open Go.Sem renaming run → jqa, run_bind → jqb, run_pure → jqe, runT_eq → jqi, events_bind → jql
open Prod renaming mk → jqc
open Go.Result renaming ok → jqd, andThen → jqg
open Array renaming not_mem_empty → jqf
open Go.FrameMode renaming run → jqh
open Bool renaming and_eq_true → jqj
open Go.Instr renaming beginRound → jqk
namespace Go.Con
open Go
variable [Lone]
def zbe (P:Program):Bool→Code→Bool
 | _,.skip | _,.exit _ | _,.ret=>true
 | maps,.region _ ops _=>ops.all fun o=>okOp P maps o.op
 | maps,.seq a b=>zbe P maps a && zbe P maps b
 | maps,.cond c a b=>za2 P c && zbe P maps a && zbe P maps b
 | maps,.block _ b | maps,.loop b=>zbe P maps b
 | maps,.rangeFunc f _ a b=>za2 P f && zbe P (maps && Lone.lm) a && zbe P (maps && Lone.lm) b
 | _,.scope _ | _,.label _ | _,.goto _ | _,.refuse _=>false
def mdOf (P:Program) (maps:Bool):Md:=⟨maps,zbe P (maps && Lone.lm)⟩
theorem zms {P:Program} {m:Bool} {o:Op} (h:okOp P (m && Lone.lm) o=true):okOp P m o=true:=by
 cases m with
 | false=>exact h
 | true =>
  generalize Lone.lm=b at h
  cases b with
  | true=>exact h
  | false =>
   cases o<;>first
    | exact h
    | (exfalso;simp [okOp] at h;done)
theorem zbx {P:Program}:∀ {c:Code} {m:Bool},zbe P (m && Lone.lm) c=true→zbe P m c=true
 | .skip,_,_ | .exit _,_,_ | .ret,_,_=>rfl
 | .region _ ops _,m,h=>by
  simp only [zbe,Array.all_eq_true_iff_forall_mem] at h ⊢;exact fun o ho=>zms (h o ho)
 | .seq a b,m,h=>by
  simp only [zbe,jqj] at h ⊢;exact⟨zbx h.1,zbx h.2⟩
 | .cond c a b,m,h=>by
  simp only [zbe,jqj] at h ⊢;exact⟨⟨h.1.1,zbx h.1.2⟩,zbx h.2⟩
 | .block _ b,m,h=>zbx (c:=b) h
 | .loop b,m,h=>zbx (c:=b) h
 | .rangeFunc f _ a b,m,h=>by
  simp only [zbe,jqj] at h ⊢;rw [Bool.and_assoc,Bool.and_self] at h;exact h
 | .scope _,_,h | .label _,_,h | .goto _,_,h | .refuse _,_,h=>by cases h
theorem zih {P:Program} {maps:Bool} {ops:Array Oper} (h:(ops.all fun o=>okOp P maps o.op)=true) (l:List Nat):(l.all fun i=>(ops[i]?).all fun o=>okOp P maps o.op)=true:=by
 rw [List.all_eq_true];intro i _
 cases ho:ops[i]? with
 | none=>rfl
 | some o=>exact Array.all_eq_true_iff_forall_mem.1 h o (Array.mem_of_getElem? ho)
section
variable (P:Program) (maps:Bool)
def zbd:Item→Bool
 | .code c | .inLoop c=>zbe P maps c
 | .inBlock _ | .inRangeFunc _ | .endRangeFunc _ | .beginRound=>true
 | .inRegion ops l=>l.all fun i=>(ops[i]?).all fun o=>okOp P maps o.op
 | .inScope _ | .call .. | .extern ..=>false
def zex:Item→Bool
 | .code (.scope _) | .code (.label _) | .code (.goto _) | .code (.refuse _)=>false
 | .code _=>true
 | .inRegion ops (i :: _)=>(ops[i]?).all fun o=>okOp P maps o.op
 | .inScope _ | .call .. | .extern ..=>false
 | _=>true
theorem zk9 {it:Item} (h:zbd P maps it=true):zex P maps it=true:=by
 cases it with
 | code c=>cases c<;>first | rfl | exact h
 | inRegion ops l =>
  cases l with
  | nil=>rfl
  | cons i rest=>simp only [zbd,List.all_cons,jqj] at h;exact h.1
 | _=>first | rfl | exact h
structure OkFrame (fr:Frame):Prop where
 todo:fr.todo.all (zbd P maps)=true
 mode:fr.mode=.run∨fr.mode=.returning
 defers:∀ d∈fr.defers,∃ r,d={ target:=.collected r,args:=#[] }
 kind:fr.kind=.normal
structure zgn (fr:Frame):Prop where
 todo:∀ it k,fr.todo=it :: k→zex P maps it=true
 mode:fr.mode=.run∨fr.mode=.returning
 defers:∀ d∈fr.defers,∃ r,d={ target:=.collected r,args:=#[] }
 kind:fr.kind=.normal∨(fr.kind=.deferred∧fr.mode=.run∧fr.roundOf=none)
def zel (cs:List Frame) (v:Value):Sem (Frame×List Frame):=match cs with
 | c :: rest=>pure (c.finish v,rest)
 | []=>stuck ""
def zbf (fr:Frame) (cs:List Frame) (jump:Option Code):Sem (Frame×List Frame) :=
 match fr.roundOf with
 | none=>match jump with
  | none | some .ret=>pure ({ fr with mode:=.returning },cs)
  | _=>stuck ""
 | some l=>do let v ← Instr.endRound l jump;zel cs v
def zcn (fr:Frame) (cs:List Frame):Next→Sem (Frame×List Frame)
 | .value v=>pure (fr.finish v,cs)
 | .skip=>pure (fr.finish undef,cs)
 | .enter f args=>pure (Frame.enter P f args .normal,fr :: cs)
 | .round l f tmps a b=>pure (Frame.round l f tmps a b .normal,fr :: cs)
 | _=>stuck ""
def zcD (fr:Frame) (cs:List Frame):Sem (Frame×List Frame) :=
 match fr.todo with
 | []=>zbf fr cs none
 | .code .ret :: _=>zbf fr cs (some .ret)
 | .code .skip :: k | .inBlock _ :: k | .inRegion _ [] :: k=>pure ({ fr with todo:=k },cs)
 | .code (.seq a b) :: k=>pure ({ fr with todo:=.code a :: .code b :: k },cs)
 | .code (.cond c a b) :: k=>match fr.eval c with
  | .bool x=>pure ({ fr with todo:=.code (if x then a else b) :: k },cs)
  | _=>stuck ""
 | .code (.block id b) :: k=>pure ({ fr with todo:=.code b :: .inBlock id :: k },cs)
 | .code (.loop b) :: k | .inLoop b :: k=>pure ({ fr with todo:=.code b :: .inLoop b :: k },cs)
 | .code (.exit id) :: k=>match exitTo id k with
  | some k'=>pure ({ fr with todo:=k' },cs)
  | none=>zbf fr cs (some (.exit id))
 | .code (.rangeFunc f params assign body) :: k=>do
  let x ← Instr.enterLoop fr.fn fr.tmps params assign body fr.roundOf
  let n ← (do let d ← Deferred.ofValue (fr.eval f) #[.func (.yield x.1) #[] #[]];invoke d.target d.args)
  zcn P { fr with todo:=.inRangeFunc x.1 :: k,defers:=x.2++fr.defers } cs n
 | .beginRound :: _=>do
  (fr.roundOf.elim (stuck "") jqk:Sem Unit)
  pure (fr.finish undef,cs)
 | .endRangeFunc l :: k=>do
  let jump ← Instr.endLoop l
  pure ({ fr with todo:=(jump.map Item.code).toList++k },cs)
 | .code (.region id ops draw) :: k =>
  if !draw then pure ({ fr with todo:=.inRegion ops (List.range ops.size) :: k },cs)
  else do
   let t ← choose (.order fr.fn id)
   pure ({ fr with todo:=.inRegion ops (Region.schedule (P.follows .mixedOrders) ops t) :: k },cs)
 | .inRegion ops (i :: _) :: _ =>
  if ((ops[i]?).map (Region.wanted · (yielded ops fr.tmps))).getD false then
   match ops[i]? with
   | none=>stuck ""
   | some o=>do
    let n ← execOp fr.eval o
    zcn P fr cs n
  else pure (fr.finish undef,cs)
 | _=>stuck ""
def zao (fr:Frame) (cs:List Frame):Sem (Frame×List Frame) :=
 match fr.mode with
 | .run=>zcD P fr cs
 | .returning=>match fr.defers with
  | { target:=.collected block,.. } :: ds=>do
   let calls ← Instr.takeDeferred block
   pure ({ fr with defers:=calls++ds },cs)
  | _ :: _=>stuck ""
  | []=>match P.funcs[fr.fn]? with
   | none=>zel cs (fr.tmps.getD 0 undef)
   | some fn=>do
    let v ← results fn fr.tmps
    zel cs v
 | .panicking _=>stuck ""
end
section
variable {P:Program} {maps:Bool}
def goes (s:GStep) (fr:Frame) (cs:List Frame) (w:World) (ok:Array Event):Prop :=
 ∃ es,s=.go { frame:=fr,callers:=cs,status:=.running,dying:=none } w es∧∀ e∈es,e∈ok
theorem zck {s:GStep} {fr:Frame} {cs:List Frame} {w:World} {ok ok' es:Array Event} (h:goes s fr cs w ok) (h1:∀ e∈ok,e∈ok') (h2:∀ e∈es,e∈ok'):goes (GStep.after es s) fr cs w ok':=by
 obtain⟨es',rfl,h⟩:=h;refine⟨es++es',rfl,fun e he=>?_⟩;rcases Array.mem_append.1 he with he | he
 ·exact h2 e he
 ·exact h1 e (h e he)
theorem zbP {α β:Type} {x:Sem α} {f:α→Sem β} {w:World} {es:Array Event} {e:Event} (h:e∈x.events P w es):e∈(x >>= f).events P w es:=by
 rw [jql]
 cases x.run P w with
 | halt=>exact h
 | ok a w1 =>
  rw [Result.evThen_ok,Sem.events_acc];exact Array.mem_append.2 (.inl h)
theorem zgT {α β:Type} {x:Sem α} {f:α→Sem β} {a:α} {w w1:World} {es:Array Event} {e:Event} (hx:x.run P w=.ok a w1) (h:e∈(f a).events P w1 #[]):e∈(x >>= f).events P w es:=by
 rw [jql,hx,Result.evThen_ok,Sem.events_acc];exact Array.mem_append.2 (.inr h)
theorem zff {fr fr' : Frame} {cs cs' : List Frame} {s:Sem Next} {w w' : World} (ht:∀ d b r sv k,fr.todo≠.call d b r sv :: k) (hk2:(fr.kind == CallKind.early)=false)
  (h:(s >>= zcn P fr cs).run P w=.ok (fr',cs') w'):goes (stepG.apply P true fr cs none s w) fr' cs' w' (s.events P w #[]):=by
 rw [jqb] at h;unfold stepG.apply;simp only [jqi,if_true]
 cases hs:s.run P w with
 | halt hh w1=>rw [hs] at h;cases h
 | ok n w1 =>
  rw [hs] at h;simp only [hk2,Bool.false_eq_true,if_false]
  cases n<;>first
   | (cases h;done)
   | (simp only [zcn,jqg,jqe,jqd.injEq,jqc.injEq] at h
      obtain⟨⟨rfl,rfl⟩,rfl⟩:=h;refine zck (ok:=#[]) ⟨#[],?_,fun e he=>he⟩ (fun e he=>(jqf e he).elim) fun e he=>Go.Conc.mem_seen he
      first
      | rfl
      | (dsimp only
         split
         ·rename_i h';exact (ht _ _ _ _ _ h').elim
         ·rfl))
theorem ze6 {main:Bool} {fr fr' : Frame} {cs cs' : List Frame} {jump:Option Code} {w w' : World} (hk:fr.kind=.normal∨fr.roundOf=none) :
  (zbf fr cs jump).run P w=.ok (fr',cs') w' →
  goes (match fr.roundOf with
   | none=>if jump matches none | some .ret then .go { frame:={ fr with mode:=.returning },callers:=cs,status:=.running,dying:=none } w else .ended (.stuck "exit, goto: no such block or label" (fr.pos P)) w
   | some l =>
    let (r,es):=(Instr.endRound l jump).runT P w #[]
    GStep.after (seen P fr.fn es) <| match r with
    | .ok v w=>doReturn P main fr cs none v w
    | .halt _ w=>.ended (.stuck "range over a function: no such loop" (fr.pos P)) w) fr' cs' w' ((zbf fr cs jump).events P w #[]):=by
 intro h;obtain⟨fn,tmps,todo,defers,mode,kind,roundOf⟩:=fr;dsimp only at hk
 cases roundOf with
 | none =>
  cases jump with
  | none =>
   simp only [zbf,jqe,jqd.injEq,jqc.injEq] at h;obtain⟨⟨rfl,rfl⟩,rfl⟩:=h;exact⟨#[],rfl,fun e he=>(jqf e he).elim⟩
  | some c =>
   cases c<;>first
    | (cases h;done)
    | (simp only [zbf,jqe,jqd.injEq,jqc.injEq] at h
       obtain⟨⟨rfl,rfl⟩,rfl⟩:=h;exact⟨#[],rfl,fun e he=>(jqf e he).elim⟩)
 | some l =>
  obtain rfl:=hk.resolve_right (by simp);dsimp only [zbf] at h ⊢;rw [jqb] at h;rw [jql];simp only [jqi]
  cases hs:(Instr.endRound l jump).run P w with
  | halt hh w1=>rw [hs] at h;cases h
  | ok v w1 =>
   rw [hs] at h;simp only [jqg,Result.evThen] at h ⊢
   cases cs with
   | nil=>cases h
   | cons c rest =>
    simp only [zel,jqe,jqd.injEq,jqc.injEq] at h;obtain⟨⟨rfl,rfl⟩,rfl⟩:=h;refine zck (ok:=#[]) ⟨#[],?_,fun e he=>he⟩ (fun e he=>(jqf e he).elim) fun e he=>Go.Conc.mem_seen he;rfl
theorem OkFrame.head {fr:Frame} (h:OkFrame P maps fr):zgn P maps fr :=
 ⟨fun it k e=>by have:=h.todo;rw [e] at this;simp only [List.all_cons,jqj] at this;exact zk9 P maps this.1,h.mode,h.defers,.inl h.kind⟩
theorem zdX {main:Bool} {fr fr' : Frame} {cs cs' : List Frame} {st:GoStatus} {off:Option (Array CommCase×CommShape)} {w w' : World} (hok:zgn P maps fr)
  (h:(zao P fr cs).run P w=.ok (fr',cs') w') :
  goes (stepG P main { frame:=fr,callers:=cs,status:=st,dying:=none,offers:=off } w true) fr' cs' w' ((zao P fr cs).events P w #[]):=by
 have hk:=hok.kind;have none_ok:∀ {fr fr' : Frame} {cs cs' : List Frame} {w w' : World} {ok:Array Event},(pure (fr,cs):Sem (Frame×List Frame)).run P w=.ok (fr',cs') w'→goes (.go { frame:=fr,callers:=cs,status:=.running,dying:=none } w) fr' cs' w' ok:=by
  intro fr fr' cs cs' w w' ok h;simp only [jqe,jqd.injEq,jqc.injEq] at h;obtain⟨⟨rfl,rfl⟩,rfl⟩:=h;exact⟨#[],rfl,fun e he=>(jqf e he).elim⟩
 rcases hok.mode with hm | hm
 ·
  unfold zao at h ⊢;rw [hm] at h ⊢;have hst:stepG P main { frame:=fr,callers:=cs,status:=st,dying:=none,offers:=off } w true=stepG.exec P main true fr cs none w:=by
   unfold stepG;simp only [hm]
  rw [hst];have htodo:=hok.todo;obtain⟨fn,tmps,todo,defers,mode,kind,roundOf⟩:=fr;dsimp only at hm hk htodo;subst hm;have hk2:(kind == CallKind.early)=false:=by rcases hk with rfl | ⟨rfl,_⟩<;>rfl
  have hk3:kind=.normal∨roundOf=none:=hk.imp id fun h=>h.2.2;dsimp only at h ⊢;unfold stepG.exec;unfold zcD at h ⊢
  cases todo with
  | nil=>exact ze6 hk3 h
  | cons it k =>
   have htodo:zex P maps it=true∧True:=⟨htodo it k rfl,trivial⟩
   cases it with
   | code c =>
    cases c with
    | skip=>exact none_ok h
    | ret=>exact ze6 hk3 h
    | seq a b=>exact none_ok h
    | block id b=>exact none_ok h
    | loop b=>exact none_ok h
    | cond c a b =>
     dsimp only at h ⊢
     split at h
     ·rename_i hc
      rw [hc];exact none_ok h
     ·cases h
    | exit id =>
     dsimp only at h ⊢
     cases he:exitTo id k with
     | none=>rw [he] at h;exact ze6 hk3 h
     | some k'=>rw [he] at h;exact none_ok h
    | region id ops draw =>
     cases draw
     ·exact none_ok h
     ·simp only [Bool.not_true,Bool.false_eq_true,if_false] at h ⊢
      rw [jqb] at h
      cases hc:(choose (.order fn id)).run P w with
      | halt hh w1=>rw [hc] at h;cases h
      | ok t w1=>rw [hc] at h;exact none_ok h
    | rangeFunc f params assign body =>
     dsimp only at h ⊢;simp only [jqi]
     cases hs:(Instr.enterLoop fn tmps params assign body roundOf).run P w with
     | halt hh w1=>rw [jqb,hs] at h;cases h
     | ok x w1 =>
      obtain⟨l,mark⟩:=x;have h2:=h;rw [jqb,hs] at h2;simp only [jqg] at h2 ⊢;have hres:resolve (Frame.eval { fn:=fn,tmps:=tmps,todo:=Item.inRangeFunc l :: k,defers:=mark++defers,mode:=jqh,kind:=kind,roundOf:=roundOf }) { callee:=.value f,args:=#[.const (.func (.yield l) #[] #[])],argTypes:=#[] } 0 =
        Deferred.ofValue (Frame.eval { fn:=fn,tmps:=tmps,todo:=Item.code (Code.rangeFunc f params assign body) :: k,defers:=defers,mode:=jqh,kind:=kind,roundOf:=roundOf } f) #[.func (.yield l) #[] #[]]:=by
       cases f<;>simp [resolve,Frame.eval]
      rw [hres];refine zck (zff ?_ hk2 h2) (fun e he=>?_) (fun e he=>?_)
      ·intro d b r sv k hh;cases hh
      ·exact zgT hs (zbP he)
      ·exact zbP (Go.Conc.mem_seen he)
    | _=>cases htodo.1
   | inBlock id=>exact none_ok h
   | inLoop b=>exact none_ok h
   | inRegion ops todo =>
    cases todo with
    | nil=>exact none_ok h
    | cons i rest =>
     dsimp only at h ⊢
     split at h
     ·rename_i hw
      rw [if_pos hw,if_pos hw]
      cases ho:ops[i]? with
      | none=>rw [ho] at h;cases h
      | some o =>
       rw [ho] at h;have hop:okOp P maps o.op=true:=by
        have:=htodo.1;simp only [zex,ho,Option.all_some] at this;exact this
       have hf:({ fn:=fn,tmps:=tmps,todo:=Item.inRegion ops (i :: rest) :: k,defers:=defers,mode:=jqh,kind:=kind,roundOf:=roundOf }:Frame).oper?=some o:=ho;unfold stepG.oper;rw [hf];have hg:=zff (P:=P) (fr:={ fn:=fn,tmps:=tmps,todo:=Item.inRegion ops (i :: rest) :: k,defers:=defers,mode:=jqh,kind:=kind,roundOf:=roundOf }) (cs:=cs) (by intro d b r sv k hh;cases hh) hk2 h;have hg2:=zck (es:=#[]) hg (ok':=(do let n ← execOp (Frame.eval { fn:=fn,tmps:=tmps,todo:=Item.inRegion ops (i :: rest) :: k,defers:=defers,mode:=jqh,kind:=kind,roundOf:=roundOf }) o;zcn P { fn:=fn,tmps:=tmps,todo:=Item.inRegion ops (i :: rest) :: k,defers:=defers,mode:=jqh,kind:=kind,roundOf:=roundOf } cs n:Sem (Frame×List Frame)).events P w #[]) (fun e he=>zbP he) (fun e he=>(jqf e he).elim);have hne:∀ s:GStep,GStep.after #[] s=s:=by intro s;cases s<;>simp [GStep.after]
       rw [hne] at hg2;dsimp only;split
       ·rename_i l c hh
        rw [hh] at hop;cases hop
       ·exact hg2
     ·rename_i hw
      rw [if_neg hw];exact none_ok h
   | inRangeFunc l=>cases h
   | endRangeFunc l =>
    dsimp only at h ⊢;rw [jqb] at h;rw [jql];simp only [jqi]
    cases hs:(Instr.endLoop l).run P w with
    | halt hh w1=>rw [hs] at h;cases h
    | ok jump w1 =>
     rw [hs] at h;simp only [jqg,Result.evThen,jqe,jqd.injEq,jqc.injEq] at h ⊢;obtain⟨⟨rfl,rfl⟩,rfl⟩:=h;exact zck (ok:=#[]) ⟨#[],rfl,fun e he=>he⟩ (fun e he=>(jqf e he).elim) fun e he=>Go.Conc.mem_seen he
   | beginRound =>
    dsimp only at h ⊢
    cases hs:(roundOf.elim (stuck "") jqk:Sem Unit).run P w with
    | halt hh w1=>rw [jqb,hs] at h;cases h
    | ok u w1 =>
     have h2:=h;rw [jqb,hs] at h2;simp only [jqg,jqe,jqd.injEq,jqc.injEq] at h2;obtain⟨⟨rfl,rfl⟩,rfl⟩:=h2;have hb:(do (roundOf.elim (stuck "beginRound: no round") jqk:Sem Unit);pure Next.skip:Sem Next)=(do (roundOf.elim (stuck "") jqk:Sem Unit);pure Next.skip):=by
      cases roundOf with
      | none=>cases hs
      | some l=>rfl
     rw [hb];have hg:=zff (P:=P) (w':=w1) (s:=(do (roundOf.elim (stuck "") jqk:Sem Unit);pure Next.skip)) (fr:={ fn:=fn,tmps:=tmps,todo:=Item.beginRound :: k,defers:=defers,mode:=jqh,kind:=kind,roundOf:=roundOf }) (cs:=cs) (by intro d b r sv k hh;cases hh) hk2
      (by rw [jqb,jqb,hs];rfl)
     obtain⟨es,h1,h3⟩:=hg;refine⟨es,h1,fun e he=>?_⟩;have:=h3 e he;rw [jql,hs] at this;exact zbP this
   | _=>cases htodo.1
 ·
  obtain⟨fn,tmps,todo,defers,mode,kind,roundOf⟩:=fr;dsimp only at hm hk;subst hm
  replace hk:=hk.resolve_right (by simp)
  subst hk;have hd:=hok.defers;have hst:stepG P main { frame:={ fn:=fn,tmps:=tmps,todo:=todo,defers:=defers,mode:=FrameMode.returning,kind:=CallKind.normal,roundOf:=roundOf },callers:=cs,status:=st,dying:=none,offers:=off } w true=unwind P main { fn:=fn,tmps:=tmps,todo:=todo,defers:=defers,mode:=FrameMode.returning,kind:=CallKind.normal,roundOf:=roundOf } cs none w:=by
   unfold stepG;rfl
  rw [hst];unfold unwind;unfold zao at h ⊢;dsimp only at h ⊢ hd
  cases defers with
  | cons d ds =>
   obtain⟨b,rfl⟩:=hd d (List.mem_cons_self ..);dsimp only at h ⊢;simp only [jqi]
   cases hs:(Instr.takeDeferred b).run P w with
   | halt hh w1=>rw [jqb,hs] at h;cases h
   | ok calls w1 =>
    have h2:=h;rw [jqb,hs] at h2;simp only [jqg,jqe,jqd.injEq,jqc.injEq] at h2 ⊢;obtain⟨⟨rfl,rfl⟩,rfl⟩:=h2;exact zck (ok:=#[]) ⟨#[],rfl,fun e he=>he⟩ (fun e he=>(jqf e he).elim) fun e he=>zbP (Go.Conc.mem_seen he)
  | nil =>
   dsimp only at h ⊢
   cases hf:P.funcs[fn]? with
   | none =>
    rw [hf] at h;dsimp only at h ⊢
    cases cs with
    | nil=>cases h
    | cons c rest =>
     simp only [zel,jqe,jqd.injEq,jqc.injEq] at h;obtain⟨⟨rfl,rfl⟩,rfl⟩:=h;exact⟨#[],rfl,fun e he=>(jqf e he).elim⟩
   | some f =>
    rw [hf] at h;dsimp only at h ⊢;simp only [jqi]
    cases hs:(results f tmps).run P w with
    | halt hh w1=>rw [jqb,hs] at h;cases h
    | ok v w1 =>
     have h2:=h;rw [jqb,hs] at h2;simp only [jqg] at h2 ⊢
     cases cs with
     | nil=>cases h2
     | cons c rest =>
      simp only [zel,jqe,jqd.injEq,jqc.injEq] at h2;obtain⟨⟨rfl,rfl⟩,rfl⟩:=h2;exact zck (ok:=#[]) ⟨#[],rfl,fun e he=>he⟩ (fun e he=>(jqf e he).elim) fun e he=>zbP (Go.Conc.mem_seen he)
end
end Go.Con
namespace Go.Con
open Go
variable [Lone]
open Classical in
noncomputable def dblD (G:Nat) (D:Nat→Prop) (b:Nat):Nat:=if b<G then b else if D b then 2 * b else 2 * b+1
def dbl (G:Nat) (b:Nat):Nat:=if b<G then b else 2 * b
theorem zpf (G:Nat):∀ a b,dbl G a=dbl G b→a=b:=by
 intro a b h;unfold dbl at h
 split at h<;>split at h<;>omega
theorem znj (G:Nat) (D:Nat→Prop):∀ a b,dblD G D a=dblD G D b→a=b:=by
 intro a b h;unfold dblD at h
 split at h<;>split at h<;>(try split at h)<;>(try split at h)<;>omega
theorem dbl_eq {G:Nat} {D:Nat→Prop} {b:Nat}:dbl G b=dblD G D b↔(b<G∨D b):=by
 unfold dbl dblD;split
 ·rename_i h;simp [h]
 ·rename_i h
  split<;>rename_i h'<;>simp [h,h']
theorem zoQ {G b:Nat} (h:b<G):dbl G b=b:=by simp [dbl,h]
theorem zn9 {G:Nat} {D:Nat→Prop} {b:Nat} (h:b<G):dblD G D b=b:=by simp [dblD,h]
structure Gd where
 n:Nat
 good:Fn→Bool
def ziR (good:Fn→Bool) (f:Fn):Fn:=if good f then f else match f with
 | .func _=>.method ""
 | _=>.func 0
theorem badFn_eq {good:Fn→Bool} {f:Fn}:f=ziR good f↔good f=true:=by
 unfold ziR;by_cases h:good f=true
 ·simp [h]
 ·simp only [h,Bool.false_eq_true,if_false,iff_false]
  cases f<;>simp
def tokA (x:Nat):Value:=.chan (some x)
def RA (G:Gd):Rn:=⟨dbl G.n,tokA,id⟩
noncomputable def RB (G:Gd) (D _E:Nat→Prop):Rn:=⟨dblD G.n D,tokA,ziR G.good⟩
def supV (G:Gd) (D E:Nat→Prop) (v:Value):Prop:=ren (RA G) v=ren (RB G D E) v
def zba (G:Gd) (D E:Nat→Prop) (o:Obj):Prop:=zaz (RA G) o=zaz (RB G D E) o
theorem renAddr_eq {ρ σ:Rn} {a:Addr}:zak ρ a=zak σ a↔ρ.p a.block=σ.p a.block:=by
 obtain⟨b,o,s⟩:=a;simp [zak]
theorem zf0 {ρ σ:Rn} {a:Option Addr}:a.map (zak ρ)=a.map (zak σ)↔∀ x,a=some x→ρ.p x.block=σ.p x.block:=by
 cases a<;>simp [renAddr_eq]
theorem zl4 {ρ σ:Nat→Nat} {a:Option Nat}:a.map ρ=a.map σ↔∀ x,a=some x→ρ x=σ x:=by
 cases a<;>simp
theorem ziA {G:Gd} {D E:Nat→Prop} {ρ σ:Rn} (h:∀ b,b<G.n∨D b→ρ.p b=σ.p b) (hF:∀ f,G.good f=true→ρ.o f=σ.o f) {f:Fn} (hf:zfi (RA G) f=zfi (RB G D E) f):zfi ρ f=zfi σ f:=by
 cases f with
 | yield l =>
  simp only [zfi,Fn.yield.injEq] at hf ⊢;exact h _ (dbl_eq.1 hf)
 | _=>exact hF _ (badFn_eq.1 hf)
section
variable {G:Gd} {D E:Nat→Prop} {ρ σ:Rn}
mutual
theorem zcq (h:∀ b,b<G.n∨D b→ρ.p b=σ.p b) (hE:∀ b,ρ.c b=σ.c b) (hF:∀ f,G.good f=true→ρ.o f=σ.o f):∀ v,supV G D E v→ren ρ v=ren σ v
 | .pointer a,hv=>by
  simp only [supV,ren,Value.pointer.injEq,zf0] at hv ⊢;exact fun x hx=>h _ (dbl_eq.1 (hv x hx))
 | .slice a n c,hv=>by
  simp only [supV,ren,Value.slice.injEq,zf0,and_true] at hv ⊢;exact fun x hx=>h _ (dbl_eq.1 (hv x hx))
 | .map a,hv=>by
  simp only [supV,ren,Value.map.injEq,zl4] at hv ⊢;exact fun x hx=>h _ (dbl_eq.1 (hv x hx))
 | .chan none,_=>rfl
 | .chan (some x),_=>by simp only [ren,hE]
 | .func fn a b,hv=>by
  simp only [supV,ren] at hv ⊢
  cases ht:zeN fn a b with
  | some x=>simp only [hE]
  | none =>
  simp only [ht,Value.func.injEq] at hv ⊢;exact⟨ziA h hF hv.1,zfR h hE hF a hv.2.1,zfR h hE hF b hv.2.2⟩
 | .iface t v,hv=>by
  simp only [supV,ren,Value.iface.injEq,true_and] at hv ⊢;exact zcq h hE hF v hv
 | .agg cs,hv=>by
  simp only [supV,ren,Value.agg.injEq] at hv ⊢;exact zfR h hE hF cs hv
 | .tuple cs,hv=>by
  simp only [supV,ren,Value.tuple.injEq] at hv ⊢;exact zfR h hE hF cs hv
 | .bool _,_ | .int ..,_ | .float ..,_ | .complex ..,_ | .string _,_ | .nilFunc,_ | .nilIface,_=>rfl
theorem zfR (h:∀ b,b<G.n∨D b→ρ.p b=σ.p b) (hE:∀ b,ρ.c b=σ.c b) (hF:∀ f,G.good f=true→ρ.o f=σ.o f):∀ a:Array Value,renA (RA G) a=renA (RB G D E) a→renA ρ a=renA σ a
 | ⟨l⟩,hv=>by
  simp only [renA,Array.mk.injEq] at hv ⊢;exact zj9 h hE hF l hv
theorem zj9 (h:∀ b,b<G.n∨D b→ρ.p b=σ.p b) (hE:∀ b,ρ.c b=σ.c b) (hF:∀ f,G.good f=true→ρ.o f=σ.o f):∀ l:List Value,renL (RA G) l=renL (RB G D E) l→renL ρ l=renL σ l
 | [],_=>rfl
 | v :: l,hv=>by
  simp only [renL,List.cons.injEq] at hv ⊢;exact⟨zcq h hE hF v hv.1,zj9 h hE hF l hv.2⟩
end
theorem zc6 {α β:Type} {f g f' g' : α→β} (h:∀ a,f a=g a→f' a=g' a) {c:Array α} (hc:c.map f=c.map g):c.map f'=c.map g':=by
 apply Array.ext
 ·simp
 ·intro i h1 h2
  simp only [Array.size_map] at h1;simp only [Array.getElem_map];refine h _ ?_;have:=congrArg (fun a=>a[i]?) hc
  simpa [Array.getElem?_eq_getElem h1] using this
theorem zc4 {α β:Type} {f g f' g' : α→β} (h:∀ a,f a=g a→f' a=g' a):∀ {c:List α},c.map f=c.map g→c.map f'=c.map g'
 | [],_=>rfl
 | a :: l,hc=>by
  simp only [List.map_cons,List.cons.injEq] at hc ⊢;exact⟨h a hc.1,zc4 h hc.2⟩
theorem zfa (h:∀ b,b<G.n∨D b→ρ.p b=σ.p b) (hE:∀ b,ρ.c b=σ.c b) (hF:∀ f,G.good f=true→ρ.o f=σ.o f) {d:Deferred} (hd:zaM (RA G) d=zaM (RB G D E) d):zaM ρ d=zaM σ d:=by
 obtain⟨t,as⟩:=d;simp only [zaM,Deferred.mk.injEq] at hd ⊢;refine⟨?_,zc6 (fun v=>zcq h hE hF v) hd.2⟩;have ht:=hd.1
 cases t<;>simp only [zdf,Target.fn.injEq,Target.collected.injEq,Target.coroexit.injEq] at ht ⊢
 ·exact⟨ziA h hF ht.1,zc6 (fun v=>zcq h hE hF v) ht.2⟩
 ·exact h _ (dbl_eq.1 ht)
 ·exact h _ (dbl_eq.1 ht)
theorem zfk (h:∀ b,b<G.n∨D b→ρ.p b=σ.p b) (hE:∀ b,ρ.c b=σ.c b) (hF:∀ f,G.good f=true→ρ.o f=σ.o f) {o:Obj} (ho:zba G D E o):zaz ρ o=zaz σ o:=by
 cases o<;>simp only [zba,zaz,Obj.cells.injEq,Obj.pending.injEq,Obj.view.injEq,Obj.number.injEq,Obj.map.injEq,Obj.chan.injEq,Obj.mapIter.injEq,Obj.loop.injEq,Obj.deferred.injEq,
  and_true,true_and,renAddr_eq,zl4] at ho ⊢
 ·exact zc6 (fun v=>zcq h hE hF v) ho
 ·exact zc6 (fun v=>zcq h hE hF v) ho
 ·exact h _ (dbl_eq.1 ho)
 ·exact h _ (dbl_eq.1 ho)
 ·refine zc6 (fun e he=>?_) ho
  simp only [zaB,MapEntry.mk.injEq,and_true] at he ⊢;exact⟨zcq h hE hF _ he.1,zcq h hE hF _ he.2⟩
 ·exact zc6 (fun v=>zcq h hE hF v) ho
 ·exact fun x hx=>h _ (dbl_eq.1 (ho x hx))
 ·rename_i l
  obtain⟨a,b,c,d,e,f,g,i⟩:=l;simp only [zdt,Loop.mk.injEq,true_and] at ho ⊢;exact⟨zc6 (fun v=>zcq h hE hF v) ho.1,h _ (dbl_eq.1 ho.2)⟩
 ·rename_i c
  cases c with
  | none=>rfl
  | some l =>
   simp only [Option.map_some,Option.some.injEq] at ho ⊢;exact zc4 (fun d hd=>zfa h hE hF hd) ho
end
inductive Sup (P:Program) (mf:Md) (G:Gd) (D E:Nat→Prop) {α:Type} (rs:α→Prop):Sem α→Prop
 | dead {s:Sem α} (h:Dead P s):Sup P mf G D E rs s
 | pure {a:α} (h:rs a):Sup P mf G D E rs (.pure a)
 | load {m:Mode} {a:Addr} {k:Value→Sem α} (ha:D a.block) (h:∀ v,supV G D E v→Sup P mf G D E rs (k v)):Sup P mf G D E rs (.load m a k)
 | store {m:Mode} {a:Addr} {v:Value} {k:Sem α} (ha:D a.block) (hv:supV G D E v) (h:Sup P mf G D E rs k):Sup P mf G D E rs (.store m a v k)
 | new {o:Obj} {k:Nat→Sem α} (ho:zba G D E o) (h:∀ b,D b→Sup P mf G D E rs (k b)) (hc:zbv o=false) (hp:zaK mf o=true):Sup P mf G D E rs (.new o k)
 | shape {b:Nat} {k:Option (TypeId×Nat)→Sem α} (hb:D b) (h:∀ s,Sup P mf G D E rs (k s)):Sup P mf G D E rs (.shape b k)
 | freeze {a:Addr} {n:Nat} {k:Sem α} (ha:D a.block) (h:Sup P mf G D E rs k):Sup P mf G D E rs (.freeze a n k)
 | frozen {a:Addr} {k:Bool→Sem α} (ha:D a.block) (h:∀ b,Sup P mf G D E rs (k b)):Sup P mf G D E rs (.frozen a k)
 | getObj {b:Nat} {k:Obj→Sem α} (hb:D b) (h:∀ o,zbv o=false→zaK mf o=true→zba G D E o→Sup P mf G D E rs (k o)):Sup P mf G D E rs (.getObj b k)
 | setObj {b:Nat} {o:Obj} {k:Sem α} (hb:D b) (ho:zba G D E o) (h:Sup P mf G D E rs k) (hc:zbv o=false) (hp:zaK mf o=true):Sup P mf G D E rs (.setObj b o k)
 | choose {q:Question} {k:Nat→Sem α} (h:∀ n,Sup P mf G D E rs (k n)):Sup P mf G D E rs (.choose q k)
 | program {k:Program→Sem α} (h:Sup P mf G D E rs (k P)):Sup P mf G D E rs (.program k)
 | mark {m:Mark} {k:Sem α} (h:Sup P mf G D E rs k):Sup P mf G D E rs (.mark m k)
theorem zkB {P:Program} {mf:Md} {G:Gd} {D E:Nat→Prop} (hG:∀ b,b<G.n→D b) {α β:Type} {rA rB:α→β→Prop} {K:Nat→Prop} {s:Sem α} {t:Sem β} (hA:SR P mf false (RA G) rA K s t) :
  ∀ {K' : Nat→Prop},SR P mf false (RB G D E) rB K' s t→Sup P mf G D E (fun a=>∃ b,rA a b∧rB a b) s:=by
 induction hA with
 | dead h=>exact fun _=>.dead h
 | pure h =>
  intro K' hB;rename_i a b;generalize ht:Sem.pure b=t at hB
  cases hB with
  | dead h=>exact .dead h
  | pure h'=>cases ht;exact .pure ⟨_,h,h'⟩
 | load h ih =>
  intro K' hB;rename_i a k k';generalize ht:Sem.load .plain (zak (RA G) a) k'=t at hB
  cases hB with
  | dead h=>exact .dead h
  | load h' =>
   simp only [Sem.load.injEq,true_and] at ht;obtain⟨h1,rfl⟩:=ht;refine .load (((dbl_eq.1 (renAddr_eq.1 h1)).elim (hG _) id)) fun v hv=>ih v (K':=K') ?_;rw [show ren (RA G) v=ren (RB G D E) v from hv];exact h' v
 | store h ih =>
  intro K' hB;rename_i a v k k';generalize ht:Sem.store .plain (zak (RA G) a) (ren (RA G) v) k'=t at hB
  cases hB with
  | dead h=>exact .dead h
  | store h' =>
   simp only [Sem.store.injEq,true_and] at ht;obtain⟨h1,h2,rfl⟩:=ht;exact .store (((dbl_eq.1 (renAddr_eq.1 h1)).elim (hG _) id)) h2 (ih h')
 | new ho hc h ih =>
  intro K' hB;rename_i o k k';generalize ht:Sem.new (zaz (RA G) o) k'=t at hB
  cases hB with
  | dead h=>exact .dead h
  | new ho' hc' h' =>
   simp only [Sem.new.injEq] at ht;obtain⟨h1,rfl⟩:=ht;refine .new h1 (fun b hb=>ih b ?_ (K':=fun x=>K' x∨x=b)) hc ho;rw [show (RA G).p b=(RB G D E).p b from dbl_eq.2 (.inr hb)];exact h' b
 | shape h ih =>
  intro K' hB;rename_i b k k';generalize ht:Sem.shape ((RA G).p b) k'=t at hB
  cases hB with
  | dead h=>exact .dead h
  | shape h' =>
   simp only [Sem.shape.injEq] at ht;obtain⟨h1,rfl⟩:=ht;exact .shape ((dbl_eq.1 h1).elim (hG _) id) fun s=>ih s (h' s)
 | freeze hK h ih =>
  intro K' hB;rename_i a n k k';generalize ht:Sem.freeze (zak (RA G) a) n k'=t at hB
  cases hB with
  | dead h=>exact .dead h
  | freeze hK' h' =>
   simp only [Sem.freeze.injEq,true_and] at ht;obtain⟨h1,rfl⟩:=ht;exact .freeze (((dbl_eq.1 (renAddr_eq.1 h1)).elim (hG _) id)) (ih h')
 | frozen h ih =>
  intro K' hB;rename_i a k k';generalize ht:Sem.frozen (zak (RA G) a) k'=t at hB
  cases hB with
  | dead h=>exact .dead h
  | frozen h' =>
   simp only [Sem.frozen.injEq] at ht;obtain⟨h1,rfl⟩:=ht;exact .frozen (((dbl_eq.1 (renAddr_eq.1 h1)).elim (hG _) id)) fun x=>ih x x (h' x x)
 | getObj h ih =>
  intro K' hB;rename_i b k k';generalize ht:Sem.getObj ((RA G).p b) k'=t at hB
  cases hB with
  | dead h=>exact .dead h
  | getObj h' =>
   simp only [Sem.getObj.injEq] at ht;obtain⟨h1,rfl⟩:=ht;refine .getObj ((dbl_eq.1 h1).elim (hG _) id) fun o ho hp hs=>ih o ho hp (K':=fun x=>K' x∨(x=b∧zcA mf o=true)) ?_;rw [show zaz (RA G) o=zaz (RB G D E) o from hs];exact h' o ho hp
 | setObj hK ho hc h ih =>
  intro K' hB;rename_i b o k k';generalize ht:Sem.setObj ((RA G).p b) (zaz (RA G) o) k'=t at hB
  cases hB with
  | dead h=>exact .dead h
  | setObj hK' ho' hc' h' =>
   simp only [Sem.setObj.injEq] at ht;obtain⟨h1,h2,rfl⟩:=ht;exact .setObj ((dbl_eq.1 h1).elim (hG _) id) h2 (ih h') hc ho
 | choose h ih =>
  intro K' hB;rename_i q k k';generalize ht:Sem.choose q k'=t at hB
  cases hB with
  | dead h=>exact .dead h
  | choose h' =>
   simp only [Sem.choose.injEq,true_and] at ht;subst ht;exact .choose fun n=>ih n (h' n)
 | program h ih =>
  intro K' hB;rename_i k k';generalize ht:Sem.program k'=t at hB
  cases hB with
  | dead h=>exact .dead h
  | program h' =>
   simp only [Sem.program.injEq] at ht;subst ht;exact .program (ih h')
 | mark h ih =>
  intro K' hB;rename_i k k';generalize ht:Sem.mark .noRoom k'=t at hB
  cases hB with
  | dead h=>exact .dead h
  | mark h' =>
   simp only [Sem.mark.injEq,true_and] at ht;subst ht;exact .mark (ih h')
theorem Sup.mono {P:Program} {mf:Md} {G:Gd} {D E:Nat→Prop} {α:Type} {rs rs' : α→Prop} {s:Sem α} (h:Sup P mf G D E rs s) (hq:∀ a,rs a→rs' a):Sup P mf G D E rs' s:=by
 induction h with
 | dead h=>exact .dead h
 | pure h=>exact .pure (hq _ h)
 | load ha _ ih=>exact .load ha ih
 | store ha hv _ ih=>exact .store ha hv ih
 | new ho _ hc hp ih=>exact .new ho ih hc hp
 | shape hb _ ih=>exact .shape hb ih
 | freeze ha _ ih=>exact .freeze ha ih
 | frozen ha _ ih=>exact .frozen ha ih
 | getObj hb _ ih=>exact .getObj hb ih
 | setObj hb ho _ hc hp ih=>exact .setObj hb ho ih hc hp
 | choose _ ih=>exact .choose ih
 | program _ ih=>exact .program ih
 | mark _ ih=>exact .mark ih
end Go.Con
namespace Go.Con
open Go
variable [Lone]
def isCells:Obj→Bool
 | .cells ..=>true
 | _=>false
inductive ObjR (ρ:Rn) (Fz:Nat→Prop) (mf:Md) (b:Nat):Obj→Obj→Prop
 | frozen (hf:Fz b) (c:Array Value) (e:TypeId) (fz:Nat×Nat):ObjR ρ Fz mf b (.cells c e (0,c.size)) (.cells (c.map (ren ρ)) e fz)
 | still {o:Obj} (hf:Fz b) (h1:isCells o=false) (h2:zcA mf o=false):ObjR ρ Fz mf b o (zaz ρ o)
 | own {o:Obj} (hf:¬ Fz b):ObjR ρ Fz mf b o (zaz ρ o)
structure WR (G:Gd) (ρ:Rn) (D E Fz:Nat→Prop) (mf:Md) (W W' : World):Prop where
 os:W'.os=W.os
 output:W'.output=W.output
 tape:∀ k q,W'.tape (W'.drawn+k) q=W.tape (W.drawn+k) q
 obj:∀ b o,D b→W.heap[b]?=some o→∃ o',W'.heap[ρ.p b]?=some o'∧ObjR ρ Fz mf b o o'
 none:∀ b,D b→W.heap[b]?=none→W'.heap[ρ.p b]?=none
 sup:∀ b o,D b→W.heap[b]?=some o→zba G D E o∧zaK mf o=true∧zbv o=false
def EvOk (ρ:Rn) (D Fz:Nat→Prop) (e:Event):Prop :=
 (∃ a b,e.loc=.cell a∧e.sync=false∧D b∧a.block=ρ.p b∧(e.write=true→¬ Fz b)) ∨
 (∃ b,e.loc=.obj (ρ.p b)∧e.sync=false∧D b∧(e.write=true→¬ Fz b))∨e=⟨.mark .noRoom,false,true⟩
def Keeps (ρ:Rn) (D Fz:Nat→Prop) (W W' : World):Prop :=
 W.heap.size≤W'.heap.size∧∀ x,x<W.heap.size→(∀ b,D b→¬ Fz b→ρ.p b≠x)→W'.heap[x]?=W.heap[x]?
theorem Keeps.refl {ρ:Rn} {D Fz:Nat→Prop} {W:World}:Keeps ρ D Fz W W:=⟨Nat.le_refl _,fun _ _ _=>rfl⟩
theorem Keeps.trans {ρ:Rn} {D Fz:Nat→Prop} {A B C:World} (h:Keeps ρ D Fz A B) (h' : Keeps ρ D Fz B C):Keeps ρ D Fz A C :=
 ⟨Nat.le_trans h.1 h'.1,fun x hx hn=>(h'.2 x (Nat.lt_of_lt_of_le hx h.1) hn).trans (h.2 x hx hn)⟩
def zk2 (ρ:Rn) (D Fz:Nat→Prop) (W W' Wf:World):Prop :=
 ∀ b,W.heap.size≤b→b<Wf.heap.size→D b∧¬ Fz b∧ρ.p b+W.heap.size=W'.heap.size+b
section
variable {P:Program}
theorem zhT {mf:Md} {W:World} {a:Addr} {m:Bool} (h:∀ o,W.heap[a.block]?=some o→zaK mf o=true):∃ e,W.farLoad P a m=.error e:=by
 unfold World.farLoad;split
 ·rename_i h1;have:=h _ h1;simp [zaK] at this
 ·exact⟨_,rfl⟩
theorem zg4 {mf:Md} {W:World} {a:Addr} {v:Value} {m:Bool} (h:∀ o,W.heap[a.block]?=some o→zaK mf o=true):∃ e,W.farStore P a v m=.error e:=by
 unfold World.farStore;split
 ·rename_i h1;have:=h _ h1;simp [zaK] at this
 ·exact⟨_,rfl⟩
theorem size_setCell (W:World) (a:Addr) (v:Value):(W.setCell a v).heap.size=W.heap.size:=by simp [World.setCell]
theorem zbE (W:World) (a:Addr) (n:Nat):(W.freeze a n).heap.size=W.heap.size:=by unfold World.freeze;split<;>simp
theorem zaU {α:Type}:∀ {s:Sem α} {W:World},Dead P s→∀ a Wf,s.run P W≠.ok a Wf
 | .pure _,_,h,_,_=>h.elim
 | .load _ _ _,_,h,_,_=>h.elim
 | .store _ _ _ _,_,h,_,_=>h.elim
 | .getObj _ _,_,h,_,_=>h.elim
 | .setObj _ _ _,_,h,_,_=>h.elim
 | .sys _ _,_,h,_,_=>h.elim
 | .new o k,W,h,x,Wf=>by simp only [jqa];exact zaU (h.2 _) x Wf
 | .shape b k,W,h,x,Wf=>by simp only [jqa];exact zaU (h _) x Wf
 | .freeze a n k,W,h,x,Wf=>by simp only [jqa];exact zaU (s:=k) h x Wf
 | .frozen a k,W,h,x,Wf=>by simp only [jqa];exact zaU (h _) x Wf
 | .choose q k,W,h,x,Wf=>by
  simp only [jqa];split
  ·exact zaU (h _) x Wf
  ·exact zaU (h _) x Wf
 | .program k,W,h,x,Wf=>by simp only [jqa];exact zaU (s:=k P) h x Wf
 | .mark m k,W,h,x,Wf=>by simp only [jqa];exact zaU (s:=k) h x Wf
 | .halt _,W,_,x,Wf=>by simp [jqa]
def EmptyDef (W:World):Prop:=∀ (b:Nat) (o:Obj),W.heap[b]?=some o→zjK o=true
theorem EmptyDef.push {W:World} (h:EmptyDef W) {o:Obj} (ho:zjK o=true):EmptyDef { W with heap:=W.heap.push o }:=by
 intro b x hx;by_cases e:b=W.heap.size
 ·subst e
  simp at hx;rw [← hx];exact ho
 ·simp [Array.getElem?_push,e] at hx
  exact h b x hx
theorem EmptyDef.set {W W1:World} (h:EmptyDef W) {b:Nat} {o:Obj} (ho:zjK o=true)
  (h1:∀ x,x≠b→W1.heap[x]?=W.heap[x]?) (h2:∀ x,W1.heap[b]?=some x→x=o):EmptyDef W1:=by
 intro x y hx;by_cases e:x=b
 ·subst e
  rw [h2 _ hx];exact ho
 ·rw [h1 x e] at hx
  exact h x y hx
theorem EmptyDef.freeze {W:World} (h:EmptyDef W) (a:Addr) (n:Nat):EmptyDef (W.freeze a n):=by
 unfold World.freeze;split
 ·exact h
 ·intro b x hx
  simp only [Array.getElem?_modify] at hx
  split at hx
  ·cases ho:W.heap[b]? with
   | none=>rw [ho] at hx;cases hx
   | some o =>
    rw [ho] at hx;have:=h b o ho;simp only [Option.map_some,Option.some.injEq] at hx;subst hx
    cases o<;>first | rfl | exact this
  ·exact h b x hx
theorem zbQ {α:Type}:∀ {s:Sem α} {W:World},Dead P s→EmptyDef W→∃ hh Wf,s.run P W=.halt hh Wf∧zej hh∧EmptyDef Wf
 | .pure _,_,h,_=>h.elim
 | .load _ _ _,_,h,_=>h.elim
 | .store _ _ _ _,_,h,_=>h.elim
 | .getObj _ _,_,h,_=>h.elim
 | .setObj _ _ _,_,h,_=>h.elim
 | .sys _ _,_,h,_=>h.elim
 | .new o k,W,h,hE=>by simp only [jqa];exact zbQ (h.2 _) (hE.push h.1)
 | .shape b k,W,h,hE=>by simp only [jqa];exact zbQ (h _) hE
 | .freeze a n k,W,h,hE=>by simp only [jqa];exact zbQ (s:=k) h (hE.freeze a n)
 | .frozen a k,W,h,hE=>by simp only [jqa];exact zbQ (h _) hE
 | .choose q k,W,h,hE=>by
  simp only [jqa];split
  ·exact zbQ (h _) hE
  ·exact zbQ (h _) (W:={ W with drawn:=W.drawn+1 }) hE
 | .program k,W,h,hE=>by simp only [jqa];exact zbQ (s:=k P) h hE
 | .mark m k,W,h,hE=>by simp only [jqa];exact zbQ (s:=k) h hE
 | .halt hh,W,h,hE=>⟨hh,W,rfl,h,hE⟩
theorem zgX {w w' : World} {at_:Addr} {u:TypeId} {k:Addr} {v:Value} {m:Bool} {l:List Addr} (h:w.viewStore P at_ u k v m=.ok (w',l)):w'.heap.size=w.heap.size:=by
 unfold World.viewStore at h;simp only [bind,Except.bind,pure,Except.pure] at h
 repeat' (first | (split at h;done) | split at h)
 all_goals first | (cases h;done) | skip
 all_goals (simp only [Except.ok.injEq,jqc.injEq] at h;obtain⟨rfl,_⟩:=h;simp)
theorem zhF {w w' : World} {k:Addr} {v:Value} {m:Bool} {l:List Addr} (h:w.farStore P k v m=.ok (w',l)):w'.heap.size=w.heap.size:=by
 unfold World.farStore at h
 split at h
 ·split at h
  ·rename_i r hr
   cases h
   exact zgX hr
  ·cases h
 ·cases h
theorem zhQ {α:Type} {w w' : World}:∀ {s:Ask α} {a:α},w.ask s=(a,w')→w'.heap=w.heap
 | .done a,b,h=>by simp only [World.ask,jqc.injEq] at h;rw [← h.2]
 | .ask what range k,b,h=>by
  simp only [World.ask] at h
  split at h
  ·exact zhQ h
  ·exact zhQ (w:={ w with drawn:=w.drawn+1 }) h
theorem zns (w:World) (c:Sys):(w.sys c).2.heap=w.heap:=by
 unfold World.sys;split
 ·rfl
 ·rename_i h
  have e:=zhQ h;exact e
theorem za9 {α:Type}:∀ {s:Sem α} {W:World} {a:α} {Wf:World},s.run P W=.ok a Wf→W.heap.size≤Wf.heap.size
 | .pure _,W,x,Wf,h=>by simp only [jqa,jqd.injEq] at h;rw [h.2];exact Nat.le_refl _
 | .load m a k,W,x,Wf,h=>by
  simp only [jqa] at h
  split at h
  ·exact za9 h
  ·split at h
   ·exact za9 h
   ·cases h
 | .store m a v k,W,x,Wf,h=>by
  have hk:∀ {W},k.run P W=.ok x Wf→W.heap.size≤Wf.heap.size:=fun h=>za9 h
  cases v<;>simp only [jqa] at h<;>first
   | (cases h;done)
   | (split at h
      ·split at h
       ·cases h
       ·have:=hk h;rw [size_setCell] at this;exact this
      ·split at h
       ·rename_i hf;have:=hk h;rw [zhF hf] at this;exact this
       ·cases h)
 | .new o k,W,x,Wf,h=>by simp only [jqa] at h;have:=za9 h;simp at this;omega
 | .shape b k,W,x,Wf,h=>by simp only [jqa] at h;exact za9 h
 | .freeze a n k,W,x,Wf,h=>by simp only [jqa] at h;have:=za9 (s:=k) h;rw [zbE] at this;exact this
 | .frozen a k,W,x,Wf,h=>by simp only [jqa] at h;exact za9 h
 | .getObj b k,W,x,Wf,h=>by
  simp only [jqa] at h
  split at h
  ·cases h
  ·exact za9 h
  ·cases h
 | .setObj b o k,W,x,Wf,h=>by
  simp only [jqa] at h
  split at h
  ·cases h
  ·have:=za9 (s:=k) h;simpa using this
  ·cases h
 | .choose q k,W,x,Wf,h=>by
  simp only [jqa] at h
  split at h
  ·exact za9 h
  ·have:=za9 h;simpa using this
 | .sys c k,W,x,Wf,h=>by simp only [jqa] at h;have:=za9 h;rw [zns] at this;exact this
 | .program k,W,x,Wf,h=>by simp only [jqa] at h;exact za9 (s:=k P) h
 | .mark m k,W,x,Wf,h=>by simp only [jqa] at h;exact za9 (s:=k) h
 | .halt _,W,x,Wf,h=>by simp [jqa] at h
end
end Go.Con
