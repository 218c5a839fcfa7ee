import Derived.Test.YtbbanmifdbeneaaDoorF17
import Derived.CallsIn
set_option linter.all false
open Nat renaming le_refl → jqa
open List renaming map_cons → jqb, all_cons → jqe, mem_cons_self → jqg, mem_cons_of_mem → jqh
open Bool renaming and_eq_true → jqc
open Go.Sem renaming run → jqd
open Go.Frame renaming enter → jqf, raise → jqj
open Go.World renaming freeze → jqi
open Go.FrameMode renaming run → jqk
namespace Go.Con
open Go
variable [Lone]
def zal (ρ:Rn):Item→Item
 | .inRangeFunc l=>.inRangeFunc (ρ.p l)
 | .endRangeFunc l=>.endRangeFunc (ρ.p l)
 | .call d w r s=>.call (zaM ρ d) w r (s.map (ren ρ))
 | .extern row args=>.extern row (args.map (ren ρ))
 | .code c=>.code c
 | .inBlock i=>.inBlock i
 | .inLoop b=>.inLoop b
 | .inScope b=>.inScope b
 | .inRegion ops l=>.inRegion ops l
 | .beginRound=>.beginRound
def zaa (ρ:Rn) (fr:Frame):Frame:={ fr with tmps:=fr.tmps.map (ren ρ),todo:=fr.todo.map (zal ρ),defers:=fr.defers.map (zaM ρ),roundOf:=fr.roundOf.map ρ.p }
section
variable {P:Program} {maps nc:Bool} {ρ:Rn} {K:Nat→Prop}
theorem zkq (tmps:Array Value) (t:Nat):(tmps.map (ren ρ)).getD t undef=ren ρ (tmps.getD t undef):=by
 simp only [Array.getD_eq_getD_getElem?,Array.getElem?_map]
 cases tmps[t]? with
 | none=>exact ren_undef.symm
 | some v=>rfl
theorem zcH (R:RenOk P ρ) {fr:Frame} (x:Operand) (h:za2 P x=true):(zaa ρ fr).eval x=ren ρ (fr.eval x):=by
 cases x with
 | tmp t=>exact zkq fr.tmps t
 | const v=>exact (zde ρ v h).symm
 | global g =>
  have hg:g<P.globals.size:=by simpa [za2] using h
  show Value.pointer (some ⟨g,0,none⟩)=Value.pointer (some ⟨ρ.p g,0,none⟩);rw [R.fix g hg]
 | func f =>
  show Value.func (.func f) #[] #[]=Value.func (ρ.o (.func f)) (renA ρ #[]) (renA ρ #[]);rw [R.fixo _ (show zaL P (.func f)=true from h)];simp [zaE]
theorem map_set (tmps:Array Value) (d:Nat) (v:Value):(tmps.map (ren ρ)).setIfInBounds d (ren ρ v)=(tmps.setIfInBounds d v).map (ren ρ):=Array.map_setIfInBounds.symm
theorem zaY {fr:Frame} {v:Value}:(zaa ρ fr).finish (ren ρ v)=zaa ρ (fr.finish v):=by
 obtain⟨fn,tmps,todo,defers,mode,kind,roundOf⟩:=fr;unfold Frame.finish zaa
 cases todo with
 | nil=>rfl
 | cons it k =>
  cases it with
  | inRegion ops l =>
   cases l with
   | nil=>rfl
   | cons i rest =>
    simp only [jqb,zal]
    cases (ops[i]?).bind (·.dst) with
    | none=>rfl
    | some d=>simp only [map_set]
  | call d w r s=>simp [zal]
  | extern r a=>simp [zal]
  | _=>rfl
theorem zdQ {fr:Frame} {v:Value} (h:OkFrame P maps fr):OkFrame P maps (fr.finish v):=by
 obtain⟨fn,tmps,todo,defers,mode,kind,roundOf⟩:=fr;obtain⟨h1,h2,h3,h4⟩:=h;unfold Frame.finish
 cases todo with
 | nil=>exact⟨h1,h2,h3,h4⟩
 | cons it k =>
  simp only [jqe,jqc] at h1
  cases it with
  | inRegion ops l =>
   cases l with
   | nil=>exact⟨by simpa using h1,h2,h3,h4⟩
   | cons i rest =>
    simp only [zbd,jqe,jqc] at h1;exact⟨by simp only [jqe,zbd,h1.1.2,h1.2,Bool.and_self],h2,h3,h4⟩
  | call=>cases h1.1
  | extern=>cases h1.1
  | inRangeFunc l=>exact⟨by simpa [zbd] using h1,h2,h3,h4⟩
  | beginRound=>exact⟨by simpa [zbd] using h1.2,h2,h3,h4⟩
  | _=>exact⟨by simpa using h1,h2,h3,h4⟩
theorem finish_fn {fr:Frame} {v:Value}:(fr.finish v).fn=fr.fn∧(fr.finish v).roundOf=fr.roundOf:=by
 unfold Frame.finish
 split<;>exact⟨rfl,rfl⟩
theorem zfd (id:Nat):∀ k:List Item,exitTo id (k.map (zal ρ))=(exitTo id k).map (·.map (zal ρ))
 | []=>rfl
 | it :: k=>by
  have ih:=zfd id k
  cases it<;>simp only [jqb,zal,exitTo,ih]
  split<;>simp
theorem zgJ (id:Nat):∀ {k k' : List Item},k.all (zbd P maps)=true→exitTo id k=some k'→k'.all (zbd P maps)=true
 | [],k',_,h=>by cases h
 | it :: k,k',hk,h=>by
  simp only [jqe,jqc] at hk
  cases it<;>simp only [exitTo] at h
  case inBlock =>
   split at h
   ·cases h;exact hk.2
   ·exact zgJ id hk.2 h
  all_goals exact zgJ id hk.2 h
theorem zcW {ops:Array Oper} {tmps:Array Value} (j:Nat):yielded ops (tmps.map (ren ρ)) j=yielded ops tmps j:=by
 unfold yielded
 cases (ops[j]?).bind (·.dst) with
 | none=>rfl
 | some d =>
  simp only [Option.bind_some,Array.getElem?_map]
  cases tmps[d]? with
  | none=>rfl
  | some v =>
   rw [Option.map_some]
   cases v with
   | chan r=>rcases zcd ρ r with ⟨_,h⟩ | ⟨_,_,_,h⟩ | ⟨_,h⟩ | ⟨_,_,_,h,_⟩ | ⟨_,h⟩<;>rw [h]
   | func f a b=>obtain⟨_,_,_,h⟩:=za5 ρ f a b;rw [h]
   | _=>rfl
variable (P maps) in
def Moves (fr:Frame) (cs:List Frame) (fr' : Frame) (cs' : List Frame):Prop :=
 (cs'=cs∧fr'.roundOf=fr.roundOf∧fr'.fn=fr.fn∧OkFrame P maps fr') ∨
 (∃ fr1,cs'=fr1 :: cs∧fr1.roundOf=fr.roundOf∧fr1.fn=fr.fn∧OkFrame P maps fr1∧fr1.todo≠[]∧((∃ f args,fr'=jqf P f args .normal∧zaL P (.func f)=true)∨OkFrame P maps fr')) ∨
 (∃ c,cs=c :: cs'∧fr'.roundOf=c.roundOf∧fr'.fn=c.fn∧OkFrame P maps fr')
variable (P maps ρ) in
def FR (fr:Frame) (cs:List Frame) (a b:Frame×List Frame):Prop:=b=(zaa ρ a.1,a.2.map (zaa ρ))∧Moves P maps fr cs a.1 a.2
theorem zgK {fr:Frame} {cs:List Frame} (hcs:∀ c∈cs,OkFrame P maps c) {v:Value} {mf:Md}:SR P mf nc ρ (FR P maps ρ fr cs) K (zel cs v) (zel (cs.map (zaa ρ)) (ren ρ v)):=by
 cases cs with
 | nil=>exact zad
 | cons c rest=>exact zac ⟨by rw [← zaY],.inr (.inr ⟨c,rfl,finish_fn.2,finish_fn.1,zdQ (hcs c (jqg ..))⟩)⟩
theorem zew {fr:Frame} {cs:List Frame} (hok:OkFrame P maps fr) (hcs:∀ c∈cs,OkFrame P maps c) {jump:Option Code} (hj:jump.all (zbe P (maps && Lone.lm))=true) :
  SR P (mdOf P maps) nc ρ (FR P maps ρ fr cs) K (zbf fr cs jump) (zbf (zaa ρ fr) (cs.map (zaa ρ)) jump):=by
 obtain⟨fn,tmps,todo,defers,mode,kind,roundOf⟩:=fr;have hr:OkFrame P maps { fn:=fn,tmps:=tmps,todo:=todo,defers:=defers,mode:=.returning,kind:=kind,roundOf:=roundOf }:=⟨hok.todo,.inr rfl,hok.defers,hok.kind⟩
 cases roundOf with
 | none =>
  cases jump with
  | none=>exact zac ⟨rfl,.inl ⟨rfl,rfl,rfl,hr⟩⟩
  | some c=>cases c<;>first | exact zad | exact zac ⟨rfl,.inl ⟨rfl,rfl,rfl,hr⟩⟩
 | some l =>
  refine zab (zjY hj) ?_;rintro v _ rfl;exact zgK hcs
theorem zg7 {fr fr0:Frame} {cs:List Frame} (hok:OkFrame P maps fr) (h0:fr.roundOf=fr0.roundOf∧fr.fn=fr0.fn) (hne:fr.todo≠[]) {n n' : Next} (h:NextR P (mdOf P maps) ρ n n') :
  SR P (mdOf P maps) nc ρ (FR P maps ρ fr0 cs) K (zcn P fr cs n) (zcn P (zaa ρ fr) (cs.map (zaa ρ)) n'):=by
 cases h with
 | value v=>exact zac ⟨by rw [← zaY],.inl ⟨rfl,finish_fn.2.trans h0.1,finish_fn.1.trans h0.2,zdQ hok⟩⟩
 | skip=>exact zac ⟨by rw [← zaY,ren_undef],.inl ⟨rfl,finish_fn.2.trans h0.1,finish_fn.1.trans h0.2,zdQ hok⟩⟩
 | enter f args hg =>
  refine zac ⟨?_,.inr (.inl ⟨fr,rfl,h0.1,h0.2,hok,hne,.inl ⟨f,args,rfl,hg⟩⟩)⟩;simp only [jqb,Prod.mk.injEq,and_true];unfold jqf zaa;simp only [Array.map_append,Array.size_map,jqb,List.map_nil,zal,Option.map_none,Frame.mk.injEq,and_true,true_and];congr 1;apply Array.ext
  ·simp
  ·intro i h1 h2;simp [ren_undef]
 | round l f tmps a b hr =>
  obtain⟨r,hr,rfl,rfl,rfl⟩:=hr;simp only [Md.okl,mdOf,jqc] at hr;exact zac ⟨rfl,.inr (.inl ⟨fr,rfl,h0.1,h0.2,hok,hne,.inr ⟨by simp [Frame.round,zbd,zbx hr.1.1,zbx hr.1.2],.inl rfl,by simp [Frame.round],rfl⟩⟩)⟩
theorem zeu (R:RenOk P ρ) {fr:Frame} {cs:List Frame} (hok:OkFrame P maps fr) (hcs:∀ c∈cs,OkFrame P maps c) (hc:zec P fr) :
  SR P (mdOf P maps) nc ρ (FR P maps ρ fr cs) K (zao P fr cs) (zao P (zaa ρ fr) (cs.map (zaa ρ))):=by
 have hok0:=hok;have hev:∀ x,za2 P x=true→(zaa ρ fr).eval x=ren ρ (fr.eval x):=fun x h=>zcH R x h;obtain⟨fn,tmps,todo,defers,mode,kind,roundOf⟩:=fr;obtain⟨htodo,hm,hd,hk⟩:=hok;dsimp only at htodo hm hd hk;have upd:∀ {t:List Item},t.all (zbd P maps)=true→OkFrame P maps { fn:=fn,tmps:=tmps,todo:=t,defers:=defers,mode:=mode,kind:=kind,roundOf:=roundOf }:=fun h=>⟨h,hm,hd,hk⟩;have stay:∀ {K:Nat→Prop} {t:List Item},t.all (zbd P maps)=true →
   SR P (mdOf P maps) nc ρ (FR P maps ρ { fn:=fn,tmps:=tmps,todo:=todo,defers:=defers,mode:=mode,kind:=kind,roundOf:=roundOf } cs) K
    (pure ({ fn:=fn,tmps:=tmps,todo:=t,defers:=defers,mode:=mode,kind:=kind,roundOf:=roundOf },cs))
    (pure ({ fn:=fn,tmps:=tmps.map (ren ρ),todo:=t.map (zal ρ),defers:=defers.map (zaM ρ),mode:=mode,kind:=kind,roundOf:=roundOf.map ρ.p },cs.map (zaa ρ))) :=
  fun h=>zac ⟨rfl,.inl ⟨rfl,rfl,rfl,upd h⟩⟩
 rcases hm with rfl | rfl
 ·
  show SR _ _ _ _ _ _ (zcD P _ cs) (zcD P _ _);unfold zcD zaa
  cases todo with
  | nil=>exact zew hok0 hcs rfl
  | cons it k =>
   simp only [jqe,jqc] at htodo
   cases it with
   | code c =>
    have hcc:zbe P maps c=true:=htodo.1
    cases c with
    | skip=>exact stay htodo.2
    | ret=>exact zew hok0 hcs rfl
    | seq a b =>
     simp only [zbe,jqc] at hcc;exact stay (by simp [zbd,hcc,htodo.2])
    | block id b=>exact stay (by simp only [zbe] at hcc;simp [zbd,hcc,htodo.2])
    | loop b=>exact stay (by simp only [zbe] at hcc;simp [zbd,hcc,htodo.2])
    | cond c a b =>
     simp only [zbe,jqc] at hcc;have he:=hev c hcc.1.1;unfold zaa at he;simp only [jqb,zal] at he ⊢;rw [he]
     cases Frame.eval { fn:=fn,tmps:=tmps,todo:=Item.code (Code.cond c a b) :: k,defers:=defers,mode:=jqk,kind:=kind,roundOf:=roundOf } c<;>first
      | exact zad
      | (rename_i x
         exact stay (t:=.code (if x then a else b) :: k) (by cases x<;>simp [zbd,hcc,htodo.2]))
    | exit id =>
     simp only [jqb,zal];rw [zfd]
     cases he:exitTo id k with
     | none=>exact zew hok0 hcs rfl
     | some k'=>exact stay (zgJ id htodo.2 he)
    | region id ops draw =>
     simp only [jqb,zal];cases draw
     ·exact stay (t:=.inRegion ops (List.range ops.size) :: k) (by simp only [zbe] at hcc;simp only [jqe,zbd,zih hcc,htodo.2,Bool.and_self])
     ·refine zab (za1 _).sr ?_
      rintro t _ rfl;exact stay (t:=.inRegion ops _ :: k) (by simp only [zbe] at hcc;simp only [jqe,zbd,zih hcc,htodo.2,Bool.and_self])
    | rangeFunc f params assign body =>
     simp only [zbe,jqc] at hcc;simp only [jqb,zal];refine zab (ziO hcc.1.2 hcc.2) ?_;rintro ⟨l,mark⟩ _ ⟨rfl,hmk⟩;have he:=hev f hcc.1.1;unfold zaa at he;simp only [jqb,zal] at he ⊢;rw [he];refine zab (r:=NextR P (mdOf P maps) ρ) ?_ ?_
     ·have:=zfB (mf:=mdOf P maps) (nc:=nc) (K:=K) R (f:=Frame.eval { fn:=fn,tmps:=tmps,todo:=Item.code (Code.rangeFunc f params assign body) :: k,defers:=defers,mode:=jqk,kind:=kind,roundOf:=roundOf } f) hc (args:=#[.func (.yield l) #[] #[]])
      simp only [List.map_toArray,jqb,List.map_nil,ren,zfi,zaE] at this;exact this
     ·intro n n' hn
      have:=zg7 (nc:=nc) (K:=K) (cs:=cs) (fr:={ fn:=fn,tmps:=tmps,todo:=Item.inRangeFunc l :: k,defers:=mark++defers,mode:=jqk,kind:=kind,roundOf:=roundOf })
       (fr0:={ fn:=fn,tmps:=tmps,todo:=Item.code (Code.rangeFunc f params assign body) :: k,defers:=defers,mode:=jqk,kind:=kind,roundOf:=roundOf })
       ⟨by simp [zbd,htodo.2],.inl rfl,fun d hdm=>(List.mem_append.1 hdm).elim (hmk d) (hd d),hk⟩ ⟨rfl,rfl⟩ (by simp) hn
      simp only [zaa,List.map_append] at this;exact this
    | _=>cases hcc
   | inBlock id=>exact stay htodo.2
   | inLoop b=>exact stay (by have:zbe P maps b=true:=htodo.1;simp [zbd,this,htodo.2])
   | inRegion ops l =>
    cases l with
    | nil=>exact stay htodo.2
    | cons i rest =>
     simp only [jqb,zal];have hy:(yielded ops (tmps.map (ren ρ)))=yielded ops tmps:=funext fun j=>zcW j;rw [hy];split
     ·cases ho:ops[i]? with
      | none=>exact zad
      | some o =>
       have hop:okOp P maps o.op=true:=by
        have:=htodo.1;simp only [zbd,jqe,ho,Option.all_some,jqc] at this;exact this.1
       refine zab (zim R (fun x hx=>hev x hx) hop (hc o ho)) fun n n' hn=>?_;exact zg7 hok0 ⟨rfl,rfl⟩ (by simp) hn
     ·refine zac ⟨?_,.inl ⟨rfl,finish_fn.2,finish_fn.1,zdQ hok0⟩⟩
      rw [← zaY,ren_undef];rfl
   | inRangeFunc l=>exact zad
   | endRangeFunc l =>
    simp only [jqb,zal];refine zab zlj ?_;rintro _ jump ⟨rfl,hj⟩;have:=stay (K:=K) (t:=(jump.map Item.code).toList++k) (by
     cases jump with
     | none=>simpa using htodo.2
     | some c=>simp only [Option.map_some,Option.toList_some,List.cons_append,List.nil_append,jqe,jqc];exact⟨zbx hj,htodo.2⟩)
    have e:((jump.map Item.code).toList++k).map (zal ρ)=(jump.map Item.code).toList++k.map (zal ρ):=by
     cases jump<;>rfl
    rw [e] at this;exact this
   | beginRound =>
    simp only [jqb,zal];refine zab (r:=fun _ _=>True) ?_ ?_
    ·cases roundOf with
     | none=>exact zad
     | some l=>exact sr_beginRound.mono fun _ _ _=>trivial
    ·rintro _ _ _
     refine zac ⟨?_,.inl ⟨rfl,(finish_fn (v:=undef)).2,(finish_fn (v:=undef)).1,zdQ (v:=undef) hok0⟩⟩;rw [← zaY,ren_undef];rfl
   | _=>cases htodo.1
 ·
  unfold zao zaa;dsimp only
  cases defers with
  | cons d ds =>
   obtain⟨b,rfl⟩:=hd d (jqg ..);refine zab zgr ?_;rintro _ _ ⟨rfl,rfl⟩;exact zac ⟨rfl,.inl ⟨rfl,rfl,rfl,⟨htodo,.inr rfl,fun d h=>hd d (jqh _ h),hk⟩⟩⟩
  | nil =>
   dsimp only [List.map_nil]
   cases hf:P.funcs[fn]? with
   | none =>
    dsimp only;rw [zkq];exact zgK hcs
   | some f =>
    refine zab zly ?_;rintro v _ rfl;exact zgK hcs
end
end Go.Con
namespace Go.Con
open Go
variable [Lone]
def LW (G:Gd) (D E:Nat→Prop) (mf:Md) (W:World):Prop :=
 ∀ b o,D b→W.heap[b]?=some o→zba G D E o∧zaK mf o=true∧zbv o=false
section
variable {P:Program} {mf:Md} {G:Gd} {D E:Nat→Prop}
theorem LW.cell {W:World} (h:LW G D E mf W) {a:Addr} {v:Value} (hD:D a.block) (hv:W.cell? a=some v):supV G D E v:=by
 unfold World.cell? at hv
 split at hv
 ·rename_i c e fz ho
  obtain⟨hsup,_⟩:=h _ _ hD ho;obtain⟨b,off,spot⟩:=a
  cases spot with
  | some s=>simp at hv
  | none =>
   simp only [Option.isSome_none,Bool.false_eq_true,if_false] at hv;simp only [zba,zaz,Obj.cells.injEq,and_true] at hsup;have:=congrArg (fun a=>a[off]?) hsup;show ren (RA G) v=ren (RB G D E) v
   simpa [hv] using this
 ·cases hv
theorem LW.set {W W1:World} (h:LW G D E mf W) {b:Nat} {o:Obj} (ho:zba G D E o∧zaK mf o=true∧zbv o=false)
  (h1:∀ x,x≠b→W1.heap[x]?=W.heap[x]?) (h2:∀ x,W1.heap[b]?=some x→x=o):LW G D E mf W1:=by
 intro x y hD hx;by_cases e:x=b
 ·subst e
  rw [h2 _ hx];exact ho
 ·rw [h1 x e] at hx
  exact h x y hD hx
theorem LW.noCell {W:World} (h:LW G D E mf W) {a:Addr} (hD:D a.block) {t:String}:zej (W.noCell a t):=by
 unfold World.noCell;split
 ·rename_i h1
  have:=(h _ _ hD h1).2.1;cases this
 ·trivial
 ·trivial
theorem LW.load {W:World} (h:LW G D E mf W) {a:Addr} (hD:D a.block) {m:Bool}:W.farLoad P a m=.error (W.noCell a "load: no such cell"):=by
 unfold World.farLoad;split
 ·rename_i h1
  have:=(h _ _ hD h1).2.1;cases this
 ·rfl
theorem LW.store {W:World} (h:LW G D E mf W) {a:Addr} {v:Value} (hD:D a.block) {m:Bool}:∃ t,W.farStore P a v m=.error (W.noCell a t):=by
 unfold World.farStore;split
 ·rename_i h1
  have:=(h _ _ hD h1).2.1;cases this
 ·exact⟨_,rfl⟩
def Run1 (G:Gd) (D E:Nat→Prop) (mf:Md) (P:Program) {α:Type} (rs:α→Prop) (s:Sem α) (W:World):Prop :=
 match s.run P W with
 | .ok a Wf=>EmptyDef Wf∧rs a∧LW G D E mf Wf∧W.heap.size≤Wf.heap.size∧Wf.tape=W.tape∧W.drawn≤Wf.drawn∧Wf.os=W.os∧Wf.output=W.output ∧
   ∀ τ:Nat→Question→Nat,(∀ i q,i<Wf.drawn→τ i q=W.tape i q)→s.run P { W with tape:=τ }=.ok a { Wf with tape:=τ }
 | .halt hh Wf=>zej hh∧EmptyDef Wf
theorem Run1.step {α:Type} {rs:α→Prop} {s s1:Sem α} {W W1:World} (h1:∀ τ:Nat→Question→Nat,(∀ i q,i<W1.drawn→τ i q=W.tape i q)→s.run P { W with tape:=τ }=s1.run P { W1 with tape:=τ })
  (ht:W1.tape=W.tape) (hd:W.drawn≤W1.drawn) (hs:W.heap.size≤W1.heap.size) (ho:W1.os=W.os) (hp:W1.output=W.output) (h:Run1 G D E mf P rs s1 W1):Run1 G D E mf P rs s W:=by
 have e:s.run P W=s1.run P W1:=by
  have:=h1 W.tape fun _ _ _=>rfl;rw [← ht] at this;have e1:({ W with tape:=W1.tape }:World)=W:=by rw [ht]
  rw [e1] at this;exact this
 unfold Run1 at h ⊢;rw [e]
 cases hr:s1.run P W1 with
 | halt hh Wf=>rw [hr] at h;exact h
 | ok a Wf =>
  rw [hr] at h;obtain⟨a0,a1,a2,a3,a4,a5,a6,a7,a8⟩:=h;refine⟨a0,a1,a2,Nat.le_trans hs a3,a4.trans ht,Nat.le_trans hd a5,a6.trans ho,a7.trans hp,fun τ hτ=>?_⟩;rw [h1 τ fun i q hi=>hτ i q (Nat.lt_of_lt_of_le hi a5)];exact a8 τ fun i q hi=>by rw [hτ i q hi,ht]
theorem Run1.halts {α:Type} {rs:α→Prop} {s:Sem α} {W Wf:World} {hh:Halt} (h:s.run P W=.halt hh Wf) (hk:zej hh) (hE:EmptyDef Wf):Run1 G D E mf P rs s W:=by
 unfold Run1;rw [h];exact⟨hk,hE⟩
theorem zlf {W:World} {a:Addr} {v:Value} (h:W.cell? a=some v):∃ c e fz,W.heap[a.block]?=some (.cells c e fz)∧a.spot.isSome=false:=by
 unfold World.cell? at h
 split at h
 ·rename_i c e fz ho
  refine⟨c,e,fz,ho,?_⟩
  cases hs:a.spot.isSome with
  | false=>rfl
  | true=>rw [hs] at h;cases h
 ·cases h
theorem zfZ {o:Obj} (h:zaK mf o=true):zjK o=true:=by
 cases o with
 | deferred c=>cases c with
  | none=>rfl
  | some l=>cases l with
   | nil=>rfl
   | cons=>cases h
 | _=>rfl
theorem Sup.run1 {α:Type} {rs:α→Prop} {s:Sem α} (h:Sup P mf G D E rs s):∀ {W:World},LW G D E mf W→EmptyDef W→(∀ b,W.heap.size≤b→D b)→Run1 G D E mf P rs s W:=by
 induction h with
 | dead h =>
  intro W _ hE _;obtain⟨hh,Wf,h1,h2,h3⟩:=zbQ (W:=W) h hE;exact .halts h1 h2 h3
 | pure h=>intro W hw hE _;exact⟨hE,h,hw,jqa _,rfl,jqa _,rfl,rfl,fun _ _=>rfl⟩
 | load ha h ih =>
  intro W hw hE hD;rename_i m a k
  cases hc:W.cell? a with
  | some v =>
   refine .step (s1:=k v) (W1:=W) (fun τ _=>?_) rfl (jqa _) (jqa _) rfl rfl (ih v (hw.cell ha hc) hw hE hD);have:({ W with tape:=τ }:World).cell? a=some v:=hc;simp only [jqd,this]
  | none =>
   refine .halts (hh:=W.noCell a "load: no such cell") (Wf:=W) ?_ (hw.noCell ha) hE;simp only [jqd,hc,hw.load (P:=P) ha]
 | store ha hv h ih =>
  intro W hw hE hD;rename_i m a v k;by_cases hagg:(∃ c,v=.agg c)∨∃ c,v=.tuple c
  ·rcases hagg with ⟨c,rfl⟩ | ⟨c,rfl⟩<;>exact .halts rfl trivial hE
  have hrun:∀ W:World,(Sem.store m a v k).run P W=match W.cell? a with
    | some _=>if W.frozen? a then .halt (.unsupported (.unsafePointer "a write to bytes that a string shares")) W else k.run P (W.setCell a v)
    | none=>match W.farStore P a v (m == .atomic) with
     | .ok (w,_)=>k.run P w
     | .error h=>.halt h W:=by
   intro W
   cases v<;>first | rfl | (exact (hagg (.inl ⟨_,rfl⟩)).elim) | (exact (hagg (.inr ⟨_,rfl⟩)).elim)
  cases hc:W.cell? a with
  | none =>
   obtain⟨t,ht⟩:=hw.store (P:=P) (a:=a) (v:=v) ha (m:=(m == .atomic));refine .halts (hh:=W.noCell a t) (Wf:=W) ?_ (hw.noCell ha) hE;rw [hrun,hc];simp only [ht]
  | some v0 =>
   by_cases hf:W.frozen? a=true
   ·refine .halts (hh:=.unsupported (.unsafePointer "a write to bytes that a string shares")) (Wf:=W) ?_ trivial hE
    rw [hrun,hc];simp only [hf,if_true]
   ·obtain⟨c,e,fz,ho,hsp⟩:=zlf hc
    have hset:(W.setCell a v).heap[a.block]?=some (.cells (c.setIfInBounds a.off v) e fz):=by
     have:=setCell_at (W:=W) (a:=a) (v:=v) ho hsp;exact this
    refine .step (s1:=k) (W1:=W.setCell a v) (fun τ _=>?_) rfl (jqa _) (by rw [size_setCell];exact jqa _) rfl rfl (ih ?_ (hE.set (b:=a.block) (o:=.cells (c.setIfInBounds a.off v) e fz) rfl (fun x hx=>zdc (Ne.symm hx)) fun x hx=>(Option.some.inj (hset.symm.trans hx)).symm) ?_)
    ·rw [hrun]
     have h1:({ W with tape:=τ }:World).cell? a=some v0:=hc;have h2:({ W with tape:=τ }:World).frozen? a=W.frozen? a:=rfl;rw [h1];simp only [h2,hf,if_false,Bool.false_eq_true];rfl
    ·obtain⟨s1,s2,s3⟩:=hw _ _ ha ho
     refine hw.set (b:=a.block) (o:=.cells (c.setIfInBounds a.off v) e fz) ⟨zhq s1 hv,rfl,rfl⟩ (fun x hx=>zdc (Ne.symm hx)) fun x hx=>?_;rw [hset] at hx;exact (Option.some.inj hx).symm
    ·rw [size_setCell];exact hD
 | new ho h hc hp ih =>
  intro W hw hE hD;rename_i o k;refine .step (s1:=k W.heap.size) (W1:={ W with heap:=W.heap.push o }) (fun τ _=>rfl) rfl (jqa _) (by simp) rfl rfl (ih _ (hD _ (jqa _)) ?_ (hE.push (zfZ hp)) ?_)
  ·refine hw.set (b:=W.heap.size) (o:=o) ⟨ho,hp,hc⟩ (fun x hx=>?_) fun x hx=>?_
   ·simp [Array.getElem?_push,hx]
   ·simpa using hx.symm
  ·intro b hb
   refine hD b ?_;simp only [Array.size_push] at hb;omega
 | shape hb h ih =>
  intro W hw hE hD;rename_i b k;exact .step (s1:=k (W.shape? b)) (W1:=W) (fun τ _=>rfl) rfl (jqa _) (jqa _) rfl rfl (ih _ hw hE hD)
 | freeze ha h ih =>
  intro W hw hE hD;rename_i a n k;refine .step (s1:=k) (W1:=W.freeze a n) (fun τ _=>?_) ?_ ?_ (by rw [zbE];exact jqa _) ?_ ?_ (ih ?_ (hE.freeze a n) ?_)
  ·simp only [jqd]
   unfold jqi;dsimp only
   split<;>rfl
  ·unfold jqi;split<;>rfl
  ·unfold jqi;split<;>exact jqa _
  ·unfold jqi;split<;>rfl
  ·unfold jqi;split<;>rfl
  ·cases ho:W.heap[a.block]? with
   | none =>
    intro x y hDx hx;by_cases e:x=a.block
    ·subst e;rw [zes ho] at hx;cases hx
    ·rw [zbV (Ne.symm e)] at hx;exact hw x y hDx hx
   | some o =>
    obtain⟨s1,s2,s3⟩:=hw _ _ ha ho
    cases hcl:isCells o with
    | false =>
     refine hw.set (b:=a.block) (o:=o) ⟨s1,s2,s3⟩ (fun x hx=>zbV (Ne.symm hx)) fun x hx=>?_;rw [zdS ho hcl] at hx;exact (Option.some.inj hx).symm
    | true =>
     cases o with
     | cells c e fz =>
      intro x y hDx hx;by_cases e' : x=a.block
      ·subst e'
       rw [zgs ho] at hx;cases hx
       exact⟨ziM s1,rfl,rfl⟩
      ·rw [zbV (Ne.symm e')] at hx
       exact hw x y hDx hx
     | _=>cases hcl
  ·rw [zbE];exact hD
 | frozen ha h ih =>
  intro W hw hE hD;rename_i a k;exact .step (s1:=k (W.frozen? a)) (W1:=W) (fun τ _=>rfl) rfl (jqa _) (jqa _) rfl rfl (ih _ hw hE hD)
 | getObj hb h ih =>
  intro W hw hE hD;rename_i b k
  cases ho:W.heap[b]? with
  | none=>exact .halts (hh:=.stuck "getObj: no such block") (Wf:=W) (by simp only [jqd,ho]) trivial hE
  | some o =>
   obtain⟨s1,s2,s3⟩:=hw _ _ hb ho
   cases o with
   | cells=>exact .halts (hh:=.stuck "getObj: a row of cells") (Wf:=W) (by simp only [jqd,ho]) trivial hE
   | _ =>
    refine .step (s1:=k _) (W1:=W) (fun τ _=>?_) rfl (jqa _) (jqa _) rfl rfl (ih _ s3 s2 s1 hw hE hD);simp only [jqd,ho]
 | setObj hb ho h hc hp ih =>
  intro W hw hE hD;rename_i b o k
  cases ho1:W.heap[b]? with
  | none=>exact .halts (hh:=.stuck "setObj: no such block") (Wf:=W) (by simp only [jqd,ho1]) trivial hE
  | some o1 =>
   have hlt:b<W.heap.size:=by
    rcases Nat.lt_or_ge b W.heap.size with h | h
    ·exact h
    ·rw [Array.getElem?_eq_none h] at ho1;cases ho1
   have key:(∀ τ:Nat→Question→Nat,(Sem.setObj b o k).run P { W with tape:=τ }=k.run P { W with heap:=W.heap.setIfInBounds b o,tape:=τ })→Run1 G D E mf P _ (Sem.setObj b o k) W:=fun hrun=>by
    refine .step (s1:=k) (W1:={ W with heap:=W.heap.setIfInBounds b o }) (fun τ _=>hrun τ) rfl (jqa _) (by simp) rfl rfl (ih ?_ (hE.set (b:=b) (o:=o) (zfZ hp) (fun x hx=>by simp [Ne.symm hx]) fun x hx=>by simpa [hlt] using hx.symm) ?_)
    ·refine hw.set (b:=b) (o:=o) ⟨ho,hp,hc⟩ (fun x hx=>by simp [Ne.symm hx]) fun x hx=>?_
     simpa [hlt] using hx.symm
    ·simpa using hD
   cases o1 with
   | cells=>exact .halts (hh:=.stuck "setObj: a row of cells") (Wf:=W) (by simp only [jqd,ho1]) trivial hE
   | _=>exact key fun τ=>by simp only [jqd,ho1]
 | choose h ih =>
  intro W hw hE hD;rename_i q k;by_cases hq:q.forced=true
  ·refine .step (s1:=k 0) (W1:=W) (fun τ _=>?_) rfl (jqa _) (jqa _) rfl rfl (ih _ hw hE hD)
   simp only [jqd,hq,if_true]
  ·refine .step (s1:=k (q.cut (W.tape W.drawn q))) (W1:={ W with drawn:=W.drawn+1 }) (fun τ hτ=>?_) rfl (Nat.le_succ _) (jqa _) rfl rfl (ih _ hw hE hD)
   simp only [jqd,if_neg hq];rw [hτ W.drawn q (Nat.lt_succ_self _)]
 | program h ih =>
  intro W hw hE hD;rename_i k;exact .step (s1:=k P) (W1:=W) (fun τ _=>rfl) rfl (jqa _) (jqa _) rfl rfl (ih hw hE hD)
 | mark h ih =>
  intro W hw hE hD;rename_i m k;exact .step (s1:=k) (W1:=W) (fun τ _=>rfl) rfl (jqa _) (jqa _) rfl rfl (ih hw hE hD)
end
end Go.Con
namespace Go.Con
open Go
variable [Lone]
def gd (P:Program):Gd:=⟨P.globals.size,zaL P⟩
section
variable {P:Program} {maps:Bool} {D E:Nat→Prop}
theorem zpH:ze8 (RA (gd P)):=⟨id,fun _=>rfl,fun _ _ h=>h⟩
theorem znL:ze8 (RB (gd P) D E):=⟨id,fun _=>rfl,fun _ _ h=>h⟩
theorem zlx:RenOk P (RA (gd P)):=⟨.inr zpH,zpf _,fun _ h=>zoQ h,fun _ _=>rfl⟩
theorem zkP:RenOk P (RB (gd P) D E):=⟨.inr znL,znj _ _,fun _ h=>zn9 h,fun _ h=>(badFn_eq.2 h).symm⟩
def supF (P:Program) (D E:Nat→Prop) (fr:Frame):Prop:=zaa (RA (gd P)) fr=zaa (RB (gd P) D E) fr
def Base (P:Program) (fr:Frame) (cs:List Frame):Prop:=match cs.getLast? with
 | none=>fr.roundOf=none∧P.inits.idxOf? fr.fn=none
 | some c=>c.roundOf=none∧P.inits.idxOf? c.fn=none
variable (P maps D E) in
structure Inv (fr:Frame) (cs:List Frame) (W:World):Prop where
 ok:OkFrame P maps fr
 oks:∀ c∈cs,OkFrame P maps c
 sup:supF P D E fr
 sups:∀ c∈cs,supF P D E c
 lw:LW (gd P) D E (mdOf P maps) W
 ed:EmptyDef W
 fresh:∀ b,W.heap.size≤b→D b
 base:Base P fr cs
 ne:∀ c∈cs,c.todo≠[]
theorem zfS {fr:Frame} (h:supF P D E fr) (x:Operand) (hx:za2 P x=true):supV (gd P) D E (fr.eval x):=by
 show ren (RA (gd P)) (fr.eval x)=ren (RB (gd P) D E) (fr.eval x);rw [← zcH zlx x hx,← zcH zkP x hx,h]
theorem zd4 {v:Value} (h:supV (gd P) D E v):zcF P v=true:=by
 cases v with
 | func fn a b =>
  cases ht:zeN fn a b with
  | some x =>
   obtain⟨s,rfl,rfl,rfl⟩:=zhv ht;rfl
  | none =>
  simp only [supV,ren,ht,Value.func.injEq] at h
  cases fn with
  | yield l=>rfl
  | func g=>exact badFn_eq.1 (show Fn.func g=ziR (zaL P) (Fn.func g) from h.1)
  | method n=>have hg:zaL P (.method n)=true:=badFn_eq.1 (show Fn.method n=ziR (zaL P) (Fn.method n) from h.1);cases hg
  | methodOf t n=>exact badFn_eq.1 (show Fn.methodOf t n=ziR (zaL P) (Fn.methodOf t n) from h.1)
  | via t p f q=>exact badFn_eq.1 (show Fn.via t p f q=ziR (zaL P) (Fn.via t p f q) from h.1)
 | _=>rfl
theorem Inv.callee {fr:Frame} {cs:List Frame} {W:World} (h:Inv P maps D E fr cs W):zec P fr:=by
 have htodo:=h.ok.todo;unfold zec;split
 ·rename_i f a b c k ht
  rw [ht] at htodo;simp only [jqe,jqc,zbd,zbe] at htodo;exact zd4 (zfS h.sup f htodo.1.1.1)
 ·rename_i ops i l k ht
  rw [ht] at htodo;simp only [jqe,jqc,zbd] at htodo;intro o ho;have hop:okOp P maps o.op=true:=by have:=htodo.1.1;rw [ho] at this;exact this
  unfold zgZ;split
  ·rename_i f x y he
   rw [he] at hop;simp only [okOp,zj0,jqc] at hop;exact zd4 (zfS h.sup f hop.2)
  ·rename_i x he
   rw [he] at hop;exact zd4 (zfS h.sup x hop)
  ·rfl
 ·trivial
theorem sups_map {cs:List Frame}:(∀ c∈cs,supF P D E c)↔cs.map (zaa (RA (gd P)))=cs.map (zaa (RB (gd P) D E)):=by
 induction cs with
 | nil=>simp
 | cons c cs ih =>
  simp only [List.mem_cons,forall_eq_or_imp,jqb,List.cons.injEq];exact and_congr Iff.rfl ih
theorem Inv.sup_step {fr:Frame} {cs:List Frame} {W:World} (hG:∀ b,b<P.globals.size→D b) (h:Inv P maps D E fr cs W) :
  Sup P (mdOf P maps) (gd P) D E (fun a=>Moves P maps fr cs a.1 a.2∧supF P D E a.1∧∀ c∈a.2,supF P D E c) (zao P fr cs):=by
 have hA:=zeu (nc:=false) (K:=fun _=>False) zlx h.ok h.oks h.callee;have hB:=zeu (nc:=false) (K:=fun _=>False) (zkP (D:=D) (E:=E)) h.ok h.oks h.callee;rw [← sups_map.1 h.sups,← show zaa (RA (gd P)) fr=zaa (RB (gd P) D E) fr from h.sup] at hB;have:=zkB (mf:=mdOf P maps) (G:=gd P) (D:=D) (E:=E) hG hA hB;refine Sup.mono this ?_;rintro a ⟨b,h1,h2⟩;refine⟨h1.2,?_,sups_map.2 ?_⟩
 ·have:=h1.1.symm.trans h2.1
  simp only [Prod.mk.injEq] at this;exact this.1
 ·have:=h1.1.symm.trans h2.1
  simp only [Prod.mk.injEq] at this;exact this.2
theorem zkG {fr fr' : Frame} {cs cs' : List Frame} (h:Base P fr cs) (hm:Moves P maps fr cs fr' cs'):Base P fr' cs':=by
 unfold Base at h ⊢;rcases hm with ⟨rfl,h1,h2,_⟩ | ⟨fr1,rfl,h1,h2,_⟩ | ⟨c,rfl,h1,h2,_⟩
 ·cases hc:cs'.getLast? with
  | none=>rw [hc] at h;exact⟨h1.trans h.1,by rw [h2];exact h.2⟩
  | some c=>rw [hc] at h;exact h
 ·cases cs with
  | nil=>simp only [List.getLast?_nil] at h;simp only [List.getLast?_singleton];exact⟨h1.trans h.1,by rw [h2];exact h.2⟩
  | cons c rest=>rw [List.getLast?_cons_cons];exact h
 ·cases cs' with
  | nil=>simp only [List.getLast?_singleton] at h;exact⟨h1.trans h.1,by rw [h2];exact h.2⟩
  | cons c2 rest=>rw [List.getLast?_cons_cons] at h;exact h
theorem Base.or {fr:Frame} {cs:List Frame} (h:Base P fr cs):fr.roundOf=none∨cs≠[]:=by
 cases cs with
 | nil=>exact .inl h.1
 | cons=>exact .inr (by simp)
theorem zdF {b:Nat} {w w' : World} {calls:List Deferred} (hE:EmptyDef w) (h:(Instr.takeDeferred b).run P w=.ok calls w'):calls=[]∧EmptyDef w':=by
 unfold Instr.takeDeferred at h;rw [Sem.run_bind] at h;simp only [getObj,jqd] at h
 cases ho:w.heap[b]? with
 | none=>rw [ho] at h;cases h
 | some o =>
  rw [ho] at h;have hn:=hE b o ho
  cases o with
  | deferred c =>
   cases c with
   | none=>cases h
   | some l =>
    cases l with
    | cons=>cases hn
    | nil =>
     simp only [Result.andThen] at h;rw [Sem.run_bind] at h;simp only [setObj,jqd,ho] at h;cases h
     exact⟨rfl,hE.set (b:=b) (o:=.deferred none) rfl (fun x hx=>by simp [Ne.symm hx]) fun x hx=>by
      have hlt:b<w.heap.size:=by
       rcases Nat.lt_or_ge b w.heap.size with h | h
       ·exact h
       ·rw [Array.getElem?_eq_none h] at ho;cases ho
      simpa [hlt] using hx.symm⟩
  | _=>cases h
theorem zh3 {fr:Frame} {cs:List Frame} {w w' : World} {g:Goroutine} {es:Array Event} (h:stepG P true { frame:=fr,callers:=cs,status:=.running,dying:=none } w=.go g w' es) :
  ∃ m,step P (lone fr cs w)=.next m∧m.gs=#[g]:=by
 rw [step,stepT,move_lone];refine⟨_,by simp [runT,lone,Array.swapAt!,h];rfl,?_⟩;simp
def Collected (fr:Frame):Prop:=∀ d∈fr.defers,∃ r,d={ target:=.collected r,args:=#[] }
theorem zif {F:Fence} (hF:F.alive=true) {m m2:Machine} (h:StepsIn (Machine.fenced P F) P m m2):∀ {fr:Frame} {cs:List Frame} {w:World} {chain:List PanicEntry},m=lone fr cs w→fr.mode=.panicking chain →
  chain≠[]→(∀ e∈chain,e.goexit=false)→Collected fr→(∀ c∈cs,Collected c∧(c.mode=.run∨c.mode=.returning))→EmptyDef w→∀ {fr2:Frame} {w2:World},m2=lone fr2 [] w2→¬ (fr2.mode=.run∨fr2.mode=.returning):=by
 induction h with
 | refl m =>
  rintro fr cs w chain rfl hm _ _ _ _ _ fr2 w2 h2 h3;simp only [lone,Machine.mk.injEq,Array.mk.injEq,List.cons.injEq,Goroutine.mk.injEq,and_true] at h2;rw [← h2.2.1,hm] at h3;rcases h3 with h3 | h3<;>cases h3
 | @head m0 m₁ m₂ hI hs hrest ih =>
  rintro fr cs w chain rfl hm hne hge hd hcs hE fr2 w2 h2;have hst:stepG P true { frame:=fr,callers:=cs,status:=.running,dying:=none } w=unwind P true fr cs none w:=by
   unfold stepG;simp only [hm]
  have hend:∀ {o w' es},unwind P true fr cs none w≠.ended o w' es:=by
   intro o w' es he;have:=step_lone_ended (P:=P) (fr:=fr) (cs:=cs) (w:=w) (w':=w') (o:=o) (by rw [hst,he];rfl);rw [this] at hs;cases hs
  have hgo:∀ {fr' : Frame} {cs' : List Frame} {w' : World} {es},unwind P true fr cs none w=.go { frame:=fr',callers:=cs',status:=.running,dying:=none } w' es→m₁=lone fr' cs' w':=by
   intro fr' cs' w' es he;have:=step_lone_go (P:=P) (fr:=fr) (cs:=cs) (w:=w) (w':=w') (fr':=fr') (cs':=cs') (by rw [hst,he];rfl);rw [this] at hs;cases hs
   rfl
  obtain⟨fn,tmps,todo,defers,mode,kind,roundOf⟩:=fr;dsimp only at hm;subst hm
  cases defers with
  | cons d ds =>
   obtain⟨b,rfl⟩:=hd d (jqg ..);unfold unwind at hend hgo;dsimp only at hend hgo;simp only [Sem.runT_eq] at hend hgo
   cases hr:(Instr.takeDeferred b).run P w with
   | halt hh w1 =>
    rw [hr] at hend;exact (hend rfl).elim
   | ok calls w1 =>
    rw [hr] at hgo;obtain⟨rfl,hE'⟩:=zdF hE hr;refine ih (hgo rfl) rfl hne hge ?_ hcs hE' h2;intro d hdm;exact hd d (jqh _ hdm)
  | nil =>
   unfold unwind at hend hgo hst;dsimp only at hend hgo hst;by_cases hcat:Frame.catches P { fn:=fn,tmps:=tmps,todo:=todo,defers:=[],mode:=.panicking chain,kind:=kind,roundOf:=roundOf }=true
   ·rw [if_pos hcat] at hend
    exact (hend rfl).elim
   ·rw [if_neg hcat] at hend hgo hst
    cases cs with
    | cons c rest =>
     obtain⟨hc1,hc2⟩:=hcs c (jqg ..);refine ih (hgo rfl) (chain:=chain) ?_ hne hge ?_ (fun c hc=>hcs c (jqh _ hc)) hE h2
     ·rcases hc2 with h | h<;>simp [jqj,h]
     ·rcases hc2 with h | h<;>simpa [jqj,h,Collected] using hc1
    | nil =>
     have hg:(chain.head?.any (·.goexit))=false:=by
      cases chain with
      | nil=>rfl
      | cons e l=>exact hge e (jqg ..)
     dsimp only at hst hend;simp only [hg,Bool.false_eq_true,if_false] at hst hend
     cases hr:(reportChain chain false).run P w with
     | halt hh w1 =>
      rw [hr] at hend
      cases hh<;>exact (hend rfl).elim
     | ok todo w1 =>
      rw [hr] at hst;obtain⟨m,hm1,hm2⟩:=zh3 hst;rw [hm1] at hs;cases hs
      subst h2;exfalso
      cases hrest with
      | refl=>simp [lone] at hm2
      | head hI' _ _ =>
       have hmem:=Array.mem_of_getElem? (xs:=m₁.gs) (i:=0) (by rw [hm2];rfl);have:=(hI' _ hmem).1 hF;cases this
variable (P) in
def Ends (F:Fence) (Stop:Frame→List Frame→Prop) (Q:Frame→World→Prop) (fr:Frame) (cs:List Frame) (W:World):Prop :=
 ∃ fr2 W2,StepsIn (Machine.fenced P F) P (lone fr cs W) (lone fr2 [] W2)∧Stop fr2 []∧(fr2.mode=.run∨fr2.mode=.returning)∧Q fr2 W2
def okFn (P:Program) (maps:Bool) (f:FuncId):Prop:=∃ fn body,P.funcs[f]?=some fn∧fn.body=some body∧zbe P maps body=true
theorem zoa {f:FuncId} {args:Array Value} (h:okFn P maps f):OkFrame P maps (jqf P f args .normal):=by
 obtain⟨fn,body,h1,h2,h3⟩:=h;refine⟨?_,.inl rfl,fun d hd=>(List.not_mem_nil hd).elim,rfl⟩;simp [jqf,h1,h2,zbd,h3]
def zhS (fr:Frame) (cs:List Frame):Prop:=¬ (fr.mode=.returning∧fr.defers=[]∧cs=[])
theorem zeX {fr fr' : Frame} {cs cs' : List Frame} {w w' : World} (h:lone fr cs w=lone fr' cs' w'):fr=fr'∧cs=cs'∧w=w':=by
 simp only [lone,Machine.mk.injEq,Array.mk.injEq,List.cons.injEq,Goroutine.mk.injEq,and_true] at h;exact⟨h.2.1,h.2.2,h.1⟩
theorem Inv.step {F:Fence} (hal:F.alive=true) (hF:∀ f,F.fn f→zaL P (.func f)=true→okFn P maps f) (hG:∀ b,b<P.globals.size→D b) {Stop:Frame→List Frame→Prop} {Q:Frame→World→Prop} {fr:Frame} {cs:List Frame} {W:World}
  (hi:Inv P maps D E fr cs W) (hs0:¬ Stop fr cs) (hn:zhS fr cs) (he:Ends P F Stop Q fr cs W) :
  ∃ fr' cs' W',(zao P fr cs).run P W=.ok (fr',cs') W'∧Inv P maps D E fr' cs' W'∧Ends P F Stop Q fr' cs' W'∧W'.tape=W.tape∧W.drawn≤W'.drawn ∧
   ∀ τ:Nat→Question→Nat,(∀ i q,i<W'.drawn→τ i q=W.tape i q)→(zao P fr cs).run P { W with tape:=τ }=.ok (fr',cs') { W' with tape:=τ }:=by
 obtain⟨fr2,W2,hst,hd2,hm2,hq⟩:=he;have hrun:=(hi.sup_step hG).run1 hi.lw hi.ed hi.fresh;unfold Run1 at hrun;generalize hA:lone fr cs W=mA at hst;generalize hB:lone fr2 [] W2=mB at hst
 cases hst with
 | refl =>
  obtain⟨rfl,rfl,rfl⟩:=zeX (hA.trans hB.symm);exact (hs0 hd2).elim
 | @head _ m₁ _ hI hs hrest =>
  subst hA hB
  cases hr:(zao P fr cs).run P W with
  | halt hh Wf =>
   rw [hr] at hrun;exfalso
   have hret:fr.mode=.returning→fr.defers=[]→cs≠[]:=fun a b c=>hn ⟨a,b,c⟩;rcases zlD (main:=true) (st:=.running) (off:=none) hi.ok hi.callee hi.base.or hret hr hrun.1 with ⟨o,w,es,h⟩ | ⟨fr1,v,es,h,h1,h2,h3⟩
   ·have:=step_lone_ended (P:=P) (fr:=fr) (cs:=cs) (w:=W) (by rw [h];rfl)
    rw [this] at hs;cases hs
   ·have:=step_lone_go (P:=P) (fr:=fr) (cs:=cs) (w:=W) (by rw [h];rfl)
    rw [this] at hs;cases hs
    refine zif hal hrest (fr:=jqj fr1 [{ v,recovered:=false }]) (cs:=cs) (w:=Wf) (chain:=[{ v,recovered:=false }]) rfl ?_ (by simp) (by simp) ?_ (fun c hc=>⟨(hi.oks c hc).defers,(hi.oks c hc).mode⟩) ?_ rfl hm2
    ·simp [jqj,h1]
    ·simpa [jqj,h1,Collected] using h3
    ·exact hrun.2
  | ok a W' =>
   obtain⟨fr',cs'⟩:=a;rw [hr] at hrun;obtain⟨a0,⟨hmv,hsf,hsc⟩,a2,a3,a4,a5,a6,a7,a8⟩:=hrun;obtain⟨es,hgo,_⟩:=zdX (main:=true) (st:=.running) (off:=none) hi.ok.head hr;have:=step_lone_go (P:=P) (fr:=fr) (cs:=cs) (w:=W) (by rw [hgo];rfl);rw [this] at hs;cases hs
   have hbase:=zkG hi.base hmv;have hen:Ends P F Stop Q fr' cs' W':=⟨fr2,W2,hrest,hd2,hm2,hq⟩;have hfr:(∀ b,W'.heap.size≤b→D b):=fun b hb=>hi.fresh b (Nat.le_trans a3 hb);have hne' : ∀ c∈cs',c.todo≠[]:=by
    rcases hmv with ⟨rfl,_⟩ | ⟨fr1,rfl,_,_,_,h1,_⟩ | ⟨c,rfl,_⟩
    ·exact hi.ne
    ·exact fun c hc=>(List.mem_cons.1 hc).elim (fun e=>e ▸ h1) (hi.ne c)
    ·exact fun x hx=>hi.ne x (jqh _ hx)
   have hok' : OkFrame P maps fr'∧∀ c∈cs',OkFrame P maps c:=by
    rcases hmv with ⟨rfl,_,_,h⟩ | ⟨fr1,rfl,_,_,h1,_,h⟩ | ⟨c,rfl,_,_,h⟩
    ·exact⟨h,hi.oks⟩
    ·refine⟨?_,fun c hc=>(List.mem_cons.1 hc).elim (fun e=>e ▸ h1) (hi.oks c)⟩
     rcases h with ⟨f,args,rfl,hgood⟩ | h
     ·generalize hA:lone (jqf P f args .normal) (fr1 :: cs) W'=mA at hrest
      generalize hB:lone fr2 [] W2=mB at hrest
      cases hrest with
      | refl=>obtain⟨_,h,_⟩:=zeX (hA.trans hB.symm);cases h
      | head hI2 hs2 _ =>
       subst hA;have hmem:=Array.mem_of_getElem? (xs:=(lone (jqf P f args .normal) (fr1 :: cs) W').gs) (i:=0) rfl;rcases (hI2 _ hmem).2.1 with hf | hf
       ·exact zoa (hF f hf hgood)
       ·exfalso
        change f=P.funcs.size at hf;have hnone:P.funcs[f]?=none:=by rw [hf];simp
        have hrefuse:∃ o,stepG P true { frame:=jqf P f args .normal,callers:=fr1 :: cs,status:=.running,dying:=none } W'=.ended o W':=by
         unfold stepG stepG.exec;simp [jqf,hnone]
        obtain⟨o,hrefuse⟩:=hrefuse;have:=step_lone_ended (P:=P) (by rw [hrefuse];rfl);rw [this] at hs2;cases hs2
     ·exact h
    ·exact⟨h,fun x hx=>hi.oks x (jqh _ hx)⟩
   exact⟨fr',cs',W',rfl,⟨hok'.1,hok'.2,hsf,hsc,a2,a0,hfr,hbase,hne'⟩,hen,a4,a5,a8⟩
end
end Go.Con
