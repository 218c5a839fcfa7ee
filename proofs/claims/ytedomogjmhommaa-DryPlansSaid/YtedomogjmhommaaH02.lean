import Derived.Test.YtedomogjmhommaaH01
import Derived.Sort.BigQuietIn
import Derived.RangeFuncNested
import Derived.RangeFuncBound
import Derived.RangeFuncCalls
import Derived.RangeFuncLeaves
import Derived.Shelf.Abstract
import Derived.Shelf.RegionOpen
import Derived.Scope
import Derived.DeepKeys4
import Derived.Maps.OwnIn
import Derived.Maps.Views
set_option linter.all false
set_option maxRecDepth 100000
set_option maxHeartbeats 8000000
namespace Go
section
variable {F:Fence} {n:Nat} {P:Program} {ops:Array Oper} {md:Region.Mode} {C:World→Prop} {Q:Exit→Act→World→Prop}
end
end Go
namespace Go
section
variable {F:Fence} {n:Nat} {P:Program} {ops:Array Oper} {md:Region.Mode} {C:World→Prop} {s:Nat} {Q:Exit→Act→World→Prop}
def wpAnyZ (F:Fence) (n:Nat) (P:Program) (md:Region.Mode) (ops:Array Oper) (C:World→Prop) (s:Nat) (Q:Exit→Act→World→Prop):Nat→Array Bool→Act→World→Prop
 | 0,listed,a,w=>(listed.getD s true=false→C w)∧Region.ready md ops listed=[]∧Q .normal a w
 | f+1,listed,a,w=>(listed.getD s true=false→C w)∧(Region.ready md ops listed=[]→Q .normal a w)∧∀ i∈Region.ready md ops listed,wpOpIn F n P ops Q i (wpAnyZ F n P md ops C s Q f (listed.setIfInBounds i true)) a w
theorem zfR:∀ (f:Nat) (listed:Array Bool) (a:Act) (w:World),wpAnyZ F n P md ops C s Q f listed a w→wpAnyIn F n P md ops Q f listed a w
 | 0,_,_,_,h=>h.2
 | f+1,_,_,_,h=>⟨h.2.1,fun i hi=>wpOpIn_mono (fun a' w' h'=>zfR f _ a' w' h') (h.2.2 i hi)⟩
def waitsFor (md:Region.Mode) (ops:Array Oper):Nat→Nat→Nat→Bool
 | 0,_,_=>false
 | f+1,s,i=>match ops[s]? with | some o=>o.after.any fun e=>Region.binds md e && (e.on == i || waitsFor md ops f e.on i) | none=>false
def Closed (md:Region.Mode) (ops:Array Oper) (listed:Array Bool):Prop:=∀ j o,ops[j]?=some o→listed.getD j false=true→∀ e∈o.after,Region.binds md e=true→listed.getD e.on false=true
def zgu (md:Region.Mode) (ops:Array Oper) (listed:Array Bool):Bool:=(List.range ops.size).all fun j=>!listed.getD j false || match ops[j]? with | some o=>o.after.all fun e=>!Region.binds md e || listed.getD e.on false | none=>true
theorem zi6 {listed:Array Bool} (h:zgu md ops listed=true):Closed md ops listed:=by
 intro j o ho hl e he hb
 have hj:j<ops.size:=(Array.getElem?_eq_some_iff.1 ho).1
 have h1:=List.all_eq_true.1 h j (List.mem_range.2 hj)
 simp only [hl,Bool.not_true,Bool.false_or,ho] at h1
 have h2:=Array.all_eq_true_iff_forall_mem.1 h1 e he
 simpa [hb] using h2
theorem zfQ {listed:Array Bool} (hc:Closed md ops listed) {i:Nat}:∀ {f s:Nat},waitsFor md ops f s i=true→(∀ o,ops[s]?=some o→∀ e∈o.after,Region.binds md e=true→listed.getD e.on false=true)→listed.getD i false=true
 | 0,_,h,_=>by cases h
 | f+1,s,h,ha=>by
  unfold waitsFor at h
  cases ho:ops[s]? with
  | none=>rw [ho] at h;cases h
  | some o =>
   rw [ho] at h
   obtain⟨e,he,h2⟩:=Array.any_eq_true'.1 h
   simp only [Bool.and_eq_true,Bool.or_eq_true,beq_iff_eq] at h2
   have hl:=ha o ho e he h2.1
   rcases h2.2 with rfl | h3
   ·exact hl
   ·exact zfQ hc h3 fun o2 ho2=>hc _ o2 ho2 hl
theorem Closed.step {listed:Array Bool} (hc:Closed md ops listed) {i:Nat} (hi:i∈Region.ready md ops listed):Closed md ops (listed.setIfInBounds i true):=by
 have up:∀ k,listed.getD k false=true→(listed.setIfInBounds i true).getD k false=true:=by
  intro k hk
  by_cases hik:i=k
  ·subst hik
   have hlt:i<listed.size:=by
    rcases Nat.lt_or_ge i listed.size with h | h
    ·exact h
    ·simp [Array.getElem?_eq_none h] at hk
   simp [hlt]
  ·rw [getD_set_ne false hik];exact hk
 intro j o ho hl e he hb
 by_cases hji:i=j
 ·subst hji
  obtain⟨_,o2,ho2,hall⟩:=mem_ready.1 hi
  rw [ho] at ho2
  cases ho2
  exact up _ (hall e he hb)
 ·rw [getD_set_ne false hji] at hl
  exact up _ (hc j o ho hl e he hb)
theorem zfT {i f:Nat} {oi:Oper} {v:Value} (hro:∀ (j:Nat) (o:Oper),ops[j]?=some o→∀ e,Oper.semAt F.round e o=execOp e o) (hi:ops[i]?=some oi) (hsel:∀ (j:Nat) (o:Oper) cs b,ops[j]?=some o→o.op≠.select cs b)
  (hQ:∀ c a w,Q (.panic c) (a.put oi.dst v) w→Q (.panic c) a w) (hsi:waitsFor md ops f s i=true) :
  ∀ (fuel:Nat) (listed:Array Bool) (a:Act) (w:World),listed.getD s true=false→Closed md ops listed →
   (∀ j oj,ops[j]?=some oj→j≠i→listed.getD j true=false→(∀ e∈oj.after,Region.binds md e=true→e.on≠i)→oi.apart ops oj=true) →
   i∈Region.ready md ops listed→YieldsC F n P ops C oi v a →
   wpAnyZ F n P md ops C s Q fuel (listed.setIfInBounds i true) (a.put oi.dst v) w→wpAnyZ F n P md ops C s Q (fuel+1) listed a w:=by
 have un:∀ {listed:Array Bool},i∈Region.ready md ops listed→listed.getD i false=false:=by
  intro listed hr
  have h0:=(mem_ready.1 hr).1
  rcases Nat.lt_or_ge i listed.size with h' | h'
  ·simp [h'] at h0 ⊢;exact h0
  ·simp [Array.getElem?_eq_none h']
 have get0:∀ {listed:Array Bool},i∈Region.ready md ops listed→∀ {oj:Oper},(∀ e∈oj.after,Region.binds md e=true→listed.getD e.on false=true)→∀ e∈oj.after,Region.binds md e=true→e.on≠i:=by
  intro listed hr oj hall e he hb heq
  have h1:=hall e he hb
  rw [heq,un hr] at h1
  cases h1
 have hns:∀ {listed:Array Bool},Closed md ops listed→i∈Region.ready md ops listed→∀ j∈Region.ready md ops listed,j≠s:=by
  rintro listed hc hr j hj rfl
  obtain⟨_,oj,hoj,hall⟩:=mem_ready.1 hj
  have:=zfQ hc hsi fun o ho=>by rw [hoj] at ho;cases ho;exact hall
  rw [un hr] at this
  cases this
 intro fuel
 induction fuel with
 | zero =>
  intro listed a w hs hcl _ hr hy H
  have his:i≠s:=hns hcl hr i hr
  have hC:C w:=H.1 (by rw [getD_set_ne true his];exact hs)
  refine⟨fun _=>hC,fun h=>(by rw [h] at hr;cases hr),fun j hj=>?_⟩
  by_cases hji:j=i
  ·subst hji;exact hy.wpOpIn (hro _ _ hi) hi hC H
  ·have:=ready_mono hj hji
   rw [H.2.1] at this
   cases this
 | succ fuel ih =>
  intro listed a w hs hcl hfree hr hy H
  have his:i≠s:=hns hcl hr i hr
  have hC:C w:=H.1 (by rw [getD_set_ne true his];exact hs)
  refine⟨fun _=>hC,fun h=>(by rw [h] at hr;cases hr),fun j hj=>?_⟩
  by_cases hji:j=i
  ·subst hji;exact hy.wpOpIn (hro _ _ hi) hi hC H
  ·have h1:=H.2.2 j (ready_mono hj hji)
   have hjs:=hns hcl hr j hj
   obtain⟨hjun,oj,hoj,hall⟩:=mem_ready.1 hj
   have h2:=zkX (hro _ _ hoj) hoj (hfree j oj hoj hji hjun (get0 hr hall)) (fun cs b=>hsel i oi cs b hi) (fun cs b=>hsel j oj cs b hoj) hQ hy h1
   have hfree' : ∀ k ok,ops[k]?=some ok→k≠i→(listed.setIfInBounds j true).getD k true=false →
     (∀ e∈ok.after,Region.binds md e=true→e.on≠i)→oi.apart ops ok=true:=fun k ok hk hki hun hno=>by
    refine hfree k ok hk hki ?_ hno
    by_cases hjk:j=k
    ·subst hjk;exact hjun
    ·rw [getD_set_ne true hjk] at hun;exact hun
   refine wpOpIn_mono (fun a' w' h3=>ih (listed.setIfInBounds j true) a' w' (by rw [getD_set_ne true hjs];exact hs) (hcl.step hj) hfree' (ready_mono hr (Ne.symm hji)) h3.1 ?_) h2
   rw [Array.setIfInBounds_comm _ _ hji]
   exact h3.2
theorem zj6 {i:Nat} {oi:Oper} {v:Value} {fuel:Nat} {listed:Array Bool} {a:Act} {w:World} (hro:∀ (j:Nat) (o:Oper),ops[j]?=some o→∀ e,Oper.semAt F.round e o=execOp e o) (hi:ops[i]?=some oi)
  (hs:Region.noSelect ops=true) (hf:Region.free md ops listed i=true) (hr:(Region.ready md ops listed).contains i=true) (hsi:waitsFor md ops 16 s i=true) (hls:listed.getD s true=false) (hcl:zgu md ops listed=true)
  (hQ:∀ c a w,Q (.panic c) (a.put oi.dst v) w→Q (.panic c) a w) (hy:YieldsC F n P ops C oi v a)
  (h:wpAnyZ F n P md ops C s Q fuel (listed.setIfInBounds i true) (a.put oi.dst v) w):wpAnyZ F n P md ops C s Q (fuel+1) listed a w :=
 zfT hro hi (Region.noSelect_spec hs) hQ hsi fuel listed a w hls (zi6 hcl) (Region.free_spec hi hf) (by simpa using hr) hy h
theorem zkV {i:Nat} {o:Oper} {fuel:Nat} {listed:Array Bool} {a:Act} {w:World} (hr:Region.ready md ops listed=[i]) (ho:ops[i]?=some o) (hw:Region.wanted o (yielded ops a.tmps)=true) (hC:listed.getD s true=false→C w)
  (h:∀ K:Act→World→Prop,(∀ a w,wpAnyZ F n P md ops C s Q fuel (listed.setIfInBounds i true) a w→K a w)→o.wpIn F n P a w K Q):wpAnyZ F n P md ops C s Q (fuel+1) listed a w:=by
 refine⟨hC,fun h0=>(by rw [hr] at h0;cases h0),fun j hj=>?_⟩
 rw [hr] at hj
 have:j=i:=by simpa using hj
 subst this
 unfold wpOpIn
 simp only [ho,hw,if_true]
 exact h _ fun _ _ h=>h
theorem zmK {i j:Nat} {oi oj:Oper} {fuel:Nat} {listed:Array Bool} {a:Act} {w:World} (hr:Region.ready md ops listed=[i,j]) (hoi:ops[i]?=some oi) (hoj:ops[j]?=some oj)
  (hwi:Region.wanted oi (yielded ops a.tmps)=true) (hwj:Region.wanted oj (yielded ops a.tmps)=true) (hC:listed.getD s true=false→C w)
  (hi:∀ K:Act→World→Prop,(∀ a w,wpAnyZ F n P md ops C s Q fuel (listed.setIfInBounds i true) a w→K a w)→oi.wpIn F n P a w K Q)
  (hj:∀ K:Act→World→Prop,(∀ a w,wpAnyZ F n P md ops C s Q fuel (listed.setIfInBounds j true) a w→K a w)→oj.wpIn F n P a w K Q):wpAnyZ F n P md ops C s Q (fuel+1) listed a w:=by
 refine⟨hC,fun h0=>(by rw [hr] at h0;cases h0),fun k hk=>?_⟩
 rw [hr] at hk
 simp only [List.mem_cons,List.not_mem_nil,or_false] at hk
 rcases hk with rfl | rfl
 ·unfold wpOpIn
  simp only [hoi,hwi,if_true]
  exact hi _ fun _ _ h=>h
 ·unfold wpOpIn
  simp only [hoj,hwj,if_true]
  exact hj _ fun _ _ h=>h
theorem zar {fuel:Nat} {listed:Array Bool} {a:Act} {w:World} (hr:Region.ready md ops listed=[]) (hC:listed.getD s true=false→C w) (h:Q .normal a w):wpAnyZ F n P md ops C s Q fuel listed a w:=by
 cases fuel with
 | zero=>exact⟨hC,hr,h⟩
 | succ f=>exact⟨hC,fun _=>h,by rw [hr];simp⟩
theorem ziT {id:Nat} {a:Act} {w:World} (C:World→Prop) (s:Nat) (hm:P.follows .mixedOrders=true) (h:wpAnyZ F n P .any ops C s Q ops.size (Array.replicate ops.size false) a { w with drawn:=w.drawn+1 }):(Code.region id ops true).wpIn F n P Q a w :=
 wpIn_region_any hm (zfR _ _ _ _ h)
end
end Go
namespace Go
def ziy:Op→Bool
 | .move _ | .assign _ | .fieldAddr .. | .load .. | .binOp .. | .unOp .. | .build .. | .indexAddr .. | .field .. | .index .. | .extract .. | .pick .. | .lookup ..=>true
 | _=>false
theorem zlm {α:Type} (s:Sem α) (g:α→Next) (hg:∀ x f args,g x≠.enter f args) {P:Program} {w w' : World} {f:FuncId} {args:Array Value}:(do pure (g (← s)):Sem Next).run P w≠.ok (.enter f args) w':=by
 intro h
 rw [Sem.run_bind] at h
 cases hr:s.run P w with
 | ok x w1 =>
  rw [hr] at h
  simp only [Result.andThen,Sem.run_pure,Result.ok.injEq] at h
  exact hg _ _ _ h.1
 | _=>rw [hr] at h;cases h
theorem zkC {o:Oper} {e:Operand→Value} {P:Program} {w w' : World} {f:FuncId} {args:Array Value} (h:ziy o.op=true):(execOp e o).run P w≠.ok (.enter f args) w':=by
 obtain⟨d,op,t,p,af,g⟩:=o
 cases op<;>first
  | (cases h;done)
  | exact zlm _ Next.value (fun _ _ _ h=>by cases h)
  | exact zlm _ (fun b:Bool=>Next.value (if b then _ else _)) (fun _ _ _ h=>by cases h)
  | (intro hh;cases hh;done)
section
open BigFrame
variable {F:Fence} {n:Nat} {P:Program} {md:Region.Mode} {ops:Array Oper} {C:World→Prop} {s:Nat} {Q:Exit→Act→World→Prop}
theorem zj5 {Z:Type} {G:Z→World} {i:Nat} {oi:Oper} {fuel:Nat} {listed:Array Bool} {a:Act} {w:World} (hG:∀ x,C x→∃ z,x=G z) (hro:∀ (j:Nat) (o:Oper),ops[j]?=some o→∀ e,Oper.semAt F.round e o=execOp e o) (hi:ops[i]?=some oi)
  (hs:Region.noSelect ops=true) (hf:Region.free md ops listed i=true) (hr:(Region.ready md ops listed).contains i=true) (hsi:waitsFor md ops 16 s i=true) (hls:listed.getD s true=false) (hcl:zgu md ops listed=true)
  (hQ:∀ c a w,¬ Q (.panic c) a w) (hp:ziy oi.op=true) (hask:oi.askedIn F P a C) (hw:Region.wanted oi (yielded ops a.tmps)=true)
  (h:∀ K:Act→Prop,(∀ a',wpAnyZ F n P md ops C s Q fuel (listed.setIfInBounds i true) a' w→K a')→oi.quietIn F n P a (fun x=>∃ z,x=G z) K):wpAnyZ F n P md ops C s Q (fuel+1) listed a w:=by
 obtain⟨v,hv,hk⟩:=h _ fun _ h=>h
 refine zfT hro hi (Region.noSelect_spec hs) (fun c a w h=>absurd h (hQ c _ w)) hsi fuel listed a w hls (zi6 hcl) (Region.free_spec hi hf) (by simpa using hr) (v:=v) ⟨hask,.inl ⟨hw,fun x hx=>?_⟩⟩ hk
 have h1:=hv x (hG x hx)
 unfold Oper.quietAtIn at h1 ⊢
 cases hrun:(execOp a.eval oi).run P x with
 | ok nx w1 =>
  rw [hrun] at h1
  cases nx with
  | value u=>exact h1
  | skip=>exact h1
  | enter f args=>exact absurd hrun (zkC hp)
  | _=>exact h1.elim
 | _=>rw [hrun] at h1;exact h1.elim
theorem zaC {C:World→Prop} {x:World} (hx:C x):∃ (Z:Type) (G:Z→World),Nonempty Z∧(∀ x,C x→∃ z,x=G z)∧∀ z,C (G z):=⟨{x // C x},fun z=>z.1,⟨⟨x,hx⟩⟩,fun x h=>⟨⟨x,h⟩,rfl⟩,fun z=>z.2⟩
theorem zat {id:Nat} {a:Act} {w:World} (C:World→Prop) (s:Nat) (hm:P.follows .mixedOrders=true) (h:wpAnyZ F n P .any ops C s (fun e a w=>e=.normal∧Q .normal a w) ops.size (Array.replicate ops.size false) a w.drew):(Code.region id ops true).wpIn F n P Q a w :=
 wpIn_mono (ziT C s hm h) fun e a w h=>by obtain⟨rfl,h⟩:=h;exact h
theorem yCP {o:Oper} {v:Value} {a:Act} (hg:o.guard=none) (hab:∀ x,o.about P x a.eval=none) (h:∀ x,C x→(execOp a.eval o).run P x=.ok (.value v) x):YieldsC F n P ops C o v a:=by
 refine⟨fun x _ f hf=>by (rw [hab x] at hf;cases hf),.inl ⟨by simp [Region.wanted,hg],fun x hx=>?_⟩⟩
 unfold Oper.quietAtIn
 rw [h x hx]
 exact⟨rfl,rfl⟩
theorem yC_nil {dst:Option Nat} {ty:TypeId} {pos:String} {af:Array Edge} {a:Act} {x:Nat} {b i:Nat} (h:a.eval (.tmp x)=.pointer (some ⟨b,i,none⟩)):YieldsC F n P ops C ⟨dst,.nilCheck (.tmp x),ty,pos,af,none⟩ (.pointer (some ⟨b,i,none⟩)) a :=
 yCP rfl (fun _=>rfl) fun w _=>by simp only [execOp,h];rfl
theorem yC_len {dst:Option Nat} {ty:TypeId} {pos:String} {af:Array Edge} {t:TypeId} {a:Act} {x:Nat} {b:Option Addr} {l c:Nat} (h:a.eval (.tmp x)=.slice b l c) (hl:∀ w,(Builtin.len_ #[t] ty #[.slice b l c]).run P w=.ok (.int .i64 l) w):YieldsC F n P ops C ⟨dst,.call { callee:=.builtin .len,args:=#[.tmp x],argTypes:=#[t] },ty,pos,af,none⟩ (.int .i64 l) a :=
 yCP rfl (fun _=>rfl) fun w _=>by generalize a.eval=ρ at h ⊢;simp [execOp,resolve,invoke,builtin,go_sem,h,hl]
end
theorem ziS {F:Fence} {n:Nat} {P:Program} {K:Act→World→Prop} {Q:Exit→Act→World→Prop} {o:Oper} {a:Act} {w w1:World} {v:Value} (hro:F.round=none) (hab:o.about P w a.eval=none) (hrun:(execOp a.eval o).run P w=.ok (.value v) w1) (h:K (a.put o.dst v) w1):o.wpIn F n P a w K Q:=by
 unfold Oper.wpIn
 refine⟨fun f hf=>(by rw [hab] at hf;cases hf),?_⟩
 rw [hro,Oper.semAt_none,hrun]
 exact h
theorem zmP {P:Program} {dst:Option Nat} {pos:String} {af:Array Edge} {x y:Nat} {w:World} (e:Operand→Value) {t:TypeId} {v u v' : Value} {w' : World} (h:e (.tmp x)=v) (h2:e (.tmp y)=u) (hr:(Builtin.append_ #[t,t] t #[v,u]).run P w=.ok v' w') :
  (execOp e ⟨dst,.call { callee:=.builtin .append,args:=#[.tmp x,.tmp y],argTypes:=#[t,t] },t,pos,af,none⟩).run P w=.ok (.value v') w':=by
 simp [execOp,resolve,invoke,builtin,h,h2,hr,Result.andThen]
def zfh (md:Region.Mode) (ops:Array Oper) (s i:Nat):Bool:=match ops[s]? with
 | some o=>o.after.any fun e=>Region.binds md e && e.on == i
 | none=>false
theorem zfP {md:Region.Mode} {ops:Array Oper} {s i:Nat} (h:zfh md ops s i=true):waitsFor md ops 16 s i=true:=by
 unfold zfh at h
 unfold waitsFor
 cases ho:ops[s]? with
 | none=>rw [ho] at h;cases h
 | some o =>
  rw [ho] at h
  dsimp only at h ⊢
  rw [Array.any_eq_true] at h ⊢
  obtain⟨k,hk,h1⟩:=h
  refine⟨k,hk,?_⟩
  simp only [Bool.and_eq_true] at h1
  simp [h1.1,h1.2]
def zqB (md:Region.Mode) (ops:Array Oper) (s:Nat) (listed:Array Bool) (i:Nat):Bool :=
 (ops.all fun o=>match o.op with | .defer _=>false | _=>true) && Region.noSelect ops && Region.free md ops listed i && (Region.ready md ops listed).contains i && (zfh md ops s i || waitsFor md ops 16 s i) && !(listed.getD s true) && zgu md ops listed && ((ops[i]?).map fun o=>ziy o.op).getD false
def zmJ (ops:Array Oper) (i:Nat) (a:Act):Bool:=((ops[i]?).map fun o=>Region.wanted o (yielded ops a.tmps)).getD false
theorem zgf {ops:Array Oper} {i:Nat} {a:Act} (h:zmJ ops i a=true):∃ o,ops[i]?=some o∧Region.wanted o (yielded ops a.tmps)=true:=by
 unfold zmJ at h
 cases ho:ops[i]? with
 | none=>rw [ho] at h;cases h
 | some o=>rw [ho] at h;exact⟨o,rfl,h⟩
section
variable {F:Fence} {n:Nat} {P:Program} {md:Region.Mode} {ops:Array Oper} {C:World→Prop} {s:Nat} {Q:Exit→Act→World→Prop}
theorem zqE {Z:Type} {G:Z→World} (i:Nat) {fuel:Nat} {listed:Array Bool} {a:Act} {w:World} (hG:∀ x,C x→∃ z,x=G z) (hb:zqB md ops s listed i=true) (hQ:∀ c a w,¬ Q (.panic c) a w) (hw:zmJ ops i a=true)
  (h:∀ o,ops[i]?=some o→∀ K:Act→Prop,(∀ a',wpAnyZ F n P md ops C s Q fuel (listed.setIfInBounds i true) a' w→K a')→o.quietIn F n P a (fun x=>∃ z,x=G z) K):wpAnyZ F n P md ops C s Q (fuel+1) listed a w:=by
 obtain⟨o,ho,hw⟩:=zgf hw
 unfold zqB at hb
 simp only [Bool.and_eq_true] at hb
 obtain⟨⟨⟨⟨⟨⟨⟨b1,b2⟩,b3⟩,b4⟩,b5⟩,b6⟩,b7⟩,b8⟩:=hb
 rw [ho] at b8
 have b8' : ziy o.op=true:=b8
 have b5' : waitsFor md ops 16 s i=true:=by
  have b6' : zfh md ops s i=true∨waitsFor md ops 16 s i=true:=by simpa using b5
  rcases b6' with h | h
  ·exact zfP h
  ·exact h
 exact zj5 hG (zjy b1) ho b2 b3 b4 b5' (by simpa using b6) b7 hQ b8' (BigFrame.askedIn_plain (fun c h=>by rw [h] at b8';cases b8')) hw (h o ho)
theorem zoE (i:Nat) {fuel:Nat} {listed:Array Bool} {a:Act} {w:World} (hr:Region.ready md ops listed=[i]) (hw:zmJ ops i a=true) (hC:listed.getD s true=false→C w)
  (h:∀ o,ops[i]?=some o→∀ K:Act→World→Prop,(∀ a w,wpAnyZ F n P md ops C s Q fuel (listed.setIfInBounds i true) a w→K a w)→o.wpIn F n P a w K Q):wpAnyZ F n P md ops C s Q (fuel+1) listed a w:=by
 obtain⟨o,ho,hw⟩:=zgf hw
 exact zkV hr ho hw hC (h o ho)
def ztB (md:Region.Mode) (ops:Array Oper) (s:Nat) (listed:Array Bool) (i:Nat):Bool :=
 (ops.all fun o=>match o.op with | .defer _=>false | _=>true) && Region.noSelect ops && Region.free md ops listed i && (Region.ready md ops listed).contains i && (zfh md ops s i || waitsFor md ops 16 s i) && !(listed.getD s true) && zgu md ops listed && decide (i<ops.size)
theorem ztE (i:Nat) {fuel:Nat} {listed:Array Bool} {a:Act} {w:World} (hb:ztB md ops s listed i=true) (hQ:∀ c a w,¬ Q (.panic c) a w)
  (h:∀ o,ops[i]?=some o→∃ v,YieldsC F n P ops C o v a∧wpAnyZ F n P md ops C s Q fuel (listed.setIfInBounds i true) (a.put o.dst v) w):wpAnyZ F n P md ops C s Q (fuel+1) listed a w:=by
 unfold ztB at hb
 simp only [Bool.and_eq_true,decide_eq_true_eq] at hb
 obtain⟨⟨⟨⟨⟨⟨⟨b1,b2⟩,b3⟩,b4⟩,b5⟩,b6⟩,b7⟩,b8⟩:=hb
 have ho:ops[i]?=some ops[i]:=Array.getElem?_eq_getElem b8
 have b5' : waitsFor md ops 16 s i=true:=by
  have b6' : zfh md ops s i=true∨waitsFor md ops 16 s i=true:=by simpa using b5
  rcases b6' with h | h
  ·exact zfP h
  ·exact h
 obtain⟨v,hy,hk⟩:=h _ ho
 exact zj6 (zjy b1) ho b2 b3 b4 b5' (by simpa using b6) b7 (fun c a w h=>absurd h (hQ c _ w)) hy hk
theorem zwE (i j:Nat) {fuel:Nat} {listed:Array Bool} {a:Act} {w:World} (hr:Region.ready md ops listed=[i,j]) (hwi:zmJ ops i a=true) (hwj:zmJ ops j a=true) (hC:listed.getD s true=false→C w)
  (hi:∀ o,ops[i]?=some o→∀ K:Act→World→Prop,(∀ a w,wpAnyZ F n P md ops C s Q fuel (listed.setIfInBounds i true) a w→K a w)→o.wpIn F n P a w K Q)
  (hj:∀ o,ops[j]?=some o→∀ K:Act→World→Prop,(∀ a w,wpAnyZ F n P md ops C s Q fuel (listed.setIfInBounds j true) a w→K a w)→o.wpIn F n P a w K Q):wpAnyZ F n P md ops C s Q (fuel+1) listed a w:=by
 obtain⟨o,ho,hw⟩:=zgf hwi
 obtain⟨o2,ho2,hw2⟩:=zgf hwj
 exact zmK hr ho ho2 hw hw2 hC (hi o ho) (hj o2 ho2)
end
end Go
namespace Go
section
variable {F:Fence} {n:Nat} {P:Program} {ops:Array Oper} {md:Region.Mode} {C:World→Prop} {s:Nat} {Q:Exit→Act→World→Prop}
theorem yC_not {o:Oper} {a:Act} (hF:∀ f,F.fn f) (hw:Region.wanted o (yielded ops a.tmps)=false):YieldsC F n P ops C o undef a:=⟨fun _ _ f _=>hF f,.inr ⟨hw,rfl⟩⟩
theorem zkW {i:Nat} {o:Oper} {fuel:Nat} {listed:Array Bool} {a:Act} {w:World} (hr:Region.ready md ops listed=[i]) (ho:ops[i]?=some o) (hw:Region.wanted o (yielded ops a.tmps)=false) (hF:∀ f,F.fn f) (hC:listed.getD s true=false→C w)
  (h:wpAnyZ F n P md ops C s Q fuel (listed.setIfInBounds i true) (a.put o.dst undef) w):wpAnyZ F n P md ops C s Q (fuel+1) listed a w:=by
 refine⟨hC,fun h0=>(by rw [hr] at h0;cases h0),fun j hj=>?_⟩
 rw [hr] at hj
 have:j=i:=by simpa using hj
 subst this
 unfold wpOpIn
 simp only [ho,hw]
 exact⟨fun f _=>hF f,h⟩
theorem zsE (i:Nat) {fuel:Nat} {listed:Array Bool} {a:Act} {w:World} (hr:Region.ready md ops listed=[i]) (hi:i<ops.size) (hw:∀ o,ops[i]?=some o→Region.wanted o (yielded ops a.tmps)=false) (hF:∀ f,F.fn f) (hC:listed.getD s true=false→C w)
  (h:∀ o,ops[i]?=some o→wpAnyZ F n P md ops C s Q fuel (listed.setIfInBounds i true) (a.put o.dst undef) w):wpAnyZ F n P md ops C s Q (fuel+1) listed a w :=
 zkW hr (Array.getElem?_eq_getElem hi) (hw _ (Array.getElem?_eq_getElem hi)) hF hC (h _ (Array.getElem?_eq_getElem hi))
end
end Go
namespace Go.Proofs.Ytedomogjmhommaa
open Go.RowKit
def Marks (B:Nat) (ds:List Deferred) (W:World):Prop:=∃ Ds:List Nat,ds=Ds.map (fun D=>{ target:=.collected D,args:=#[] })∧Ds.Nodup∧∀ D∈Ds,B≤D∧W.heap[D]?=some (.deferred (some []))
theorem Marks.nil (B:Nat) (W:World):Marks B [] W:=⟨[],rfl,List.nodup_nil,by simp⟩
theorem Marks.keep {B:Nat} {ds:List Deferred} {W W' : World} (h:Marks B ds W) (hk:∀ D,B≤D→W.heap[D]?=some (.deferred (some []))→W'.heap[D]?=some (.deferred (some []))):Marks B ds W':=by
 obtain⟨Ds,h1,h2,h3⟩:=h
 exact⟨Ds,h1,h2,fun D hD=>⟨(h3 D hD).1,hk D (h3 D hD).1 (h3 D hD).2⟩⟩
theorem Marks.grown {B:Nat} {ds:List Deferred} {W W' : World} {row:Option Nat} (h:Marks B ds W) (hg:W.grownBy W' row) (hr:∀ r,row=some r→W.heap[r]?≠some (.deferred (some []))):Marks B ds W' :=
 h.keep fun D _ hD=>(hg.block D (Array.getElem?_eq_some_iff.1 hD).1 (fun e=>hr D e.symm hD)).trans hD
theorem Marks.nx {B:Nat} {ds:List Deferred} {W W' : World} (h:Marks B ds W) (n:Nx W W'):Marks B ds W' :=
 h.keep fun D _ hD=>(n.block D (Array.getElem?_eq_some_iff.1 hD).1).trans hD
theorem Marks.set {B:Nat} {ds:List Deferred} {W:World} {a:Addr} {v:Value} (h:Marks B ds W) {cs:Array Value} {e:TypeId} {fz:Nat×Nat} (ha:W.heap[a.block]?=some (.cells cs e fz)):Marks B ds (W.setCell a v) :=
 h.keep fun D _ hD=>(heap_setCell_other _ _ _ _ (by intro e2;rw [e2] at hD;rw [hD] at ha;cases ha)).trans hD
theorem Marks.cons {B:Nat} {ds:List Deferred} {W0 W:World} {D:Nat} (h0:Marks B ds W0) (h:Marks B ds W) (hD:W0.heap.size≤D) (hB:B≤W0.heap.size) (hk:W.heap[D]?=some (.deferred (some []))):Marks B ({ target:=.collected D,args:=#[] } :: ds) W:=by
 obtain⟨Ds,h1,h2,h3⟩:=h0
 obtain⟨Es,k1,k2,k3⟩:=h
 have:Es=Ds:=by
  rw [h1] at k1
  have:=congrArg (List.map fun d:Deferred=>match d.target with | .collected D=>D | _=>0) k1
  simpa [Function.comp_def] using this.symm
 subst this
 refine⟨D :: Es,by rw [h1];rfl,List.nodup_cons.2 ⟨fun hm=>?_,h2⟩,fun E hE=>?_⟩
 ·have:=(Array.getElem?_eq_some_iff.1 (h3 D hm).2).1
  omega
 ·rcases List.mem_cons.1 hE with rfl | hE
  ·exact⟨by omega,hk⟩
  ·exact k3 E hE
theorem zh8 {n:Nat} {P:Program} {c:Code} {Q:Exit→Act→World→Prop} {a:Act} {w:World} (hg:∀ l a w,¬ Q (.goto l) a w) (h:c.wpIn FW n P Q a w):(Code.scope c).wpIn FW n P Q a w:=by
 refine wpIn_wide.2 (wp_scope_straight (wpIn_wide.1 (wpIn_mono h fun e a w q=>?_)))
 cases e with
 | goto l=>exact hg _ _ _ q
 | _=>exact q
theorem zdD {F:Fence} {n:Nat} {P:Program} {fn:Func} {tmps:Array Value} {R:Ending→World→Prop} {B:Nat}:∀ {ds:List Deferred} {w:World},Marks B ds w→(∀ w',Below B w w'→∃ v,(results fn tmps).run P w'=.ok v w'∧R (.returned v) w')→B≤w.heap.size→LeavesInM F n P fn tmps R ds .returning w:=by
 rintro ds w ⟨Ds,rfl,hn,hd⟩ hr hB
 induction Ds generalizing w with
 | nil=>exact hr w (Below.refl _ _)
 | cons D Ds ih =>
  obtain⟨h1,h2⟩:=List.nodup_cons.1 hn
  have hD:=hd D (by simp)
  have hb:Below B w (w.putObj D (.deferred none)):=(Below.refl B w).grown (grownBy_putObj' w D _) hB (fun k e=>by cases e;exact hD.1)
  refine⟨by simp,.inl ⟨_,_,rfl,run_takeDeferred hD.2,?_⟩⟩
  refine ih h2 (fun E hE=>⟨(hd E (by simp [hE])).1,?_⟩) (fun w' hw'=>hr w' (hb.trans hw')) (Nat.le_trans hB hb.size)
  exact (World.putObj_heap_other (fun e=>h1 (by rw [← e];exact hE))).trans (hd E (by simp [hE])).2
end Go.Proofs.Ytedomogjmhommaa
namespace Go.Proofs.Ytedomogjmhommaa
open Go.RowKit Go.WideMaps
theorem laidOut:laidOutB Try.prog=true:=by kernel_rfl
theorem zrk:KeyLaw Try.prog 24:=deep_law_laid laidOut (m:=2) (by omega) (of_decide_eq_true (by kernel_rfl)) (by kernel_rfl) (by rw [Try.underlying24])
theorem zrm:KeyLaw Try.prog 94:=deep_law_laid laidOut (m:=3) (by omega) (of_decide_eq_true (by kernel_rfl)) (by kernel_rfl) (by rw [Try.underlying94])
theorem K24:Maps.Keyed Try.prog 24:=.of_law zrk
theorem K94:Maps.Keyed Try.prog 94:=.of_law zrm
theorem zjn:Try.prog.keyType 24=true:=by kernel_rfl
theorem znq:Try.prog.keyType 94=true:=by kernel_rfl
theorem zei:Try.prog.cellsOf 24=3:=by kernel_rfl
theorem zmW:Try.prog.cellsOf 94=4:=by kernel_rfl
theorem cells3:Try.prog.cellsOf 3=1:=by kernel_rfl
def I64 (n:Int):Prop:=-9223372036854775808≤n∧n≤9223372036854775807
theorem wf64 {n:Int} (h:I64 n):(Lit.int .i64 n).wf=true:=by
 obtain⟨h1,h2⟩:=h
 have e1:IntKind.i64.min=-9223372036854775808:=rfl
 have e2:IntKind.i64.max=9223372036854775807:=rfl
 simp [Lit.wf,e1,e2]
 omega
theorem zl5 {n:Int} (h:I64 n) (d:Nat):Try.prog.keyLits (d+1) 3 [num n]=some [.int .i64 n]:=by
 have:=wf64 h
 simp [Program.keyLits,Try.underlying3,this]
theorem zpB {a b c:Int} (ha:I64 a) (hb:I64 b) (hc:I64 c) (d:Nat):Try.prog.keyLits (d+2) 24 [num a,num b,num c]=some [.int .i64 a,.int .i64 b,.int .i64 c]:=by
 unfold Program.keyLits
 rw [Try.underlying24]
 simp [zei,cells3,zl5 ha,zl5 hb,zl5 hc]
theorem zqz {k a b c:Int} (hk:I64 k) (ha:I64 a) (hb:I64 b) (hc:I64 c) (d:Nat):Try.prog.keyLits (d+3) 94 [num k,num a,num b,num c]=some [.int .i64 k,.int .i64 a,.int .i64 b,.int .i64 c]:=by
 unfold Program.keyLits
 rw [Try.underlying94]
 simp [zei,zmW,cells3,zl5 hk,zpB ha hb hc]
abbrev plV (k:Int) (s:St):Value:=.agg #[num k,num s.w,num s.c,num s.h]
structure StI (s:St):Prop where
 w:I64 s.w
 c:I64 s.c
 h:I64 s.h
theorem zo9:∃ n,Try.prog.types.size+1=n+3:=⟨Try.prog.types.size-2,by have:3≤Try.prog.types.size:=of_decide_eq_true (by kernel_rfl);omega⟩
theorem zl1 {s:St} (h:StI s):∃ l,keyOf Try.prog 24 s.val=some l:=by
 obtain⟨n,hn⟩:=zo9
 unfold keyOf
 rw [Try.underlying24,hn]
 simp only [zjn,Bool.true_and]
 rw [if_pos (by simp [Value.formed,Try.underlying24,zei]),show s.val.cells.toList=[num s.w,num s.c,num s.h] from rfl,show n+3=(n+1)+2 from rfl,zpB h.w h.c h.h]
 exact⟨_,rfl⟩
theorem zri {k:Int} (hk:I64 k) {s:St} (h:StI s):∃ l,keyOf Try.prog 94 (plV k s)=some l:=by
 obtain⟨n,hn⟩:=zo9
 unfold keyOf
 rw [Try.underlying94,hn]
 simp only [znq,Bool.true_and]
 rw [if_pos (by simp [Value.formed,Try.underlying94,zmW]),show (plV k s).cells.toList=[num k,num s.w,num s.c,num s.h] from rfl,zqz hk h.w h.c h.h]
 exact⟨_,rfl⟩
end Go.Proofs.Ytedomogjmhommaa
namespace Go.Proofs.Ytedomogjmhommaa
open Go.RowKit
structure R2 where
 h:Value
 s:Value
abbrev Dry.val (d:Dry) (r:R2):Value:=.agg #[r.h,num d.soak,num d.brittle,num d.start.w,num d.start.c,num d.start.h,r.s]
abbrev Dry.cellsA (d:Dry) (r:R2):Array Value:=#[r.h,num d.soak,num d.brittle,num d.start.w,num d.start.c,num d.start.h,r.s]
structure DrySl (w:World) (d:Dry) (r:R2):Prop where
 heats:Sl w r.h 2 (d.heats.map two)
 steps:Sl w r.s 6 (d.steps.map Stp.cells)
 hl:d.heats.length≤1000000000
 sl:d.steps.length≤1000000000
theorem DrySl.nx {w w' : World} {d:Dry} {r:R2} (h:DrySl w d r) (n:Nx w w'):DrySl w' d r:=⟨h.heats.nx n,h.steps.nx n,h.hl,h.sl⟩
theorem zjT (d:Dry) (r:R2) (s:St) (w:World) (hd:DrySl w d r):CallsIn FW 0 Try.prog 56 #[d.val r,s.val] w fun e w'=>e=.returned (num (stF d s))∧Nx w w':=by
 obtain⟨rh,rs⟩:=r
 obtain⟨ha,hcap,rfl⟩:=hd.heats.cases
 obtain⟨sa,scap,rfl⟩:=hd.steps.cases
 rw [List.length_map,List.length_map]
 have hl:=hd.hl
 have k1:=fun (w1:World)=>zaK s.w 0 5000 w1
 have k2:=fun (w1:World)=>zaK s.c 0 1000 w1
 have k3:=fun (w1:World)=>zaK s.h 0 ((d.heats.length:Int)-1) w1
 unfold stF
 clear hd
 by_cases h1:0≤s.w∧s.w≤5000
 ·have b1:decide (0≤s.w∧s.w≤5000)=true:=decide_eq_true h1
  by_cases h2:0≤s.c∧s.c≤1000
  ·have b2:decide (0≤s.c∧s.c≤1000)=true:=decide_eq_true h2
   rw [if_neg (by simp only [Decidable.not_not];exact⟨h1,h2⟩)]
   by_cases h3:0≤s.h∧s.h≤(d.heats.length:Int)-1
   ·have b3:decide (0≤s.h∧s.h≤(d.heats.length:Int)-1)=true:=decide_eq_true h3
    rw [if_neg (by simp only [Decidable.not_not];exact h3)]
    clear h1 h2 h3
    gi_enter Try.func56,Try.ntmps56
    gi_wp2_with (first | (gi_at_call 55;refine CallsIn.mono (by first | with_reducible exact k1 _ | with_reducible exact k2 _ | with_reducible exact k3 _) ?_;rintro e w1 ⟨rfl,rfl⟩) | gi_in)
    all_goals (go_ret;exact⟨rfl,zaj (zaj (Nx.refl _) _) _⟩)
   ·have b3:decide (0≤s.h∧s.h≤(d.heats.length:Int)-1)=false:=decide_eq_false h3
    rw [if_pos h3]
    clear h1 h2 h3
    gi_enter Try.func56,Try.ntmps56
    gi_wp2_with (first | (gi_at_call 55;refine CallsIn.mono (by first | with_reducible exact k1 _ | with_reducible exact k2 _ | with_reducible exact k3 _) ?_;rintro e w1 ⟨rfl,rfl⟩) | gi_in)
    all_goals (go_ret;exact⟨rfl,zaj (zaj (Nx.refl _) _) _⟩)
  ·have b2:decide (0≤s.c∧s.c≤1000)=false:=decide_eq_false h2
   rw [if_pos (fun h=>h2 h.2)]
   clear h1 h2
   gi_enter Try.func56,Try.ntmps56
   gi_wp2_with (first | (gi_at_call 55;refine CallsIn.mono (by first | with_reducible exact k1 _ | with_reducible exact k2 _) ?_;rintro e w1 ⟨rfl,rfl⟩) | gi_in)
   all_goals (go_ret;exact⟨rfl,zaj (zaj (Nx.refl _) _) _⟩)
 ·have b1:decide (0≤s.w∧s.w≤5000)=false:=decide_eq_false h1
  rw [if_pos (fun h=>h1 h.1)]
  clear h1
  gi_enter Try.func56,Try.ntmps56
  gi_wp2_with (first | (gi_at_call 55;refine CallsIn.mono (by first | with_reducible exact k1 _) ?_;rintro e w1 ⟨rfl,rfl⟩) | gi_in)
  all_goals (go_ret;exact⟨rfl,zaj (zaj (Nx.refl _) _) _⟩)
end Go.Proofs.Ytedomogjmhommaa
namespace Go.Proofs.Ytedomogjmhommaa
open Go.RowKit
def zbH (x:Int×Int):Bool:=decide (0≤x.1∧x.1≤1000) && decide (0≤x.2∧x.2≤1000)
abbrev Stp.damp (x:Stp):Int×Int:=(x.lo,x.hi)
abbrev Stp.win (x:Stp):Int×Int:=(x.wlo,x.whi)
def zf1 (x:Stp):Bool:=insB x.damp 0 3 && insB x.win 0 5000 && decide (0≤x.col∧x.col≤1000)
def dryF (d:Dry):Int :=
 if ¬ (1≤(d.heats.length:Int)∧(d.heats.length:Int)≤4) then 2 else
 if d.heats.all zbH=false then 1 else
 if ¬ ((0≤d.soak∧d.soak≤1000)∧(0≤d.brittle∧d.brittle≤5000)) then 1 else
 if stF d d.start≠0 then stF d d.start else
 if 5<d.steps.length then 2 else
 if d.steps.all zf1=false then 1 else 0
theorem zdc {d:Dry} (h:dryF d=0):d.Ok:=by
 unfold dryF at h
 split at h
 ·cases h
 split at h
 ·cases h
 split at h
 ·cases h
 split at h
 ·exact absurd h (by assumption)
 split at h
 ·cases h
 split at h
 ·cases h
 rename_i h1 h2 h3 h4 h5 h6
 simp only [Decidable.not_not] at h1 h3 h4
 simp only [Bool.not_eq_false,List.all_eq_true] at h2 h6
 refine⟨by omega,fun x hx=>?_,h3.1,h3.2,h4,by omega,fun x hx=>?_⟩
 ·have:=h2 x hx
  simpa [zbH] using this
 ·have:=h6 x hx
  simp only [zf1,insB,Bool.and_eq_true,decide_eq_true_eq] at this
  exact⟨this.1.1,this.1.2,this.2⟩
theorem zk1 {α:Type} {p:α→Bool} {l:List α} {k:Nat} {x:α} (hx:l[k]?=some x) (h:(l.take k).all p=true) (hp:p x=true):(l.take (k+1)).all p=true:=by
 rw [List.take_add_one,hx,List.all_append,h]
 simp [hp]
theorem zf3 {α:Type} {p:α→Bool} {l:List α} {k:Nat} {x:α} (hx:l[k]?=some x) (hp:p x=false):l.all p=false:=by
 rw [List.all_eq_false]
 exact⟨x,List.mem_of_getElem? hx,by simp [hp]⟩
structure DBox (w:World) (B:Nat) (d:Dry) (r:R2):Prop where
 lt:B<w.heap.size
 at' : ∀ (i:Nat) (v:Value),(d.cellsA r)[i]?=some v→w.cell? ⟨B,i,none⟩=some v
theorem DBox.nx {w w' : World} {B:Nat} {d:Dry} {r:R2} (h:DBox w B d r) (n:Nx w w'):DBox w' B d r:=⟨Nat.lt_of_lt_of_le h.lt n.size,fun i v hv=>(n.cell (by exact h.lt)).trans (h.at' i v hv)⟩
theorem DBox.of {w W:World} {d:Dry} {r:R2} {fz:Nat×Nat} {e:TypeId} (h:w.alloc (.cells (d.cellsA r) e fz)=W):Nx w W∧DBox W w.heap.size d r:=by
 obtain⟨n,s,g⟩:=al1 h
 exact⟨n,by omega,fun i v hv=>zaa g hv⟩
end Go.Proofs.Ytedomogjmhommaa
