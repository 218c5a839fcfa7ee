import Derived.Test.YtbbanmifdbeneaaDoorF10
import Derived.Test.YtbbanmifdbeneaaDoorF09
import Derived.Test.YtbbanmifdbeneaaDoorF07
set_option linter.all false
set_option maxRecDepth 100000
set_option maxHeartbeats 4000000
open Go.CallsIn renaming mono → jqa
open Go.RowKit.Below renaming refl → jqb
open Nat renaming le_refl → jqc
open Go.Region renaming ready → jqd, wanted → jqf
open Go.Act renaming put_comm → jqe
open List renaming setIfInBounds_toArray → jqg, set_cons_succ → jqh, set_cons_zero → jqi, length_map → jqj, drop_eq_getElem_cons → jqk
namespace Go.Proofs.YtbbanmifdbeneaaDoor
open Go.RowKit
def cmpS (a b:Int):Int:=if a<b then -1 else if b<a then 1 else 0
def zbR:List Int→List Int→Int
 | [],[]=>0
 | [],_ :: _=>-1
 | _ :: _,[]=>1
 | x :: l,y :: m=>if cmpS x y≠0 then cmpS x y else zbR l m
theorem zo1 (a b:Int) (w:World):CallsIn FL 0 Tryd.prog 70 #[num a,num b] w fun e w'=>e=.returned (num (cmpS a b))∧w'=w:=by
 have k115:∀ (x:Int) (w1:World),CallsIn FL 0 Tryd.prog 74 #[num x] w1 fun e w'=>e=.returned (.bool false)∧w'=w1:=by
  intro x w1;gi_enter Tryd.func74,Tryd.ntmps74;gi_wp2;go_ret;exact⟨by simp,rfl⟩
 gi_enter Tryd.func70,Tryd.ntmps70;by_cases h1:a<b
 ·gi_wp2_with (first | (gi_at_call 74;refine jqa (k115 _ _) ?_;rintro e w1 ⟨rfl,rfl⟩) | gi_in)
  go_ret;exact⟨by unfold cmpS;rw [if_pos h1];rfl,rfl⟩
 ·by_cases h2:b<a
  ·gi_wp2_with (first | (gi_at_call 74;refine jqa (k115 _ _) ?_;rintro e w1 ⟨rfl,rfl⟩) | gi_in)
   go_ret;exact⟨by unfold cmpS;rw [if_neg (by omega),if_pos (by omega)];rfl,rfl⟩
  ·gi_wp2_with (first | (gi_at_call 74;refine jqa (k115 _ _) ?_;rintro e w1 ⟨rfl,rfl⟩) | gi_in)
   go_ret;exact⟨by unfold cmpS;rw [if_neg (by omega),if_neg (by omega)];rfl,rfl⟩
theorem zjf (u v:Value) (l m:List Int) (w:World) (hu:Sl w u 1 (l.map fun x=>[num x])) (hv:Sl w v 1 (m.map fun x=>[num x])) (hl:l.length≤1000) (hm:m.length≤1000) :
  CallsIn FL 0 Tryd.prog 58 #[u,v] w fun e w'=>e=.returned (num (zbR l m))∧w'=w:=by
 obtain⟨a,cap,rfl⟩:=hu.cases;obtain⟨a',cap',rfl⟩:=hv.cases;rw [jqj] at hu hv ⊢;rw [jqj];gi_enter Tryd.func58,Tryd.ntmps58;gi_wp2
 gi_loopw [11] (fun i wr=>∃ k:Nat,k≤l.length∧k≤m.length∧i=num k∧zbR l m=zbR (l.drop k) (m.drop k)∧wr=w) (fun i _=>l.length-(intOf i).toNat)
 case atStart=>exact⟨0,Nat.zero_le _,Nat.zero_le _,rfl,rfl,rfl⟩
 case round =>
  obtain⟨k,hk,hk2,rfl,he,rfl⟩:=hrel;by_cases hlt:k<l.length
  ·obtain⟨b,off,ha,hbl,hcl⟩:=hu.get (by simp;omega)
   subst ha;have hx:l[k]?=some l[k]:=List.getElem?_eq_getElem hlt;have hdl:=jqk hlt;generalize hxk:l[k]=x at hx hdl;have g1:=Sl.one hcl hx;by_cases hlt2:k<m.length
   ·obtain⟨b',off',ha',hbl',hcl'⟩:=hv.get (by simp;omega)
    subst ha';have hy:m[k]?=some m[k]:=List.getElem?_eq_getElem hlt2;have hdm:=jqk hlt2;generalize hyk:m[k]=y at hy hdm;have g2:=Sl.one hcl' hy;rw [hdl,hdm,zbR] at he;have HE:=Lib.hid he;have kc:=zo1 x y wr;clear hcl hcl' hu hv he hdl hdm hx hy hxk hyk;generalize cmpS x y=c at kc HE;by_cases hc:c=0
    ·have HE2:Hid (zbR l m=zbR (l.drop (k+1)) (m.drop (k+1))):=by show _=_;rw [HE.out,if_neg (by simp [hc])]
     have hb:(c != 0)=false:=by simpa using hc
     clear HE hc
     gi_wp2_with (first | (gi_at_call 70;refine jqa kc ?_;rintro e w1 ⟨rfl,rfl⟩) | gi_in)
     exact⟨⟨k+1,hlt,hlt2,by simp,HE2.out,trivial⟩,by simp [intOf];omega⟩
    ·have HE2:Hid (zbR l m=c):=by show _=_;rw [HE.out,if_pos hc]
     have hb:(c != 0)=true:=by simpa using hc
     clear HE hc
     gi_wp2_with (first | (gi_at_call 70;refine jqa kc ?_;rintro e w1 ⟨rfl,rfl⟩) | gi_in)
     go_ret;exact⟨by rw [HE2.out];rfl,rfl⟩
   ·obtain rfl:k=m.length:=by omega
    have HE:Hid (zbR l m=1):=by show _=_;rw [he,hdl,List.drop_length];rfl
    clear hcl hu hv he hdl hx hxk;gi_wp2;go_ret;exact⟨by rw [HE.out];rfl,rfl⟩
  ·obtain rfl:k=l.length:=by omega
   clear hu hv;by_cases hlm:l.length<m.length
   ·have HE:Hid (zbR l m=-1):=by
     show _=_;rw [he,List.drop_length,jqk hlm];rfl
    clear he;gi_wp2;go_ret;exact⟨by rw [HE.out];rfl,rfl⟩
   ·have HE:Hid (zbR l m=0):=by
     show _=_;rw [he,List.drop_length,List.drop_of_length_le (by omega)];rfl
    clear he;gi_wp2;go_ret;exact⟨by rw [HE.out];rfl,rfl⟩
structure Choice where
 plots:List Int
 hours:Int
 worth:Int
def Choice.better (c o:Choice):Bool:=if c.worth≠o.worth then decide (o.worth<c.worth) else if c.hours≠o.hours then decide (c.hours<o.hours) else decide (zbR c.plots o.plots<0)
theorem zlk (u v:Value) (c o:Choice) (w:World) (hu:Sl w u 1 (c.plots.map fun x=>[num x])) (hv:Sl w v 1 (o.plots.map fun x=>[num x])) (hl:c.plots.length≤1000) (hm:o.plots.length≤1000) :
  CallsIn FL 0 Tryd.prog 37 #[.agg #[u,num c.hours,num c.worth],.agg #[v,num o.hours,num o.worth]] w fun e w'=>e=.returned (.bool (c.better o))∧Nx w w':=by
 obtain⟨l,x,y⟩:=c;obtain⟨m,x',y'⟩:=o;dsimp only at hu hv hl hm ⊢;obtain⟨a,cap,rfl⟩:=hu.cases;obtain⟨a',cap',rfl⟩:=hv.cases;rw [jqj] at hu hv ⊢;rw [jqj];have nW:Nx w ((w.alloc (.cells #[.slice a l.length cap,num x,num y] 84)).alloc (.cells #[.slice a' m.length cap',num x',num y'] 84)):=((jqb _ _).alloc (jqc _) _).alloc (by simp) _;have kc:=zjf _ _ l m _ (hu.nx nW) (hv.nx nW) hl hm;have HB:Hid (Choice.better ⟨l,x,y⟩ ⟨m,x',y'⟩=if y≠y' then decide (y' < y) else if x≠x' then decide (x<x') else decide (zbR l m<0)):=rfl;clear hu hv;gi_enter Tryd.func37,Tryd.ntmps37;by_cases h1:y=y'
 ·subst h1
  by_cases h2:x=x'
  ·subst h2
   gi_wp2_with (first | (gi_at_call 58;refine jqa kc ?_;rintro e w1 ⟨rfl,rfl⟩) | gi_in)
   go_ret;exact⟨by rw [HB.out];simp,nW⟩
  ·have hb:(x != x')=true:=by simpa using h2
   gi_wp2;go_ret;exact⟨by rw [HB.out];simp [h2],nW⟩
 ·have hb:(y != y')=true:=by simpa using h1
  gi_wp2;go_ret;exact⟨by rw [HB.out];simp [h1],nW⟩
end Go.Proofs.YtbbanmifdbeneaaDoor
namespace Go
section
variable {F:Fence} {n:Nat} {P:Program} {ops:Array Oper} {md:Region.Mode} {C:World→Prop} {Q:Exit→Act→World→Prop}
def wpAnyC (F:Fence) (n:Nat) (P:Program) (md:Region.Mode) (ops:Array Oper) (C:World→Prop) (Q:Exit→Act→World→Prop):Nat→Array Bool→Act→World→Prop
 | 0,listed,a,w=>C w∧jqd md ops listed=[]∧Q .normal a w
 | f+1,listed,a,w=>C w∧(jqd md ops listed=[]→Q .normal a w)∧∀ i∈jqd md ops listed,wpOpIn F n P ops Q i (wpAnyC F n P md ops C Q f (listed.setIfInBounds i true)) a w
theorem wpAnyC.class:∀ {f:Nat} {listed:Array Bool} {a:Act} {w:World},wpAnyC F n P md ops C Q f listed a w→C w
 | 0,_,_,_,h=>h.1
 | _+1,_,_,_,h=>h.1
theorem zfG:∀ (f:Nat) (listed:Array Bool) (a:Act) (w:World),wpAnyC F n P md ops C Q f listed a w→wpAnyIn F n P md ops Q f listed a w
 | 0,_,_,_,h=>h.2
 | f+1,_,_,_,h=>⟨h.2.1,fun i hi=>wpOpIn_mono (fun a' w' h'=>zfG f _ a' w' h') (h.2.2 i hi)⟩
def YieldsC (F:Fence) (n:Nat) (P:Program) (ops:Array Oper) (C:World→Prop) (o:Oper) (v:Value) (a:Act):Prop :=
 o.askedIn F P a C∧((jqf o (yielded ops a.tmps)=true∧∀ w,C w→o.quietAtIn F n P a (fun w'=>w'=w) w v)∨(jqf o (yielded ops a.tmps)=false∧v=undef))
theorem YieldsC.of_same {o:Oper} {v:Value} {a a' : Act} (hy:YieldsC F n P ops C o v a) (he:execOp a'.eval o=execOp a.eval o)
  (hw:jqf o (yielded ops a'.tmps)=jqf o (yielded ops a.tmps)) (hb:∀ w,o.about P w a'.eval=o.about P w a.eval):YieldsC F n P ops C o v a':=by
 unfold YieldsC Oper.quietAtIn Oper.askedIn at *;rw [he,hw];exact⟨fun w hc f hf=>hy.1 w hc f (by rw [← hb w];exact hf),hy.2⟩
theorem YieldsC.wpOpIn {i:Nat} {o:Oper} {v:Value} {a:Act} (hro:∀ e,Oper.semAt F.round e o=execOp e o) (hi:ops[i]?=some o) (hy:YieldsC F n P ops C o v a) {K:Act→World→Prop} {w:World} (hC:C w) (h:K (a.put o.dst v) w) :
  wpOpIn F n P ops Q i K a w:=by
 unfold Go.wpOpIn;simp only [hi];rcases hy.2 with ⟨hw,hv⟩ | ⟨hw,rfl⟩
 ·simp only [hw,if_true]
  have h3:=hv w hC;unfold Oper.quietAtIn at h3;unfold Oper.wpIn;refine⟨hy.1 w hC,?_⟩;rw [hro];generalize (execOp a.eval o).run P w=r at *
  cases r with
  | ok x w' =>
   cases x<;>simp only [Oper.quietUponIn] at h3<;>simp only [Oper.uponIn]
   case value u=>obtain⟨e1,e2⟩:=h3;rw [e1,e2];exact h
   case skip=>obtain⟨e1,e2⟩:=h3;rw [e1,← e2];exact h
   case enter f args =>
    obtain⟨e1,hd,hc⟩:=h3;rw [e1];exact⟨hd,hc.mono fun e w'' ⟨he,hw''⟩=>by subst he;rw [hw''];exact h⟩
  | halt x w'=>simp only [Oper.quietUponIn] at h3
 ·simp only [hw,Bool.false_eq_true,if_false];exact⟨hy.1 w hC,h⟩
theorem zjP {j:Nat} {oi oj:Oper} {v:Value} (hro:∀ e,Oper.semAt F.round e oj=execOp e oj) (hj:ops[j]?=some oj) (hap:oi.apart ops oj=true)
  (hsi:∀ cs b,oi.op≠.select cs b) (hsj:∀ cs b,oj.op≠.select cs b)
  (hQ:∀ c a w,Q (.panic c) (a.put oi.dst v) w→Q (.panic c) a w) {K:Act→World→Prop} {a:Act} {w:World}
  (hy:YieldsC F n P ops C oi v a) (h:wpOpIn F n P ops Q j K (a.put oi.dst v) w) :
  wpOpIn F n P ops Q j (fun a' w'=>YieldsC F n P ops C oi v a'∧K (a'.put oi.dst v) w') a w:=by
 obtain⟨h1,h2,h3⟩:=Oper.apart_spec hap;have keep:∀ (a:Act),YieldsC F n P ops C oi v a→∀ u,YieldsC F n P ops C oi v (a.put oj.dst u):=fun a hy u =>
  hy.of_same (execOp_put oi hsi a oj.dst u h3) (wanted_put oi a oj.dst u h3) (fun w=>about_put oi w a oj.dst u h3)
 have keepD:∀ d,YieldsC F n P ops C oi v { a with defers:=d :: a.defers }:=fun d=>hy.of_same rfl rfl (fun _=>rfl);unfold wpOpIn at *;simp only [hj] at *;rw [wanted_put oj a oi.dst v h1,about_put oj w a oi.dst v h1] at h;split
 ·rename_i hw
  simp only [hw,if_true] at h;unfold Oper.wpIn at *;rw [about_put oj w a oi.dst v h1] at h;refine⟨h.1,?_⟩;have h:=h.2;rw [hro,execOp_put oj hsj a oi.dst v h1] at h;rw [hro];generalize (execOp a.eval oj).run P w=r at *
  cases r with
  | ok x w' =>
   cases x<;>simp only [Oper.uponIn] at h ⊢
   case value u=>exact⟨keep a hy u,by rw [← jqe a v u h2];exact h⟩
   case skip=>exact⟨keep a hy _,by rw [← jqe a v undef h2];exact h⟩
   case defer d =>
    refine⟨keep _ (keepD d) _,?_⟩;rw [← jqe _ v undef h2,← Act.put_defers];exact h
   case enter f args =>
    refine⟨h.1,jqa h.2 fun e w'' he=>?_⟩
    cases e with
    | returned u=>exact⟨keep a hy u,by rw [← jqe a v u h2];exact he⟩
    | panicked c=>exact hQ _ _ _ he
    | outgrown=>exact he
   case row row args=>exact⟨h.1,RowsIn.mono h.2 fun u w'' he=>⟨keep a hy u,by rw [← jqe a v u h2];exact he⟩⟩
   case round l f tmps assign body =>
    refine⟨h.1,RoundIn.mono h.2 fun e w'' he=>?_⟩
    cases e with
    | returned u=>exact⟨keep a hy u,by rw [← jqe a v u h2];exact he⟩
    | panicked c=>exact hQ _ _ _ he
    | outgrown=>exact he
  | halt x w' =>
   cases x<;>simp only [Oper.uponIn] at h ⊢
   case panic u=>exact hQ _ _ _ h
 ·rename_i hw
  simp only [hw] at h;exact⟨h.1,keep a hy _,by rw [← jqe a v undef h2];exact h.2⟩
theorem zfD {i:Nat} {oi:Oper} {v:Value} (hro:∀ (j:Nat) (o:Oper),ops[j]?=some o→∀ e,Oper.semAt F.round e o=execOp e o) (hi:ops[i]?=some oi) (hsel:∀ (j:Nat) (o:Oper) cs b,ops[j]?=some o→o.op≠.select cs b)
  (hQ:∀ c a w,Q (.panic c) (a.put oi.dst v) w→Q (.panic c) a w) :
  ∀ (fuel:Nat) (listed:Array Bool) (a:Act) (w:World),
   (∀ j oj,ops[j]?=some oj→j≠i→listed.getD j true=false→(∀ e∈oj.after,Region.binds md e=true→e.on≠i)→oi.apart ops oj=true) →
   i∈jqd md ops listed→YieldsC F n P ops C oi v a →
   wpAnyC F n P md ops C Q fuel (listed.setIfInBounds i true) (a.put oi.dst v) w→wpAnyC F n P md ops C Q (fuel+1) listed a w:=by
 intro fuel
 induction fuel with
 | zero =>
  intro listed a w _ hr hy H;refine⟨H.1,fun h=>(by rw [h] at hr;cases hr),fun j hj=>?_⟩;by_cases hji:j=i
  ·subst hji;exact hy.wpOpIn (hro _ _ hi) hi H.1 H
  ·have:=ready_mono hj hji
   rw [H.2.1] at this;cases this
 | succ fuel ih =>
  intro listed a w hfree hr hy H;refine⟨H.1,fun h=>(by rw [h] at hr;cases hr),fun j hj=>?_⟩;by_cases hji:j=i
  ·subst hji;exact hy.wpOpIn (hro _ _ hi) hi H.1 H
  ·have h1:=H.2.2 j (ready_mono hj hji)
   obtain⟨hjun,oj,hoj,hall⟩:=mem_ready.1 hj;have hnot:∀ e∈oj.after,Region.binds md e=true→e.on≠i:=fun e he hb heq=>by
    have h1:=hall e he hb;have h0:=(mem_ready.1 hr).1;rw [heq] at h1;rcases Nat.lt_or_ge i listed.size with h' | h'
    ·simp [h'] at h0 h1;rw [h0] at h1;cases h1
    ·simp [Array.getElem?_eq_none h'] at h1
   have h2:=zjP (hro _ _ hoj) hoj (hfree j oj hoj hji hjun hnot) (fun cs b=>hsel i oi cs b hi) (fun cs b=>hsel j oj cs b hoj) hQ hy h1;have hfree' : ∀ k ok,ops[k]?=some ok→k≠i→(listed.setIfInBounds j true).getD k true=false →
     (∀ e∈ok.after,Region.binds md e=true→e.on≠i)→oi.apart ops ok=true:=fun k ok hk hki hun hno=>by
    refine hfree k ok hk hki ?_ hno;by_cases hjk:j=k
    ·subst hjk;exact hjun
    ·rw [getD_set_ne true hjk] at hun;exact hun
   refine wpOpIn_mono (fun a' w' h3=>ih (listed.setIfInBounds j true) a' w' hfree' (ready_mono hr (Ne.symm hji)) h3.1 ?_) h2;rw [Array.setIfInBounds_comm _ _ hji];exact h3.2
theorem zaj (h:ops.all (fun o=>match o.op with | .defer _=>false | _=>true)=true):∀ (j:Nat) (o:Oper),ops[j]?=some o→∀ e,Oper.semAt F.round e o=execOp e o:=fun j o ho e =>
 Oper.semAt_eq _ _ _ fun c hc=>by
  have:=Array.all_eq_true_iff_forall_mem.1 h o (Array.mem_of_getElem? ho);rw [hc] at this;cases this
theorem zah {i:Nat} {oi:Oper} {v:Value} {fuel:Nat} {listed:Array Bool} {a:Act} {w:World} (hro:∀ (j:Nat) (o:Oper),ops[j]?=some o→∀ e,Oper.semAt F.round e o=execOp e o) (hi:ops[i]?=some oi)
  (hs:Region.noSelect ops=true) (hf:Region.free md ops listed i=true) (hr:(jqd md ops listed).contains i=true)
  (hQ:∀ c a w,Q (.panic c) (a.put oi.dst v) w→Q (.panic c) a w) (hy:YieldsC F n P ops C oi v a)
  (h:wpAnyC F n P md ops C Q fuel (listed.setIfInBounds i true) (a.put oi.dst v) w):wpAnyC F n P md ops C Q (fuel+1) listed a w :=
 zfD hro hi (Region.noSelect_spec hs) hQ fuel listed a w (Region.free_spec hi hf) (by simpa using hr) hy h
theorem zat {i:Nat} {oi:Oper} {v:Value} {fuel:Nat} {listed:Array Bool} {a:Act} {w:World} (hro:F.round=none) (hi:ops[i]?=some oi)
  (hs:Region.noSelect ops=true) (hf:Region.free md ops listed i=true) (hr:(jqd md ops listed).contains i=true)
  (hQ:∀ c a w,Q (.panic c) (a.put oi.dst v) w→Q (.panic c) a w) (hy:YieldsC F n P ops C oi v a)
  (h:wpAnyC F n P md ops C Q fuel (listed.setIfInBounds i true) (a.put oi.dst v) w):wpAnyC F n P md ops C Q (fuel+1) listed a w :=
 zfD (fun _ _ _ e=>by rw [hro,Oper.semAt_none]) hi (Region.noSelect_spec hs) hQ fuel listed a w (Region.free_spec hi hf) (by simpa using hr) hy h
theorem zau {i:Nat} {o:Oper} {fuel:Nat} {listed:Array Bool} {a:Act} {w:World} (hr:jqd md ops listed=[i]) (ho:ops[i]?=some o) (hw:jqf o (yielded ops a.tmps)=true) (hC:C w)
  (h:∀ K:Act→World→Prop,(∀ a w,wpAnyC F n P md ops C Q fuel (listed.setIfInBounds i true) a w→K a w)→o.wpIn F n P a w K Q):wpAnyC F n P md ops C Q (fuel+1) listed a w:=by
 refine⟨hC,fun h0=>(by rw [hr] at h0;cases h0),fun j hj=>?_⟩;rw [hr] at hj;have:j=i:=by simpa using hj
 subst this;unfold wpOpIn;simp only [ho,hw,if_true];exact h _ fun _ _ h=>h
theorem zbk {fuel:Nat} {listed:Array Bool} {a:Act} {w:World} (hr:jqd md ops listed=[]) (hC:C w) (h:Q .normal a w):wpAnyC F n P md ops C Q fuel listed a w:=by
 cases fuel with
 | zero=>exact⟨hC,hr,h⟩
 | succ f=>exact⟨hC,fun _=>h,by rw [hr];simp⟩
theorem zbg {id:Nat} {a:Act} {w:World} (C:World→Prop) (hm:P.follows .mixedOrders=true) (h:wpAnyC F n P .any ops C Q ops.size (Array.replicate ops.size false) a { w with drawn:=w.drawn+1 }):(Code.region id ops true).wpIn F n P Q a w :=
 wpIn_region_any hm (zfG _ _ _ _ h)
end
end Go
namespace Go.Proofs.YtbbanmifdbeneaaDoor
open Go.RowKit
def PlS (w:World) (v:Value) (l:List Int):Prop:=(l=[]∧v=.slice none 0 0)∨∃ b cap,v=.slice (some ⟨b,0,none⟩) l.length cap∧b<w.heap.size∧l.length≤cap∧∀ j x,l[j]?=some x→w.cell? ⟨b,j,none⟩=some (num x)
theorem PlS.sl {w:World} {v:Value} {l:List Int} (h:PlS w v l):Sl w v 1 (l.map fun x=>[num x]):=by
 rcases h with ⟨rfl,rfl⟩ | ⟨b,cap,rfl,hb,_,hc⟩
 ·exact⟨0,.inl ⟨rfl,rfl⟩⟩
 ·exact zku hb hc
theorem PlS.keep {w w' : World} {v:Value} {l:List Int} (h:PlS w v l) (hs:w.heap.size≤w'.heap.size) (hk:∀ b cap,v=.slice (some ⟨b,0,none⟩) l.length cap→w'.heap[b]?=w.heap[b]?):PlS w' v l:=by
 rcases h with h | ⟨b,cap,rfl,hb,hn,hc⟩
 ·exact .inl h
 ·refine .inr ⟨b,cap,rfl,by omega,hn,fun j x hj=>?_⟩
  rw [zbC (hk b cap rfl)];exact hc j x hj
theorem PlS.nx {w w' : World} {v:Value} {l:List Int} (h:PlS w v l) (n:Nx w w'):PlS w' v l:=by
 rcases h with h | ⟨b,cap,rfl,hb,hn,hc⟩
 ·exact .inl h
 ·exact .inr ⟨b,cap,rfl,Nat.lt_of_lt_of_le hb n.size,hn,fun j x hj=>(n.cell (p:=⟨b,j,none⟩) (by exact hb)).trans (hc j x hj)⟩
def zof:Value→Value
 | .slice (some a) n _=>.slice (some a) n n
 | v=>v
theorem zop (v:Value) (l:List Int) (w:World) (h:PlS w v l) (hl:l.length≤1000):CallsIn FL 0 Tryd.prog 39 #[v] w fun e w'=>e=.returned (zof v)∧w'=w:=by
 rcases h with ⟨rfl,rfl⟩ | ⟨b,cap,rfl,hb,hn,hc⟩
 ·gi_enter Tryd.func39,Tryd.ntmps39
  gi_wp2;go_ret;exact⟨rfl,rfl⟩
 ·clear hc
  gi_enter Tryd.func39,Tryd.ntmps39;gi_wp2;go_ret;exact⟨rfl,rfl⟩
theorem zg1 (v:Value) (l:List Int) (w:World) (h:PlS w v l) (hl:l.length≤1000) (a:Addr) (x:Int) (hx:w.cell? a=some (num x)) :
  ∃ g cap w',(Builtin.append_ #[48,48] 48 #[zof v,.slice (some a) 1 1]).run Tryd.prog w=.ok (.slice (some ⟨g,0,none⟩) (l.length+1) cap) w'∧PlS w' (.slice (some ⟨g,0,none⟩) (l.length+1) cap) (l++[x])∧Nx w w'∧w.heap.size≤g:=by
 obtain⟨i,hi,hz,h1,h2⟩:=zdZ;have hnews:∀ j u,[num x][j]?=some u→w.cell? (a.add j)=some u:=by
  intro j u hj
  cases j with
  | zero=>simp at hj;subst hj;exact hx
  | succ j=>simp at hj
 rcases h with ⟨rfl,rfl⟩ | ⟨b,cap,rfl,hb,hn,hc⟩
 ·have hr:=run_append_nil (P:=Tryd.prog) w 48 48 3 i (num 0) Tryd.underlying48 hi hz a 1 1 [num x] (by rw [h1];rfl) hnews (by omega) (by omega) (by rw [h2];omega)
  refine⟨_,_,_,hr,.inr ⟨_,_,rfl,by simp,?_,fun j y hj=>?_⟩,(Below.drew (jqb _ _)).alloc (jqc _) _,jqc _⟩
  ·exact grownCap_ge w 1 0 3
  ·cases j with
   | zero=>simp at hj;subst hj;exact zaw w.drew _ _ _ _ (by rw [Array.getElem?_append_left (by simp)];rfl)
   | succ j=>simp at hj
 ·have holds:∀ j u,(l.map num)[j]?=some u→w.cell? ((⟨b,0,none⟩:Addr).add j)=some u:=by
   intro j u hj;rw [List.getElem?_map] at hj
   cases hlj:l[j]? with
   | none=>rw [hlj] at hj;cases hj
   | some y =>
    rw [hlj] at hj;simp only [Option.map_some,Option.some.injEq] at hj;subst hj;have:=hc j y hlj;by_cases hj0:j=0
    ·subst hj0;simpa [Addr.add] using this
    ·simpa [Addr.add,hj0] using this
  have hr:=run_append_grow (P:=Tryd.prog) w 48 48 3 i (num 0) Tryd.underlying48 hi hz ⟨b,0,none⟩ l.length l.length (l.map num) (by rw [h1];simp) holds a 1 1 [num x] (by rw [h1];rfl) hnews (by omega) (by omega) (growslice_fits (by omega) (by rw [h2];omega));refine⟨_,_,_,hr,.inr ⟨w.heap.size,grownCap w (l.length+1) l.length 3,by simp,by simp,?_,fun j y hj=>?_⟩,(Below.drew (jqb _ _)).alloc (jqc _) _,jqc _⟩
  ·simpa using grownCap_ge w (l.length+1) l.length 3
  ·refine zaw w.drew _ _ _ _ ?_
   have hlt:=(List.getElem?_eq_some_iff.1 hj).1;rw [Array.getElem?_append_left (by simpa using hlt)];have:((l.map num).toArray++[num x].toArray)[j]?=((l++[x]).map num)[j]?:=by simp
   rw [this,List.getElem?_map,hj];rfl
section
variable {F:Fence} {n:Nat} {ops:Array Oper} {C:World→Prop} {a:Act} {dst:Option Nat} {ty:TypeId} {pos:String} {af:Array Edge}
theorem zae {P:Program} {md:Region.Mode} {Q:Exit→Act→World→Prop} {f:Nat} {l l' : Array Bool} {w:World} (e:l=l') (h:wpAnyC F n P md ops C Q f l' a w):wpAnyC F n P md ops C Q f l a w:=e ▸ h
theorem yC {o:Oper} {v:Value} (hg:o.guard=none) (hab:∀ x,o.about Tryd.prog x a.eval=none) (h:∀ x,C x→(execOp a.eval o).run Tryd.prog x=.ok (.value v) x):YieldsC F n Tryd.prog ops C o v a:=by
 refine⟨fun x _ f hf=>by (rw [hab x] at hf;cases hf),.inl ⟨by simp [jqf,hg],fun x hx=>?_⟩⟩;unfold Oper.quietAtIn;rw [h x hx];exact⟨rfl,rfl⟩
theorem zaN {s:Nat} {v:Value} (h:a.eval (.tmp s)=v):YieldsC F n Tryd.prog ops C ⟨dst,.move (.tmp s),ty,pos,af,none⟩ v a :=
 yC rfl (fun _=>rfl) fun x _=>by rw [BigFrame.run_move (.tmp s) rfl,h]
theorem zdq {s:Nat} {p:Addr} {v:Value} (h:a.eval (.tmp s)=.pointer (some p)) (hc:∀ x,C x→x.cell? p=some v):YieldsC F n Tryd.prog ops C ⟨dst,.load 3 (.tmp s),ty,pos,af,none⟩ v a :=
 yC rfl (fun _=>rfl) fun x hx=>by have:=hc x hx;generalize a.eval=ρ at h ⊢;simp [execOp,go_sem,h,this]
theorem zna {s:Nat} {p:Addr} {v:Value} (h:a.eval (.tmp s)=.pointer (some p)) (hc:∀ x,C x→x.cell? p=some v):YieldsC F n Tryd.prog ops C ⟨dst,.load 48 (.tmp s),ty,pos,af,none⟩ v a :=
 yC rfl (fun _=>rfl) fun x hx=>by have:=hc x hx;generalize a.eval=ρ at h ⊢;simp [execOp,go_sem,h,this]
theorem zma {s:Nat} {p:Addr} {v:Value} (h:a.eval (.tmp s)=.pointer (some p)) (hc:∀ x,C x→x.cell? p=some v):YieldsC F n Tryd.prog ops C ⟨dst,.load 29 (.tmp s),ty,pos,af,none⟩ v a :=
 yC rfl (fun _=>rfl) fun x hx=>by have:=hc x hx;generalize a.eval=ρ at h ⊢;simp [execOp,go_sem,h,this]
theorem zlh {s:Nat} {p:Addr} {v:Value} (h:a.eval (.tmp s)=.pointer (some p)) (hc:∀ x,C x→x.cell? p=some v):YieldsC F n Tryd.prog ops C ⟨dst,.load 85 (.tmp s),ty,pos,af,none⟩ v a :=
 yC rfl (fun _=>rfl) fun x hx=>by have:=hc x hx;generalize a.eval=ρ at h ⊢;simp [execOp,go_sem,h,this]
theorem zkS {s B:Nat} (h:a.eval (.tmp s)=.pointer (some ⟨B,0,none⟩)):YieldsC F n Tryd.prog ops C ⟨dst,.fieldAddr 84 (.tmp s) 0,ty,pos,af,none⟩ (.pointer (some ⟨B,0,none⟩)) a :=
 yC rfl (fun _=>rfl) fun x _=>by generalize a.eval=ρ at h ⊢;simp [execOp,go_sem,h]
theorem zln {s B:Nat} (h:a.eval (.tmp s)=.pointer (some ⟨B,0,none⟩)):YieldsC F n Tryd.prog ops C ⟨dst,.fieldAddr 84 (.tmp s) 1,ty,pos,af,none⟩ (.pointer (some ⟨B,1,none⟩)) a :=
 yC rfl (fun _=>rfl) fun x _=>by generalize a.eval=ρ at h ⊢;simp [execOp,go_sem,h]
theorem zk1 {s B:Nat} (h:a.eval (.tmp s)=.pointer (some ⟨B,0,none⟩)):YieldsC F n Tryd.prog ops C ⟨dst,.fieldAddr 84 (.tmp s) 2,ty,pos,af,none⟩ (.pointer (some ⟨B,2,none⟩)) a :=
 yC rfl (fun _=>rfl) fun x _=>by generalize a.eval=ρ at h ⊢;simp [execOp,go_sem,h]
theorem zoO {s B:Nat} (h:a.eval (.tmp s)=.pointer (some ⟨B,0,none⟩)):YieldsC F n Tryd.prog ops C ⟨dst,.fieldAddr 31 (.tmp s) 11,ty,pos,af,none⟩ (.pointer (some ⟨B,13,none⟩)) a :=
 yC rfl (fun _=>rfl) fun x _=>by generalize a.eval=ρ at h ⊢;simp [execOp,go_sem,h]
theorem zpm {s B o:Nat} (h:a.eval (.tmp s)=.pointer (some ⟨B,o,none⟩)):YieldsC F n Tryd.prog ops C ⟨dst,.fieldAddr 55 (.tmp s) 4,ty,pos,af,none⟩ (.pointer (some ⟨B,o+5,none⟩)) a :=
 yC rfl (fun _=>rfl) fun x _=>by generalize a.eval=ρ at h ⊢;simp [execOp,go_sem,h]
theorem zkV {s i B o m cap j:Nat} (h:a.eval (.tmp s)=.slice (some ⟨B,o,none⟩) m cap) (hi:a.eval (.tmp i)=num j) (hj:j<m):YieldsC F n Tryd.prog ops C ⟨dst,.indexAddr 29 (.tmp s) (.tmp i),ty,pos,af,none⟩ (.pointer (some ⟨B,o+j * 6,none⟩)) a :=
 yC rfl (fun _=>rfl) fun x _=>by generalize a.eval=ρ at h hi ⊢;simp [execOp,go_sem,h,hi,hj]
theorem zkA {s i:Nat} {x y:Int} (h:a.eval (.tmp s)=num x) (hi:a.eval (.tmp i)=num y) (hb : -9223372036854775808≤x+y∧x+y≤9223372036854775807):YieldsC F n Tryd.prog ops C ⟨dst,.binOp .add 3 (.tmp s) (.tmp i) 3,ty,pos,af,none⟩ (num (x+y)) a :=
 yC rfl (fun _=>rfl) fun w _=>by
  have:=zcO hb;generalize a.eval=ρ at h hi ⊢;simp [execOp,go_sem,h,hi];exact IntWalk.i64_in _ hb
theorem zpD {s:Nat} {x:Int} (h:a.eval (.tmp s)=num x) (hb : -9223372036854775808≤x+1∧x+1≤9223372036854775807):YieldsC F n Tryd.prog ops C ⟨dst,.binOp .add 3 (.tmp s) (.const (.int .i64 1)) 3,ty,pos,af,none⟩ (num (x+1)) a :=
 yC rfl (fun _=>rfl) fun w _=>by
  have:=zcO hb;have hk:a.eval (.const (.int .i64 1))=.int .i64 1:=rfl;generalize a.eval=ρ at h hk ⊢;simp [execOp,go_sem,h,hk];exact IntWalk.i64_in _ hb
theorem zpC {s:Nat} {v:Value} {l:List Int} (h:a.eval (.tmp s)=v) (hv:∀ x,C x→PlS x v l) (hl:l.length≤1000):YieldsC FL 0 Tryd.prog ops C ⟨dst,.call { callee:=.value (.func 39),args:=#[.tmp s],argTypes:=#[48] },ty,pos,af,none⟩ (zof v) a:=by
 refine⟨fun x _ f hf=>?_,.inl ⟨rfl,fun x hx=>?_⟩⟩
 ·have:some 39=some f:=hf
  cases this
  show 39∈LF
  decide
 ·have hc:=zop v l x (hv x hx) hl
  unfold Oper.quietAtIn;have hr:(execOp a.eval ({ dst:=dst,op:=.call { callee:=.value (.func 39),args:=#[.tmp s],argTypes:=#[48] },type:=ty,pos:=pos,after:=af,guard:=none }:Oper)).run Tryd.prog x=.ok (.enter 39 #[v]) x:=by
   have hk:a.eval (.func 39)=.func (.func 39) #[] #[]:=rfl;generalize a.eval=ρ at h hk ⊢;simp [execOp,go_sem,h,hk]
  rw [hr];exact⟨rfl,(fun h=>by cases h),hc⟩
end
end Go.Proofs.YtbbanmifdbeneaaDoor
namespace Go.Proofs.YtbbanmifdbeneaaDoor
open Go.RowKit Go.Shelf
attribute [local go_sem] Oper.semAt_some
theorem zno (h a b c:Int) (w:World):CallsIn FL 0 Tryd.prog 72 #[.agg #[num h,num a,num b],num c] w fun e w'=>e=.returned (.func (.func 75) #[] #[.pointer (some ⟨w.heap.size,0,none⟩),.pointer (some ⟨w.heap.size+1,0,none⟩)])∧w'=(w.alloc (.cells #[num h,num a,num b] 99)).alloc (.cells #[num c] 3):=by
 gi_enter Tryd.func72,Tryd.ntmps72;gi_wp2;go_ret;exact⟨by simp,rfl⟩
section
variable {F:Fence} {n:Nat} {ops:Array Oper} {C:World→Prop} {a:Act} {dst:Option Nat} {ty:TypeId} {pos:String} {af:Array Edge}
theorem zg9 {s:Nat} {p:Addr} {v:Value} (h:a.eval (.tmp s)=.pointer (some p)) (hc:∀ x,C x→x.cell? p=some v):YieldsC F n Tryd.prog ops C ⟨dst,.load 77 (.tmp s),ty,pos,af,none⟩ v a :=
 yC rfl (fun _=>rfl) fun x hx=>by have:=hc x hx;generalize a.eval=ρ at h ⊢;simp [execOp,go_sem,h,this]
theorem zmZ {s B:Nat} (h:a.eval (.tmp s)=.pointer (some ⟨B,0,none⟩)):YieldsC F n Tryd.prog ops C ⟨dst,.fieldAddr 99 (.tmp s) 0,ty,pos,af,none⟩ (.pointer (some ⟨B,0,none⟩)) a :=
 yC rfl (fun _=>rfl) fun x _=>by generalize a.eval=ρ at h ⊢;simp [execOp,go_sem,h]
theorem zqi {s i:Nat} {x y:Int} (h:a.eval (.tmp s)=num x) (hi:a.eval (.tmp i)=num y):YieldsC F n Tryd.prog ops C ⟨dst,.binOp .neq 3 (.tmp s) (.tmp i) 3,ty,pos,af,none⟩ (.bool (x != y)) a :=
 yC rfl (fun _=>rfl) fun w _=>by
  generalize a.eval=ρ at h hi ⊢;simp [execOp,go_sem,h,hi]
end
def Dit.out (d:Dit) (holder a b c:Int):Bool:=(ze1 (a+c) (b-a).toNat).any fun h=>decide ((d.owner h).1≠holder)
theorem zpd (B M:Nat) (d:Dit) (holder a b c:Int) (w:World) (hw:Wtr w B M d d.ends d.cyc d.keys d.oth) (hO:d.Ok) (hg:Glob1 w) (ha:0≤a∧a≤999999999) (hb:0≤b∧b≤999999999) (hc : -100≤c∧c≤100) (hab:a≤b) :
  CallsIn FL 0 Tryd.prog 65 #[.pointer (some ⟨B,0,none⟩),.agg #[num holder,num a,num b],num c] w fun e w'=>e=.returned (.bool (d.out holder a b c))∧Nx w w':=by
 apply anyN (n:=4);have k111:=fun m W1=>anyN (m:=m) (zno holder a b c W1);refine callsIn_of_wp_marks Tryd.func65 rfl (by simp [FL,LF,Fence.list]) ?_ rfl;simp only [Tryd.ntmps65,List.size_toArray,List.length_cons,List.length_nil,Nat.reduceAdd,Nat.reduceSub,Array.replicate_succ,Array.replicate_zero,List.push_toArray,List.append_toArray,List.nil_append,List.cons_append]
 gi_wp2_with (first
  | (gi_at_call 72;refine jqa (k111 _ _) ?_;rintro e w1 ⟨rfl,rfl⟩)
  | gi_in)
 obtain⟨Z,hZ⟩:∃ Z,Z=((((w.alloc (Obj.cells #[Value.pointer (some { block:=B,off:=0 })] 77)).alloc (Obj.cells #[num holder,num a,num b] 99)).alloc (Obj.cells #[Value.bool false] 4)).alloc (Obj.cells #[num holder,num a,num b] 99)).alloc (Obj.cells #[num c] 3):=⟨_,rfl⟩;rw [← hZ];have sZ:Z.heap.size=w.heap.size+5:=by rw [hZ];simp
 have nZ:Nx w Z:=by rw [hZ];exact zaG (zaG (zaG (zaG (zaG (jqb _ _) _) _) _) _) _
 have cl0:Z.cell? ⟨w.heap.size,0,none⟩=some (.pointer (some ⟨B,0,none⟩)):=by
  rw [hZ,zaH (by simp;omega),zaH (by simp;omega),zaH (by simp;omega),zaH (by simp)];exact zaA (by simp) rfl
 have cl1:Z.cell? ⟨w.heap.size+1,0,none⟩=some (num holder):=by
  rw [hZ,zaH (by simp),zaH (by simp),zaH (by simp)];exact zaA (by simp) rfl
 have cl2:Z.cell? ⟨w.heap.size+1+1,0,none⟩=some (.bool false):=by
  rw [hZ,zaH (by simp),zaH (by simp)];exact zaA (by simp) rfl
 have fl2:Z.frozen? ⟨w.heap.size+1+1,0,none⟩=false:=by
  rw [hZ,za3 (heap_alloc_old _ _ (by simp)),za3 (heap_alloc_old _ _ (by simp))];have h3:=heap_alloc_new ((w.alloc (Obj.cells #[Value.pointer (some { block:=B,off:=0 })] 77)).alloc (Obj.cells #[num holder,num a,num b] 99)) (.cells #[.bool false] 4);simp only [World.size_alloc] at h3;unfold World.frozen?;dsimp only;rw [h3];rfl
 have cl3:Z.cell? ⟨w.heap.size+1+1+1,1,none⟩=some (num a):=by
  rw [hZ,zaH (by simp)];exact zaA (by simp) rfl
 have cl4:Z.cell? ⟨w.heap.size+1+1+1,2,none⟩=some (num b):=by
  rw [hZ,zaH (by simp)];exact zaA (by simp) rfl
 have cl5:Z.cell? ⟨w.heap.size+1+1+1+1,0,none⟩=some (num c):=by
  rw [hZ];exact zaA (by simp) rfl
 clear hZ;have hwZ:=hw.nx nZ;have hgZ:=hg.nx nZ;have kc:∀ W,Below Z.heap.size Z W→W.cell? ⟨w.heap.size,0,none⟩=some (.pointer (some ⟨B,0,none⟩))∧W.cell? ⟨w.heap.size+1,0,none⟩=some (num holder)∧W.cell? ⟨w.heap.size+1+1,0,none⟩=some (.bool false)∧W.frozen? ⟨w.heap.size+1+1,0,none⟩=false :=
  fun W n=>⟨(n.cell (p:=⟨w.heap.size,0,none⟩) (by show _<_;simp only;omega)).trans cl0,(n.cell (p:=⟨w.heap.size+1,0,none⟩) (by show _<_;simp only;omega)).trans cl1,(n.cell (p:=⟨w.heap.size+1+1,0,none⟩) (by show _<_;simp only;omega)).trans cl2,(n.frozen (p:=⟨w.heap.size+1+1,0,none⟩) (by show _<_;simp only;omega)).trans fl2⟩
 refine wpIn_rangeFunc_ownF rfl (by omega:1≤4) (gf:=75) (lb:=#[.pointer (some ⟨w.heap.size+1+1+1,0,none⟩),.pointer (some ⟨w.heap.size+1+1+1+1,0,none⟩)]) rfl (by simp [FL,LF,Fence.list]) (enters_of Tryd.func75 (by kernel_rfl) rfl)
  (zjz 3 (by omega) _ _ a b c Z cl3 cl4 cl5 (by omega) (by omega) ha hb hc hab) belowK_t (belowK_b (jqc _)) (jqb _ _) (fun _=>rfl)
  (fun pre W=>Below Z.heap.size Z W∧∀ x∈pre,(d.owner x.1).1=holder)
  (fun c pre W=>c=.ret∧(∃ x∈pre,(d.owner x.1).1≠holder)∧Nx w W∧W.cell? ⟨w.heap.size+1+1,0,none⟩=some (.bool true)∧Z.heap.size≤W.heap.size)
  (fun s A B row hs hg hr=>⟨hs.1.trans ((jqb _ A).grown hg hs.1.size (fun r e=>(hr r e).1)),hs.2⟩)
  (fun c s A B row hs hg hr=>?_)
  ⟨jqb _ _,fun x hx=>(List.not_mem_nil hx).elim⟩
  (fun x=>{ tmps:=#[.pointer (some ⟨B,0,none⟩),.agg #[num holder,num a,num b],num c,.pointer (some ⟨w.heap.size,0,none⟩),.pointer (some ⟨w.heap.size+1,0,none⟩),undef,.pointer (some ⟨w.heap.size+1+1,0,none⟩),num x.1,.agg #[num holder,num a,num b],num c,
   .func (.func 75) #[] #[.pointer (some ⟨w.heap.size+1+1+1,0,none⟩),.pointer (some ⟨w.heap.size+1+1+1+1,0,none⟩)],num x.1,undef,undef,undef,undef,undef,undef,undef,undef],defers:=[] }) ?assign ?body ?done ?stop
 ·obtain⟨h1,h2,h3,h4,h5⟩:=hs
  have hb:=(jqb Z.heap.size A).grown hg h5 (fun r e=>(hr r e).1);exact⟨h1,h2,Below.trans h3 (hb.mono (by omega)),(hb.cell (p:=⟨w.heap.size+1+1,0,none⟩) (by show _<_;simp only;omega)).trans h4,Nat.le_trans h5 hb.size⟩
 case assign =>
  intro l x W K hK;gi_wp2;exact hK
 case body =>
  rintro l pre x W ⟨hB,hall⟩ hlen;obtain⟨e0,e1,e2,e3⟩:=kc _ hB;have nB:Nx Z W:=hB;have k68:∀ W1,Nx W W1→CallsIn (FL.inRound l) 1 Tryd.prog 44 #[.pointer (some ⟨B,0,none⟩),num x.1] W1 fun e w'=>e=.returned (.agg #[num (d.owner x.1).2.1,num (d.owner x.1).2.2])∧Nx W w' :=
   fun W1 n1=>CallsIn.inRound l (anyN ((at_W (hwZ.nx (Nx.trans nB n1)) hO (hgZ.nx (Nx.trans nB n1)) (h:=x.1) x.2).mono fun e w' ⟨p,q⟩=>⟨p,Nx.trans n1 q⟩))
  have k69:∀ W1,Nx W W1→CallsIn (FL.inRound l) 1 Tryd.prog 45 #[.pointer (some ⟨B,0,none⟩),.agg #[num (d.owner x.1).2.1,num (d.owner x.1).2.2]] W1 fun e w'=>e=.returned (num (d.owner x.1).1)∧Nx W w' :=
   fun W1 n1=>CallsIn.inRound l (anyN ((zp0 (hwZ.nx (Nx.trans nB n1)) hO (hgZ.nx (Nx.trans nB n1)) (h:=x.1) x.2).mono fun e w' ⟨p,q⟩=>⟨p,Nx.trans n1 q⟩))
  have nd:Nx W W.drew:=Below.drew (jqb _ _);have ko:∀ W1,Nx W W1→KeepsOthers W W1:=fun W1 n=>KeepsOthers.of_grownBy (row:=none) ⟨n.os,n.tape,n.output,n.size,fun i hi _=>n.block i hi⟩ (fun j o e=>by cases e);have hall' : ∀ y∈pre,(d.owner y.1).1=holder:=hall;have hBZ:=hB.size;gi_wp2;refine zbg (fun x=>Nx W x) (by kernel_rfl) ?_;change wpAnyC _ _ _ _ _ _ _ 8 #[false,false,false,false,false,false,false,false] _ _;refine zah (i:=0) (oi:=⟨some 12,.load 77 (.tmp 3),_,_,_,none⟩) (v:=.pointer (some ⟨B,0,none⟩)) (zaj (by kernel_rfl)) rfl (by kernel_rfl) (by kernel_rfl) (by kernel_rfl) (fun _ _ _ h=>h) (zg9 rfl (fun x hx=>(kc _ (Nx.trans nB hx)).1)) ?_;simp only [Act.put,jqg,jqh,jqi];refine zae (l':=#[true,false,false,false,false,false,false,false]) rfl ?_;refine zah (i:=1) (oi:=⟨some 13,.load 77 (.tmp 3),_,_,_,none⟩) (v:=.pointer (some ⟨B,0,none⟩)) (zaj (by kernel_rfl)) rfl (by kernel_rfl) (by kernel_rfl) (by kernel_rfl) (fun _ _ _ h=>h) (zg9 rfl (fun x hx=>(kc _ (Nx.trans nB hx)).1)) ?_;simp only [Act.put,jqg,jqh,jqi];refine zae (l':=#[true,true,false,false,false,false,false,false]) rfl ?_;refine zah (i:=2) (oi:=⟨some 14,.move (.tmp 7),_,_,_,none⟩) (v:=num x.1) (zaj (by kernel_rfl)) rfl (by kernel_rfl) (by kernel_rfl) (by kernel_rfl) (fun _ _ _ h=>h) (zaN rfl) ?_;simp only [Act.put,jqg,jqh,jqi];refine zae (l':=#[true,true,true,false,false,false,false,false]) rfl ?_;refine zah (i:=5) (oi:=⟨some 17,.fieldAddr 99 (.tmp 4) 0,_,_,_,none⟩) (v:=.pointer (some ⟨w.heap.size+1,0,none⟩)) (zaj (by kernel_rfl)) rfl (by kernel_rfl) (by kernel_rfl) (by kernel_rfl) (fun _ _ _ h=>h) (zmZ rfl) ?_
  simp only [Act.put,jqg,jqh,jqi];refine zae (l':=#[true,true,true,false,false,true,false,false]) rfl ?_;refine zah (i:=6) (oi:=⟨some 18,.load 3 (.tmp 17),_,_,_,none⟩) (v:=num holder) (zaj (by kernel_rfl)) rfl (by kernel_rfl) (by kernel_rfl) (by kernel_rfl) (fun _ _ _ h=>h) (zdq rfl (fun x hx=>(kc _ (Nx.trans nB hx)).2.1)) ?_;simp only [Act.put,jqg,jqh,jqi];refine zae (l':=#[true,true,true,false,false,true,true,false]) rfl ?_;refine zau (i:=3) (o:=⟨some 15,.call { callee:=.value (.func 44),args:=#[.tmp 13,.tmp 14],argTypes:=#[77,3] },_,_,_,none⟩) (by kernel_rfl) rfl rfl (nd) ?_;intro K hK;go_simp;refine jqa (k68 _ nd) ?_;rintro e w4 ⟨rfl,n4⟩;refine hK _ _ ?_;refine zae (l':=#[true,true,true,true,false,true,true,false]) rfl ?_;refine zau (i:=4) (o:=⟨some 16,.call { callee:=.value (.func 45),args:=#[.tmp 12,.tmp 15],argTypes:=#[77,102] },_,_,_,none⟩) (by kernel_rfl) rfl rfl (n4) ?_;intro K hK;go_simp;refine jqa (k69 _ n4) ?_;rintro e w5 ⟨rfl,n5⟩;refine hK _ _ ?_;refine zae (l':=#[true,true,true,true,true,true,true,false]) rfl ?_;refine zah (i:=7) (oi:=⟨some 19,.binOp .neq 3 (.tmp 16) (.tmp 18) 3,_,_,_,none⟩) (v:=.bool ((d.owner x.1).1 != holder)) (zaj (by kernel_rfl)) rfl (by kernel_rfl) (by kernel_rfl) (by kernel_rfl) (fun _ _ _ h=>h) (zqi rfl rfl) ?_;simp only [Act.put,jqg,jqh,jqi];refine zae (l':=#[true,true,true,true,true,true,true,true]) rfl ?_;refine zbk (by kernel_rfl) n5 ?_
  obtain⟨f0,f1,f2,f3⟩:=kc _ (Nx.trans nB n5);by_cases hx:(d.owner x.1).1=holder
  ·have hb1:((d.owner x.1).1 != holder)=false:=by simpa using hx
   have hall2:=Lib.hid (p:=∀ y∈pre++[x],(d.owner y.1).1=holder) (fun y hy=>by
    rcases List.mem_append.1 hy with h | h
    ·exact hall y h
    ·rw [List.mem_singleton.1 h];exact hx)
   rw [hb1];clear hall hall';gi_wp2;exact⟨ko _ n5,n5.mono hBZ,hB.trans (n5.mono hBZ),hall2.out⟩
  ·have hb1:((d.owner x.1).1 != holder)=true:=by simpa using hx
   have hx2:=Lib.hid hx;rw [hb1];clear hall hall' hx;gi_wp2;exact⟨(ko _ n5).trans (KeepsOthers.setCell _ _ _),rfl,⟨x,by simp,hx2.out⟩,Below.setCell (Nx.trans nZ (Nx.trans nB n5)) (p:=⟨w.heap.size+1+1,0,none⟩) (by show _≤_;simp only;omega) _,World.cell?_setCell_same _ _ _ f2,by have:=n5.size;simp;omega⟩
 case done =>
  rintro D ys W hD hS ⟨hB,hall⟩ hK;obtain⟨e0,e1,e2,e3⟩:=kc _ hB;have hout:d.out holder a b c=false:=by
   unfold Dit.out;rw [← hS]
   simpa using hall
  gi_wp2;have hK2:=(KeepsOthers.setCell W ⟨w.heap.size+1+1,0,none⟩ (.bool false)).same D _ hK rfl;have hN:Nx w (W.setCell ⟨w.heap.size+1+1,0,none⟩ (.bool false)):=Below.setCell (Nx.trans nZ hB) (p:=⟨w.heap.size+1+1,0,none⟩) (by show _≤_;simp only;omega) _;have hc1:(W.setCell ⟨w.heap.size+1+1,0,none⟩ (.bool false)).cell? ⟨w.heap.size+1+1,0,none⟩=some (.bool false):=World.cell?_setCell_same _ _ _ e2;have hc2:=cell_kept hc1 (grownBy_putObj' _ D (.deferred none)) (fun r e=>by cases e;exact⟨_,hK2,rfl⟩);refine⟨by simp,.inl ⟨_,_,rfl,run_takeDeferred hK2,?_⟩⟩;refine⟨.bool false,?_,by rw [hout],Below.trans hN (belowK_b (w:=w) (jqc _) _ D _ _ (by omega) hK2 rfl rfl)⟩;simp [results,Tryd.results65,go_sem,hc2]
 case stop =>
  rintro D c' pre W hD ⟨k,hk,hpre⟩ ⟨rfl,⟨x,hx,hne⟩,hn,ht,hsz⟩ hK;have hout:d.out holder a b c=true:=by
   unfold Dit.out;rw [List.any_eq_true];refine⟨x.1,?_,by simpa using hne⟩;have:x.1∈ze1 (a+c) k:=hpre ▸ List.mem_map_of_mem hx;unfold ze1 at this ⊢;obtain⟨i,hi,e⟩:=List.mem_map.1 this;exact List.mem_map.2 ⟨i,by simp at hi ⊢;omega,e⟩
  gi_wp2;have hc2:=cell_kept ht (grownBy_putObj' _ D (.deferred none)) (fun r e=>by cases e;exact⟨_,hK,rfl⟩);refine⟨by simp,.inl ⟨_,_,rfl,run_takeDeferred hK,?_⟩⟩;refine⟨.bool true,?_,by rw [hout],Below.trans hn (belowK_b (w:=w) (jqc _) _ D _ _ (by omega) hK rfl rfl)⟩;simp [results,Tryd.results65,go_sem,hc2]
end Go.Proofs.YtbbanmifdbeneaaDoor
