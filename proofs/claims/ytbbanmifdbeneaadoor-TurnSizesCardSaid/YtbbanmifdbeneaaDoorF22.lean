import Derived.Test.YtbbanmifdbeneaaDoorF21
set_option linter.all false
open Array renaming getElem?_eq_getElem → jqa, getElem?_setIfInBounds_ne → jqc, size_setIfInBounds → jqf, getElem?_push → jqm
open Nat renaming le_trans → jqb, lt_or_ge → jqe, lt_of_lt_of_le → jql
open List renaming mem_of_getElem? → jqd, getElem?_eq_some_iff → jqg, getElem?_append_left → jqh, getElem?_set_ne → jqi, mem_filterMap → jqj, length_cons → jqk, getElem?_append_right → jqn
namespace Go.Con
open Go Go.Conc
variable [Lone]
def Fin (P:Program) (Post:Value→World→Prop) (m:Machine) (t:Trace):Prop :=
 ∃ N last o w' t',runNT P (N+1) m t=(.ended o w',t')∧runN P N m=.next last∧step P last=.ended o w'∧Good P Post last o w' t'
theorem Fin.head {P:Program} {Post:Value→World→Prop} {m m' : Machine} {t ops:Trace} (h:stepT P m=(.next m',ops)) (hf:Fin P Post m' (t++ops)):Fin P Post m t:=by
 obtain⟨n,last,o,w,t',h1,h2,h3,h4⟩:=hf;exact⟨n+1,last,o,w,t',by rw [runNT_succ_next h];exact h1,by rw [runN_succ_next h];exact h2,h3,h4⟩
def FinR (P:Program) (Post:Value→World→Prop) (gs:Array Goroutine) (res:Stepped×Trace) (t:Trace):Prop :=
 (∃ m' ops,res=(.next m',ops)∧Fin P Post m' (t++ops))∨(∃ o w ops,res=(.ended o w,ops)∧∀ W sl,Good P Post (crowd gs W sl) o w (t++ops))
def AtEnd (P:Program) (Post:Value→World→Prop) (own A:Nat→Prop) (g:Goroutine) (W:World):Prop :=
 ∃ v es,stepG P true g W=.ended (.done v) W es∧(∀ e∈es,EvA own A e)∧Post v W
section
variable {P:Program} {φ:Ph} {pend:List Nat} {own A:Nat→Prop} {Post:Value→World→Prop}
theorem Cfg.awake {gs:Array Goroutine} {W:World} {t:Trace} {Z:Nat→Option Zone} {l:List Ws} {L:List Nat} {buf:Array Value} {r:Nat} (h:Cfg P φ pend own A gs W t Z l L buf r) {g0:Goroutine} (h0:gs[0]?=some g0)
  (hm:g0.status=.running∨g0.status=.blocked):∀ g∈gs,Go.Conc.awake g:=by
 intro g hg;obtain⟨i,hi⟩:=Array.mem_iff_getElem?.1 hg;by_cases e:i=0
 ·subst e
  rw [h0] at hi;cases hi
  exact awake_of (hm.elim .inl fun h=>.inr (.inl h))
 ·obtain⟨x,_,hok⟩:=h.ws e hi
  exact awake_of hok.status
theorem spin {g:Goroutine} {W0:World} (hr:g.status=.running)
  (hmain:∀ gs W sl t Z l L buf r,Env A W0 W→gs[0]?=some g→Cfg P φ pend own A gs W t Z l L buf r→FinR P Post gs (runT P (crowd gs W sl) 0) t) :
  ∀ {l:List Ws},Acc (LLt P) l→∀ gs W sl t Z L buf r,Env A W0 W→gs[0]?=some g→Cfg P φ pend own A gs W t Z l L buf r→Fin P Post (crowd gs W sl) t:=by
 intro l hl
 induction hl with
 | intro l _ ih =>
  intro gs W sl t Z L buf r he h0 hc;obtain⟨i,gi,d,sl',hi,hgi,hst⟩:=crowd_pick (P:=P) (w:=W) (sl:=sl) (hc.awake h0 (.inl hr)) ⟨0,g,h0,hr⟩;by_cases e:i=0
  ·subst e
   rcases hmain gs (W.at d) sl' t Z l L buf r (he.trans (zfn W d)) h0 (hc.at d) with ⟨m',ops,h1,h2⟩ | ⟨o,w,ops,h1,h2⟩
   ·exact .head (hst.trans h1) h2
   ·exact⟨0,_,o,w,t++ops,by simp [runNT,hst.trans h1],rfl,by simp [step,hst.trans h1],h2 _ _⟩
  ·rcases (hc.at d).worker h0 (.inl hr) (sl:=sl') e hi hgi with ⟨gs',W',ops,Z',l',L',buf',h1,h2,h3,h4,_,h6⟩ | ⟨g2,z,ok,gs',W',ops,Z',l',k,ownk,Ak,v,Wk,h1,_⟩
   ·exact .head (hst.trans h1) (ih l' h2 gs' W' sl' _ Z' L' buf' r (he.trans ((zfn W d).trans h4)) h3 h6)
   ·rw [h1] at hr;cases hr
theorem znS {gs:Array Goroutine} {W:World} {t:Trace} {Z:Nat→Option Zone} {l:List Ws} {buf:Array Value} {r:Nat} (hc:Cfg P φ pend own A gs W t Z l [] buf r) (hp:pend≠[])
  (hnp:∀ (j k:Nat) (own A:Nat→Prop) (v:Value) (W0:World),l[j]?≠some (Ws.parked k own A v W0)):∃ (i:Nat) (g:Goroutine),gs[i]?=some g∧g.status=.running:=by
 obtain⟨k,hk⟩:∃ k,k∈l.filterMap Ws.key:=by
  cases pend with
  | nil=>exact (hp rfl).elim
  | cons k _=>exact⟨k,hc.perm.mem_iff.2 (List.mem_cons_self ..)⟩
 obtain⟨x,hx,hxk⟩:=jqj.1 hk;obtain⟨j,hj⟩:=List.getElem?_of_mem hx;have hj0:j≠0:=by
  rintro rfl;rw [hc.head] at hj;cases hj
  cases hxk
 have hlt:j<gs.size:=by rw [← hc.len];exact (jqg.1 hj).1
 have hok:=hc.ok j x _ hj0 hj (jqa hlt)
 cases x with
 | live k own A g0 W0=>exact⟨j,_,jqa hlt,by rw [hok.1];exact hok.2.2.2.2.running⟩
 | parked=>exact (hnp _ _ _ _ _ _ hj).elim
 | sent=>have:=hc.sentIn _ _ _ _ _ _ _ hj;cases this
 | gone=>cases hxk
theorem zqM {g2:Goroutine} {z:Value} {ok:Bool} {Wp:World} (hon:φ.on=true) (hp:pend≠[])
  (hmain:∀ gs W sl t Z l k ownk Ak v Wk,Env A Wp W→k∈pend→φ.posts k ownk Ak v Wk→Env Ak Wk W→(∀ x,ownk x→¬ A x)→gs[0]?=some (g2.finishComm P #[rcase φ.c z] (.recv ok) 0 v true) →
   (∃ r,Cfg P φ (pend.erase k) (fun b=>own b∨ownk b) (fun b=>A b∨Ak b) gs W t Z l [] #[] r)→Fin P Post (crowd gs W sl) t) :
  ∀ {l:List Ws},Acc (LLt P) l→∀ gs W sl t Z buf r,Env A Wp W→gs[0]?=some (parked g2 #[rcase φ.c z] (.recv ok))→(∀ (j k:Nat) (own A:Nat→Prop) (v:Value) (W0:World),l[j]?≠some (Ws.parked k own A v W0)) →
   Cfg P φ pend own A gs W t Z l [] buf r→Fin P Post (crowd gs W sl) t:=by
 intro l hl
 induction hl with
 | intro l _ ih =>
  intro gs W sl t Z buf r he h0 hnp hc;obtain⟨i,gi,d,sl',hi,hgi,hst⟩:=crowd_pick (P:=P) (w:=W) (sl:=sl) (hc.awake h0 (.inr rfl)) (znS hc hp hnp);have e:i≠0:=by
   rintro rfl;rw [h0] at hi;cases hi
   cases hgi
  rcases (hc.at d).worker h0 (.inr ⟨⟨g2,z,ok,rfl⟩,rfl,hon,hnp⟩) (sl:=sl') e hi hgi with ⟨gs',W',ops,Z',l',L',buf',h1,h2,h3,h4,h5,h6⟩ | ⟨g2',z',ok',gs',W',ops,Z',l',k,ownk,Ak,v,Wk,h1,h2,h3,h4,h5,h6,h7,h8,h9⟩
  ·rcases h5 with h5 | ⟨_,rfl,_,h5⟩
   ·cases h5
   ·exact .head (hst.trans h1) (ih l' h2 gs' W' sl' _ Z' buf' r (he.trans ((zfn W d).trans h4)) h3 h5 h6)
  ·refine .head (hst.trans h2) (hmain gs' W' sl' _ Z' l' k ownk Ak v Wk (he.trans ((zfn W d).trans h6)) h3 h4 h5 h9 ?_ ⟨_,h8⟩)
   have e1:g2'={ g2' with status:=.blocked,offers:=g2'.offers }∨True:=.inr trivial;have hinj:parked g2 #[rcase φ.c z] (.recv ok)=parked g2' #[rcase φ.c z'] (.recv ok'):=h1;have hfr:g2.finishComm P #[rcase φ.c z] (.recv ok) 0 v true=g2'.finishComm P #[rcase φ.c z'] (.recv ok') 0 v true:=by
    have ho:=congrArg Goroutine.offers hinj;simp only [parked,Option.some.injEq,Prod.mk.injEq,CommShape.recv.injEq] at ho;obtain⟨ho1,rfl⟩:=ho;rw [← finishComm_parked P g2 #[rcase φ.c z] #[rcase φ.c z] (.recv ok) (.recv ok),← finishComm_parked P g2' #[rcase φ.c z'] #[rcase φ.c z'] (.recv ok) (.recv ok),hinj,ho1]
   rw [hfr];exact h7
theorem zkI {g:Goroutine} {W0:World} (hM:Mn P (AtEnd P Post) φ pend own A g W0) :
  ∀ gs W sl t Z l L buf r,Env A W0 W→gs[0]?=some g→Cfg P φ pend own A gs W t Z l L buf r→Fin P Post (crowd gs W sl) t:=by
 induction hM with
 | @done φ own A g W0 hr h =>
  intro gs W sl t Z l L buf r he h0 hc;refine spin hr ?_ hc.acc gs W sl t Z L buf r he h0 hc;clear he h0 hc;intro gs W sl t Z l L buf r he h0 hc;obtain⟨v,es,hst,hes,hpost⟩:=h W he;have hrr:=runT_many_ended (P:=P) (sl:=sl) (i:=0) h0 (show stepG P (0 == 0) g W=_ from hst);have hd:Does own A W W es:=⟨fun e he=>by
   rcases hes e he with ⟨a,h1,h2,h3,h4⟩ | ⟨b,h1,h2,h3,h4⟩ | h
   ·exact .inl ⟨a,h1,h2,.inl h3,fun hw=>.inl (h4 hw)⟩
   ·exact .inr (.inl ⟨b,h1,h2,.inl h3,fun hw=>.inl (h4 hw)⟩)
   ·exact .inr (.inr h),Nat.le_refl _,fun _ _ _=>rfl,rfl,rfl⟩
  have hz:=hc.zc.go (fn:=g.frame.fn) (pos:=g.frame.place) hc.pos hc.z0 hd;have hgone:∀ j g,j≠0→gs[j]?=some g→(∃ n,QuitsIn P n g)∧Z j=none:=by
   intro j g hj hg;obtain⟨x,hx,hok⟩:=hc.ws hj hg;have hk:x.key=none:=by
    cases hk:x.key with
    | none=>rfl
    | some k =>
     have:k∈l.filterMap Ws.key:=jqj.2 ⟨x,jqd hx,hk⟩;have:=hc.perm.mem_iff.1 this;cases this
   cases x with
   | gone n=>exact⟨⟨n,hok.1⟩,hok.2⟩
   | _=>cases hk
  refine .inr ⟨_,_,_,hrr,fun W2 sl2=>⟨v,rfl,hpost,hz.ti.clean,fun i j hg hne hcnt=>?_,⟨fun x hx=>?_,rfl⟩,fun j x hx hj=>?_⟩⟩
  ·obtain⟨x,hx,hm,_⟩:=hcnt
   obtain⟨op,ho,hox⟩:=touch_of hx;have hopg:op.g=j:=by simpa [Trace.g?,ho] using hg
   have hzj:setZ Z 0 (some ⟨grow own W W,grow A W W⟩) op.g=none:=by
    rw [hopg,zan _ _ hne];have hlt:=hz.new i op ho;rw [hopg] at hlt;exact (hgone j _ hne (jqa hlt)).2
   obtain⟨q,y,hq,hyg,hb⟩:=hz.ti.gone i op x ho hox hm (by rw [hopg];exact hne) hzj;rcases hb with rfl | hb
   ·rw [ho] at hq
    cases hq
    exact (hne (hopg.symm.trans hyg)).elim
   ·exact⟨q,by simp [Trace.g?,hq,hyg],hb⟩
  ·obtain⟨j,hj⟩:=List.mem_iff_getElem?.1 hx
   rw [List.getElem?_drop] at hj;obtain⟨⟨n,hq⟩,_⟩:=hgone (1+j) x (by omega) (by simpa [crowd] using hj);exact⟨n,(QuitsD.of_quitsIn hq).leaves⟩
  ·obtain⟨⟨n,hq⟩,_⟩:=hgone j x hj hx
   rw [hz.ti.word.deaf];exact⟨n,(QuitsD.of_quitsIn hq).hears _⟩
 | @step φ pend own A g W0 hr h1 h2 ih =>
  intro gs W sl t Z l L buf r he h0 hc;refine spin hr ?_ hc.acc gs W sl t Z L buf r he h0 hc;clear he h0 hc;intro gs W sl t Z l L buf r he h0 hc;obtain⟨g',W1,es,hst,hd,_⟩:=h1 W he;have hrr:=runT_crowd_go (P:=P) (sl:=sl) (i:=0) h0 (show stepG P (0 == 0) g W=_ from hst);have hstill:(gs.map (woken P g g' W1)).setIfInBounds 0 g'=gs.setIfInBounds 0 g':=by
   refine zhh fun i x hi hx=>?_;obtain⟨y,_,hok⟩:=hc.ws hi hx;exact hok.woken fun hon=>(hc.chanKeep hc.z0 hd hon).trans (hc.chan hon)
  rw [hstill] at hrr;refine .inl ⟨_,_,hrr,ih W g' W1 es he hst _ _ _ _ (setZ Z 0 (some ⟨grow own W W1,grow A W W1⟩)) l L buf r .refl (zeh h0) ?_⟩;refine⟨by rw [jqf];exact hc.zc.go hc.pos hc.z0 hd,zam ..,by simp [hc.len],by simpa using hc.pos,hc.head,fun j x gj hj hx hg=>?_,hc.perm,hc.cap,hc.noPark,fun ho=>(hc.chanKeep hc.z0 hd ho).trans (hc.chan ho),hc.bsize,fun i j hi=>?_,hc.sentIn,hc.nodup,hc.zero⟩
  ·rw [jqc (Ne.symm hj)] at hg
   rw [zan _ _ hj];exact (hc.ok j x gj hj hx hg).env fun zz hzz=>hc.zc.env hj hc.z0 hzz hd
  ·obtain⟨v,hb,hsa⟩:=hc.fifo i j hi
   exact⟨v,hb,hsa.app (zmw (hc.fifo_ne (jqd hi)))⟩
 | @phase φ own A g W0 hr φ' hon ho hch h ih =>
  intro gs W sl t Z l L buf r he h0 hc;have hgone:∀ j x,j≠0→l[j]?=some x→∃ n,x=.gone n:=by
   intro j x hj hx;have hk:x.key=none:=by
    cases hk:x.key with
    | none=>rfl
    | some k =>
     have:k∈l.filterMap Ws.key:=jqj.2 ⟨x,jqd hx,hk⟩;have:=hc.perm.mem_iff.1 this;cases this
   cases x with
   | gone n=>exact⟨n,rfl⟩
   | _=>cases hk
  have hZ:∀ j,j≠0→Z j=none:=by
   intro j hj;rcases jqe j gs.size with hlt | hge
   ·obtain⟨x,hx,hok⟩:=hc.ws hj (jqa hlt)
    obtain⟨n,rfl⟩:=hgone j x hj hx;exact hok.2
   ·exact hc.zc.out j hge
  refine ih gs W sl t _ l [] #[] 0 ⟨fun x hx=>he.heap x hx.1,he.size,he.os,he.output⟩ h0 ⟨hc.zc.phase hc.z0 ho hZ,zam ..,hc.len,hc.pos,hc.head,fun j x gj hj hx hg=>?_,hc.perm,.inr (Nat.zero_le _),fun _ j k own A v W0 hj=>?_,fun _=>hch W he,rfl,fun i j hi=>(by cases hi),fun j n k own A v W0 hj=>?_,List.nodup_nil,fun _=>rfl⟩
  ·obtain⟨n,rfl⟩:=hgone j x hj hx
   have:=hc.ok j _ gj hj hx hg;exact⟨this.1,by rw [zan _ _ hj];exact this.2⟩
  ·by_cases e:j=0
   ·subst e;rw [hc.head] at hj;cases hj
   ·obtain⟨n,hn⟩:=hgone j _ e hj;cases hn
  ·by_cases e:j=0
   ·subst e;rw [hc.head] at hj;cases hj
   ·obtain⟨n,hn⟩:=hgone j _ e hj;cases hn
 | @reclaim φ own A g W0 hr own2 h2 h ih =>
  intro gs W sl t Z l L buf r he h0 hc;have hgone:∀ j x,j≠0→l[j]?=some x→∃ n,x=.gone n:=by
   intro j x hj hx;have hk:x.key=none:=by
    cases hk:x.key with
    | none=>rfl
    | some k =>
     have:k∈l.filterMap Ws.key:=jqj.2 ⟨x,jqd hx,hk⟩;have:=hc.perm.mem_iff.1 this;cases this
   cases x with
   | gone n=>exact⟨n,rfl⟩
   | _=>cases hk
  have hZ:∀ j,j≠0→Z j=none:=by
   intro j hj;rcases jqe j gs.size with hlt | hge
   ·obtain⟨x,hx,hok⟩:=hc.ws hj (jqa hlt)
    obtain⟨n,rfl⟩:=hgone j x hj hx;exact hok.2
   ·exact hc.zc.out j hge
  exact ih gs W sl t (setZ Z 0 (some ⟨own2,A⟩)) l L buf r he h0 { hc with
   zc:=hc.zc.reclaim hc.z0 h2 hZ
   z0:=zam ..
   ok:=fun j x gj hj hx hg=>by rw [zan _ _ hj];exact hc.ok j x gj hj hx hg }
 | @spawn φ pend own A g W0 hr hon k Ac hAc hcap h1 h2 ih =>
  intro gs W sl t Z l L buf r he h0 hc;refine spin hr ?_ hc.acc gs W sl t Z L buf r he h0 hc;clear he h0 hc;intro gs W sl t Z l L buf r he h0 hc;obtain⟨g',ch,hst,hr',hwk⟩:=h1 W he;have hrr:=runT_crowd_spawn (P:=P) (sl:=sl) (i:=0) h0 (show stepG P (0 == 0) g W=_ from hst);rw [show MemOp.ofEvents 0 g.frame.fn g.frame.place #[]=#[] from rfl] at hrr;refine .inl ⟨_,_,hrr,ih W g' ch he hst _ _ _ _ (setZ (setZ Z gs.size (some ⟨fun _=>False,Ac⟩)) 0 (some ⟨fun b=>own b∧¬ Ac b,A⟩)) (l++[.live k (fun _=>False) Ac ch W]) L buf r .refl ?_ ⟨?_,zam ..,by simp [hc.len],by simp,?_,fun j x gj hj hx hg=>?_,?_,?_,fun hcz j k own A v W0 hj=>?_,hc.chan,hc.bsize,fun i j hi=>?_,fun j n k own A v W0 hj=>?_,hc.nodup,hc.zero⟩⟩
  ·rw [Array.getElem?_push_lt (by simpa using hc.pos)]
   have:=zeh (y:=g') h0
   rwa [jqa (by simpa using hc.pos)] at this
  ·have hops:t++((#[]:Trace).push { g:=0,fn:=g.frame.fn,pos:=g.frame.place,act:=.go gs.size }).push { g:=gs.size,fn:=ch.frame.fn,pos:=g.frame.place,act:=.start }=(t.push { g:=0,fn:=g.frame.fn,pos:=g.frame.place,act:=.go gs.size }).push { g:=gs.size,fn:=ch.frame.fn,pos:=g.frame.place,act:=.start }:=zea ..
   rw [hops,Array.size_push,jqf];exact hc.zc.spawn hc.z0 hc.pos hAc rfl rfl rfl rfl
  ·rw [jqh (by rw [hc.len];exact hc.pos)];exact hc.head
  ·rcases jqe j gs.size with hlt | hge
   ·rw [jqh (by rw [hc.len];exact hlt)] at hx
    rw [jqm,if_neg (by simp;omega),jqc (Ne.symm hj)] at hg;rw [zan _ _ hj,zan _ _ (by omega)];exact hc.ok j x gj hj hx hg
   ·have hje:j=gs.size:=by
     have hb:=(jqg.1 hx).1;rw [List.length_append,hc.len] at hb;simp only [jqk,List.length_nil] at hb;omega
    subst hje;rw [jqn (by rw [hc.len];exact Nat.le_refl _),hc.len,Nat.sub_self] at hx;simp only [List.getElem?_cons_zero,Option.some.injEq] at hx;rw [jqm,if_pos (by simp)] at hg
    cases hx;cases hg
    exact⟨rfl,by rw [zan _ _ hj,zam],.refl,hon,hwk⟩
  ·rw [List.filterMap_append]
   exact (List.perm_append_comm.trans (by exact hc.perm.cons k))
  ·refine hcap.imp id fun h=>?_
   simp only [jqk];omega
  ·rcases jqe j l.length with hlt | hge
   ·rw [jqh hlt] at hj
    exact hc.noPark hcz _ _ _ _ _ _ hj
   ·rw [jqn hge] at hj
    have hb:=jqd hj;simp at hb
  ·obtain⟨v,hb,⟨n,k2,own2,A2,W2,h3⟩,h4⟩:=hc.fifo i j hi
   refine⟨v,hb,SentAt.app ⟨⟨n,k2,own2,A2,W2,?_⟩,h4⟩ ?_⟩
   ·rw [jqh (jqg.1 h3).1];exact h3
   ·intro op hop _
    simp only [List.push_toArray,List.nil_append,List.cons_append,List.mem_toArray,List.mem_cons,List.not_mem_nil,or_false] at hop;rcases hop with rfl | rfl<;>rfl
  ·rcases jqe j l.length with hlt | hge
   ·rw [jqh hlt] at hj
    exact hc.sentIn _ _ _ _ _ _ _ hj
   ·rw [jqn hge] at hj
    have hb:=jqd hj;simp at hb
 | @recv φ pend own A g W0 hr hon hp z ok h1 h2 ih =>
  intro gs W sl t Z l L buf r he h0 hc;refine spin hr ?_ hc.acc gs W sl t Z L buf r he h0 hc;clear he h0 hc;intro gs W sl t Z l L buf r he h0 hc;obtain⟨g2,hst⟩:=h1 W he;have hst' : stepG P (0 == 0) g W=.comm g2 #[rcase φ.c z] true (.recv ok) W #[]:=hst;have hoff:offersAt g φ.c true=[]:=offersAt_of_not_blocked (by rw [hr];simp) ..;have hlow:∀ j zz x,Z j=some zz→zz.A x→x≠φ.c:=fun j zz x hz hx=>(hc.zc.low j zz x hz hx).2 hon
  cases L with
  | cons j L' =>
   have hcap:φ.cap≠0:=fun e=>by have:=hc.zero e;cases this
   obtain⟨v,hb,⟨n,k,ownk,Ak,Wk,hx⟩,p,x,hp1,hp2,hp3,hp4⟩:=hc.fifo 0 j rfl;have hj0:j≠0:=hc.fifo_ne (List.mem_cons_self ..);have hlt:j<gs.size:=by rw [← hc.len];exact (jqg.1 hx).1
   obtain⟨hq,hz,henv,hpost⟩:=hc.ok j _ _ hj0 hx (jqa hlt);have hpn:partners (gs.setIfInBounds 0 ph) φ.c true=[]:=partners_nil fun i y hy=>by
    rcases hc.offersT h0 hoff hy with h | ⟨_,_,_,k,own,A,v,W0,h⟩
    ·exact h
    ·exact (hc.noPark hcap _ _ _ _ _ _ h).elim
   have hsz:0<buf.size:=by rw [hc.bsize];exact Nat.succ_pos _
   have hrr:=crowd_recv_buf (P:=P) (sl:=sl) h0 hst' (hc.chan hon) hsz hpn;rw [show MemOp.ofEvents 0 g.frame.fn g.frame.place #[]=#[] from rfl,Array.empty_append] at hrr;have hv:buf.getD 0 undef=v:=by rw [Array.getD_eq_getD_getElem?,hb];rfl
   rw [hv] at hrr;obtain⟨hkp,hperm⟩:=zfl (y:=.gone n) hc.perm hx rfl rfl;have hA0:Env A W (W.setChan φ.c φ.cap (buf.extract 1 buf.size) false (r+(j :: L').length) (r+1) false):=za6 fun y hy=>hlow 0 _ y hc.z0 hy;have hAk:Env Ak W (W.setChan φ.c φ.cap (buf.extract 1 buf.size) false (r+(j :: L').length) (r+1) false):=za6 fun y hy=>hlow j _ y hz hy;refine .inl ⟨_,_,hrr,ih W _ g2 k ownk Ak v Wk he hst hA0 hkp hpost (henv.trans hAk) (fun x hx=>hc.zc.dis j 0 _ _ x hj0 hz hc.z0 hx) _ _ _ _ (setZ (setZ Z j none) 0 (some ⟨fun b=>own b∨ownk b,fun b=>A b∨Ak b⟩)) (l.set j (.gone n)) L' (buf.extract 1 buf.size) (r+1) .refl (zeh h0) ?_⟩;have m3:∀ (n m:Nat),Mute { g:=0,fn:=g2.frame.fn,pos:=g2.frame.place,act:=.recv φ.c n m }:=fun n _=>⟨rfl,fun m hm=>by cases hm⟩;have m4:∀ (n:Nat),Mute { g:=0,fn:=g2.frame.fn,pos:=g2.frame.place,act:=.recvDone φ.c n }:=fun n=>⟨rfl,fun m hm=>by cases hm⟩;have hnt:∀ j' : Nat,∀ op∈(#[{ g:=0,fn:=g2.frame.fn,pos:=g2.frame.place,act:=.recv φ.c r φ.cap },{ g:=0,fn:=g2.frame.fn,pos:=g2.frame.place,act:=.recvDone φ.c r }]:Trace),op.g=j'→op.act.touch?=none:=by
    intro j' op hop _;simp only [List.mem_toArray,List.mem_cons,List.not_mem_nil,or_false] at hop;rcases hop with rfl | rfl<;>rfl
   refine⟨?_,zam ..,by simp [hc.len],by simpa using hc.pos,by rw [jqi hj0];exact hc.head,fun i y gi hi hy hg=>?_,hperm,?_,zcm hc.noPark (by intros;simp),fun _=>?_,?_,fun i j' hi=>?_,fun i n' k' own' A' v' W' hi=>?_,(List.nodup_cons.1 hc.nodup).2,fun e=>(hcap e).elim⟩
   ·rw [zea,jqf]
    have hz2:=((hc.zc.mute (m3 r φ.cap) hc.pos).mute (m4 r) hc.pos);have hpl:=lt_size_of_getElem? hp1;refine (hz2.take (p:=p) (q:=t.size+1) (c:=φ.c) (k:=r) hc.z0 hz hj0 hc.pos (x:=x) (y:={ g:=0,fn:=g2.frame.fn,pos:=g2.frame.place,act:=.recvDone φ.c r }) ?_ hp2 hp3 ?_ rfl rfl ?_).world (size_setChan ..)
    ·rw [← zea,getElem?_append_old hpl];exact hp1
    ·rw [jqm,if_pos (by simp)]
    ·intro i op hi hg hs
     rw [← zea] at hi;rcases getElem?_append_cases hi with ⟨_,h⟩ | ⟨_,h⟩
     ·exact hp4 i op h hg hs
     ·rw [hnt _ op h hg] at hs;cases hs
   ·by_cases e:j=i
    ·subst e
     rw [ze3 hx] at hy;rw [jqc (Ne.symm hi),jqa hlt] at hg
     cases hy;cases hg
     exact⟨hq,by rw [zan _ _ hi,zam]⟩
    ·rw [jqi e] at hy
     rw [jqc (Ne.symm hi)] at hg;rw [zan _ _ hi,zan _ _ (Ne.symm e)];exact (hc.ok i y gi hi hy hg).env fun zz hzz=>za6 fun y hy=>hlow i zz y hzz hy
   ·refine hc.cap.imp id fun h=>?_
    rw [List.length_erase_of_mem hkp];omega
   ·rw [zds (hc.zc.chan hon)]
    simp only [jqk];rw [show r+(L'.length+1)=r+1+L'.length by omega]
   ·have:=hc.bsize
    simp only [jqk] at this;simp [this]
   ·have hi' : (j :: L')[i+1]?=some j':=hi
    obtain⟨v',hb',hsa⟩:=hc.fifo (i+1) j' hi';have hne:j≠j':=by rintro rfl;exact (List.nodup_cons.1 hc.nodup).1 (jqd hi)
    refine⟨v',?_,?_⟩
    ·have hlt':=(Array.getElem?_eq_some_iff.1 hb').1
     rw [Array.getElem?_extract,if_pos (by omega)];rw [show 1+i=i+1 by omega];exact hb'
    ·rw [show r+1+i=r+(i+1) by omega]
     exact (hsa.app (hnt j')).set hne
   ·by_cases e:j=i
    ·subst e;rw [ze3 hx] at hi;cases hi
    ·rw [jqi e] at hi
     exact (List.mem_cons.1 (hc.sentIn _ _ _ _ _ _ _ hi)).resolve_left (Ne.symm e)
  | nil =>
   have hb0:buf=#[]:=Array.eq_empty_of_size_eq_zero (by rw [hc.bsize];rfl);subst hb0;by_cases hpk:∃ (j k:Nat) (own A:Nat→Prop) (v:Value) (W0:World),l[j]?=some (Ws.parked k own A v W0)
   ·
    have hcap:φ.cap=0:=by
     obtain⟨j,k,own',A',v,W0',h⟩:=hpk;exact Classical.byContradiction fun e=>hc.noPark e _ _ _ _ _ _ h
    have hall:∀ j k,(j,k)∈partners (gs.setIfInBounds 0 ph) φ.c true→k=0∧j≠0∧(∃ gj vj zj shj,gs[j]?=some (parked gj #[scase φ.c vj zj] shj)):=by
     intro j k hjk;obtain⟨y,hy,hk⟩:=mem_partners.1 hjk;rcases hc.offersT h0 hoff hy with h | ⟨hj0,_,hg,k',own',A',v',W',hx⟩
     ·rw [h] at hk;cases hk
     ·obtain⟨_,_,_,_,g3,zz,n,rfl,_⟩:=hc.ok j _ _ hj0 hx hg
      rw [offersAt_parked_send,if_pos rfl] at hk;exact⟨by simpa using hk,hj0,g3,v',zz,_,hg⟩
    have hne:partners (gs.setIfInBounds 0 ph) φ.c true≠[]:=by
     obtain⟨j,k,own',A',v,W0',h⟩:=hpk;have hj0:j≠0:=by rintro rfl;rw [hc.head] at h;cases h
     have hlt:j<gs.size:=by rw [← hc.len];exact (jqg.1 h).1
     obtain⟨_,_,_,_,g3,zz,n,hg3,_⟩:=hc.ok j _ _ hj0 h (jqa hlt);have:(j,0)∈partners (gs.setIfInBounds 0 ph) φ.c true:=mem_partners.2 ⟨_,by rw [jqc (Ne.symm hj0)];exact jqa hlt,by rw [hg3,offersAt_parked_send,if_pos rfl];simp⟩;intro e;rw [e] at this;cases this
    obtain⟨j,gj,vj,zj,shj,d,hj0,hgj,hrr⟩:=crowd_recv_meets_some (P:=P) (sl:=sl) h0 hst' (hc.chan hon) hne hall;rw [show MemOp.ofEvents 0 g.frame.fn g.frame.place #[]=#[] from rfl,Array.empty_append] at hrr;obtain⟨y,hx,hok⟩:=hc.ws hj0 hgj;have hblk:(parked gj #[scase φ.c vj zj] shj).status=.blocked:=rfl
    cases y with
    | live k own A g0 W0=>rw [hok.1,hok.2.2.2.2.running] at hblk;cases hblk
    | sent n =>
     exfalso
     have:=hok.1
     cases n with
     | zero=>cases this
     | succ n=>rcases this with h | h
               ·cases h
               ·cases h.1
    | gone n =>
     exfalso
     have:=hok.1
     cases n with
     | zero=>cases this
     | succ n=>rcases this with h | h
               ·cases h
               ·cases h.1
    | parked k ownk Ak v Wk =>
     obtain⟨hz,henv,hpost,_,g3,zz,n,hg3,hq⟩:=hok;have ho:=congrArg Goroutine.offers hg3;simp only [parked,Option.some.injEq,Prod.mk.injEq] at ho;obtain⟨ho1,rfl⟩:=ho;have hv:v=vj:=by
      have:=congrArg (fun a:Array CommCase=>(a[0]?).bind (·.send)) ho1
      simpa [scase] using this.symm
     subst hv;have hqq:QuitsIn P n (gj.finishComm P #[scase φ.c v zj] .send 0 undef false):=by
      rw [← finishComm_parked P gj #[scase φ.c v zj] #[scase φ.c v zj] .send .send,hg3,ho1,finishComm_parked];exact hq
     obtain⟨hkp,hperm⟩:=zfl (y:=.gone n) hc.perm hx rfl rfl;have hA0:Env A W ((W.at d).setChan φ.c φ.cap #[] false (r+([]:List Nat).length+1) (r+1) false):=(zfn W d).trans (za6 fun y hy=>hlow 0 _ y hc.z0 hy);have hAk:Env Ak W ((W.at d).setChan φ.c φ.cap #[] false (r+([]:List Nat).length+1) (r+1) false):=(zfn W d).trans (za6 fun y hy=>hlow j _ y hz hy);have hlt:j<gs.size:=(Array.getElem?_eq_some_iff.1 hgj).1;refine .inl ⟨_,_,hrr,ih W _ g2 k ownk Ak v Wk he hst hA0 hkp hpost (henv.trans hAk) (fun x hx=>hc.zc.dis j 0 _ _ x hj0 hz hc.z0 hx) _ _ _ _ (setZ (setZ Z j none) 0 (some ⟨fun b=>own b∨ownk b,fun b=>A b∨Ak b⟩)) (l.set j (.gone n)) [] #[] (r+1) .refl (Array.getElem?_setIfInBounds_self_of_lt (by simpa using hc.pos)) ?_⟩;have m1:∀ (i:Nat) (f:FuncId) (p:String) (n:Nat),Mute { g:=i,fn:=f,pos:=p,act:=.send φ.c n }:=fun _ _ _ n=>⟨rfl,fun m hm=>by cases hm⟩;have m2:∀ (i:Nat) (f:FuncId) (p:String) (n:Nat),Mute { g:=i,fn:=f,pos:=p,act:=.sendDone φ.c n }:=fun _ _ _ n=>⟨rfl,fun m hm=>by cases hm⟩;have m3:∀ (i:Nat) (f:FuncId) (p:String) (n m:Nat),Mute { g:=i,fn:=f,pos:=p,act:=.recv φ.c n m }:=fun _ _ _ n _=>⟨rfl,fun m hm=>by cases hm⟩;have m4:∀ (i:Nat) (f:FuncId) (p:String) (n:Nat),Mute { g:=i,fn:=f,pos:=p,act:=.recvDone φ.c n }:=fun _ _ _ n=>⟨rfl,fun m hm=>by cases hm⟩;refine⟨?_,zam ..,by simp [hc.len],by simpa using hc.pos,by rw [jqi hj0];exact hc.head,fun i y gi hi hy hg=>?_,hperm,?_,zcm hc.noPark (by intros;simp),fun _=>?_,rfl,fun i j' hi=>(by cases hi),zcM hc.sentIn (.inl (by intros;simp)),List.nodup_nil,fun _=>rfl⟩
     ·rw [zdd,jqf,jqf]
      have hz4:=((((hc.zc.mute (m1 j gj.frame.fn gj.frame.place (r+0)) hlt).mute (m3 0 g2.frame.fn g2.frame.place r φ.cap) hc.pos).mute (m2 j gj.frame.fn gj.frame.place (r+0)) hlt).mute (m4 0 g2.frame.fn g2.frame.place r) hc.pos);refine ((hz4.take (p:=t.size) (q:=t.size+3) hc.z0 hz hj0 hc.pos (x:={ g:=j,fn:=gj.frame.fn,pos:=gj.frame.place,act:=.send φ.c (r+0) }) (y:={ g:=0,fn:=g2.frame.fn,pos:=g2.frame.place,act:=.recvDone φ.c r }) (c:=φ.c) (k:=r) ?_ rfl rfl ?_ rfl rfl ?_).world (size_setChan (W.at d) ..))
      ·exact zow ..
      ·exact zoG ..
      ·intro i op hi hg hs
       rw [← zdd] at hi;rcases getElem?_append_cases hi with ⟨h1,_⟩ | ⟨_,h1⟩
       ·exact h1
       ·simp only [List.mem_toArray,List.mem_cons,List.not_mem_nil,or_false] at h1
        rcases h1 with rfl | rfl | rfl | rfl<;>cases hs
     ·rw [jqc (Ne.symm hi)] at hg
      by_cases e:j=i
      ·subst e
       rw [ze3 hx] at hy;rw [zeh hgj] at hg
       cases hy;cases hg
       exact⟨hqq,by rw [zan _ _ hi,zam]⟩
      ·rw [jqi e] at hy
       rw [jqc e] at hg;rw [zan _ _ hi,zan _ _ (Ne.symm e)];exact (hc.ok i y gi hi hy hg).env fun zz hzz=>(zfn W d).trans (za6 fun y hy=>hlow i zz y hzz hy)
     ·refine hc.cap.imp id fun h=>?_
      rw [List.length_erase_of_mem hkp];omega
     ·rw [zds (W:=W.at d) (hc.zc.chan hon)];rfl
   ·
    have hnp:∀ (j k:Nat) (own A:Nat→Prop) (v:Value) (W0:World),l[j]?≠some (Ws.parked k own A v W0):=fun j k own A v W0 h=>hpk ⟨j,k,own,A,v,W0,h⟩;have hpn:partners (gs.setIfInBounds 0 ph) φ.c true=[]:=partners_nil fun i y hy=>by
     rcases hc.offersT h0 hoff hy with h | ⟨_,_,_,k,own,A,v,W0,h⟩
     ·exact h
     ·exact (hnp _ _ _ _ _ _ h).elim
    have hrr:=crowd_waits (P:=P) (sl:=sl) h0 hst' (fun cc hcc=>by
     rw [Array.mem_singleton.1 hcc];exact ways_recv_none (hc.chan hon) hpn)
    rw [show MemOp.ofEvents 0 g.frame.fn g.frame.place #[]=#[] from rfl] at hrr;refine .inl ⟨_,_,hrr,?_⟩;rw [Array.append_empty];refine zqM (Wp:=W) hon hp ?_ hc.acc _ _ _ _ Z #[] r .refl (zeh h0) hnp ⟨by rw [jqf];exact hc.zc,hc.z0,by simp [hc.len],by simpa using hc.pos,hc.head,fun j x gj hj hx hg=>?_,hc.perm,hc.cap,hc.noPark,hc.chan,hc.bsize,hc.fifo,hc.sentIn,hc.nodup,hc.zero⟩
    ·intro gs' W' sl' t' Z' l' k ownk Ak v Wk he' hkp hpost hek hds h0' ⟨r',hc'⟩
     exact ih W W' g2 k ownk Ak v Wk he hst he' hkp hpost hek hds gs' W' sl' t' Z' l' [] #[] r' .refl h0' hc'
    ·rw [jqc (Ne.symm hj)] at hg
     exact hc.ok j x gj hj hx hg
theorem zgE {fr:Frame} {W:World} (hM:Mn P (AtEnd P Post) ⟨false,0,0,fun _ _ _ _ _=>False⟩ [] own A (G fr []) W) (hsub:∀ b,own b→A b) (hlow:∀ b,A b→b<W.heap.size):Fin P Post (solo (G fr []) W) #[]:=by
 rw [solo_eq_crowd];refine zkI hM #[G fr []] W none #[] (fun j=>if j=0 then some ⟨own,A⟩ else none) [.gone 0] [] #[] 0 .refl rfl ⟨⟨fun j hj=>?_,fun j z b hz hb=>?_,fun j z b hz hb=>?_,fun i j zi zj b hij hzi hzj=>?_,⟨fun said=>?_,fun op hop=>?_,fun i x g z hx=>?_,fun i op x z hi=>?_,fun i op x hi=>?_⟩,fun i x b hi=>?_,fun i op hi=>?_,(fun h=>by cases h)⟩,rfl,rfl,by simp,rfl,fun j x g hj hx=>?_,List.Perm.refl _,.inl rfl,fun _ j k own A v W0 hj=>?_,(fun h=>by cases h),rfl,(fun i j hi=>by cases hi),fun j n k own A v W0 hj=>?_,List.nodup_nil,fun _=>rfl⟩
 ·have:j≠0:=by rintro rfl;simp at hj
  simp [this]
 ·by_cases e:j=0
  ·subst e;simp only [if_true,Option.some.injEq] at hz;subst hz;exact hsub b hb
  ·simp [e] at hz
 ·by_cases e:j=0
  ·subst e;simp only [if_true,Option.some.injEq] at hz;subst hz;exact⟨hlow b hb,fun h=>by cases h⟩
  ·simp [e] at hz
 ·by_cases e:i=0
  ·by_cases e2:j=0
   ·exact (hij (e.trans e2.symm)).elim
   ·simp [e2] at hzj
  ·simp [e] at hzi
 ·rintro ⟨i,j,_,⟨a,b,ha,_⟩,_⟩
  simp [Trace.act?] at ha
 ·simp at hop
 ·simp [touchAt,Trace.act?] at hx
 ·simp at hi
 ·simp at hi
 ·simp [touchAt,Trace.act?] at hi
 ·simp at hi
 ·cases j with
  | zero=>exact (hj rfl).elim
  | succ j=>cases hx
 ·cases j with
  | zero=>cases hj
  | succ j=>cases hj
 ·cases j with
  | zero=>cases hj
  | succ j=>cases hj
end
end Go.Con
namespace Go.Con
open Go Go.Conc
variable [Lone]
theorem EvA.mono {own A own' A' : Nat→Prop} {e:Event} (h:EvA own A e) (ho:∀ x,own x→own' x) (hA:∀ x,A x→A' x):EvA own' A' e:=by
 rcases h with ⟨a,h1,h2,h3,h4⟩ | ⟨b,h1,h2,h3,h4⟩ | h
 ·exact .inl ⟨a,h1,h2,hA _ h3,fun hw=>ho _ (h4 hw)⟩
 ·exact .inr (.inl ⟨b,h1,h2,hA _ h3,fun hw=>ho _ (h4 hw)⟩)
 ·exact .inr (.inr h)
theorem zeF {S S' : Nat→Prop} {W W' : World} (h:∀ x,S x→S' x):∀ x,grow S W W' x→grow S' W W' x:=fun x hx=>hx.imp (h x) id
theorem Does.mono {own A own' A' : Nat→Prop} {W W1:World} {es:Array Event} (h:Does own A W W1 es) (ho:∀ x,own x→own' x) (hA:∀ x,A x→A' x):Does own' A' W W1 es :=
 ⟨fun e he=>(h.ev e he).mono (zeF ho) (zeF hA),h.size,fun x hx hn=>h.keep x hx fun hc=>hn (ho x hc),h.os,h.output⟩
theorem Env.mono {A A' : Nat→Prop} {W W' : World} (h:Env A' W W') (hA:∀ x,A x→A' x):Env A W W':=⟨fun x hx=>h.heap x (hA x hx),h.size,h.os,h.output⟩
theorem Act.mono {P:Program} {Q Q' : (Nat→Prop)→(Nat→Prop)→Frame→List Frame→World→Prop} {own A:Nat→Prop} {fr:Frame} {cs:List Frame} {W:World} (h:Act P Q own A fr cs W) (hq:∀ own A fr cs W,Q own A fr cs W→Q' own A fr cs W):Act P Q' own A fr cs W:=by
 induction h with
 | done h=>exact .done (hq _ _ _ _ _ h)
 | step h1 _ ih=>exact .step h1 ih
structure zpQ (own A own' A' : Nat→Prop) (W:World) (o a o' a' : Nat→Prop) (W2:World):Prop where
 oo:∀ x,o x→o' x
 aa:∀ x,a x→a' x
 oo' : ∀ x,own' x→o' x
 aa' : ∀ x,A' x→a' x
 ob:∀ x,o x→own x∨W.heap.size≤x
 ob' : ∀ x,o' x→own' x∨W.heap.size≤x
 keep:∀ x,A' x→x<W.heap.size→¬ own x→W2.heap[x]?=W.heap[x]?
 size:W.heap.size≤W2.heap.size
theorem Act.frame {P:Program} {Q:(Nat→Prop)→(Nat→Prop)→Frame→List Frame→World→Prop} {own A:Nat→Prop} {fr:Frame} {cs:List Frame} {W:World} (h:Act P Q own A fr cs W) :
  ∀ {own' A' : Nat→Prop},(∀ x,own x→own' x)→(∀ x,A x→A' x)→Act P (fun o' a' fr' cs' W2=>∃ o a,Q o a fr' cs' W2∧zpQ own A own' A' W o a o' a' W2) own' A' fr cs W:=by
 induction h with
 | done h=>exact fun ho hA=>.done ⟨_,_,h,ho,hA,fun _ h=>h,fun _ h=>h,fun _ h=>.inl h,fun _ h=>.inl h,fun _ _ _ _=>rfl,Nat.le_refl _⟩
 | @step own A fr cs W h1 _ ih =>
  intro own' A' ho hA;refine .step (fun W' main st off he=>?_) fun W' main st off fr' cs' W1 es he hs=>?_
  ·obtain⟨fr',cs',W1,es,h,hd⟩:=h1 W' main st off (he.mono hA)
   exact⟨fr',cs',W1,es,h,hd.mono ho hA⟩
  ·obtain⟨fr1,cs1,W1',es',h,hd⟩:=h1 W' main st off (he.mono hA)
   have e:=h.symm.trans hs;simp only [GStep.go.injEq,Goroutine.mk.injEq,and_true] at e;obtain⟨⟨rfl,rfl⟩,rfl,rfl⟩:=e;have:=ih W' main st off fr1 cs1 W1' es' (he.mono hA) h (zeF (W:=W') (W':=W1') ho) (zeF (W:=W') (W':=W1') hA);refine this.mono fun o' a' fr2 cs2 W2 hq=>?_;obtain⟨o,a,hq,hf⟩:=hq;refine⟨o,a,hq,hf.oo,hf.aa,fun x hx=>hf.oo' x (.inl hx),fun x hx=>hf.aa' x (.inl hx),fun x hx=>?_,fun x hx=>?_,fun x hx hlt hn=>?_,jqb he.size (jqb hd.size hf.size)⟩
   ·rcases hf.ob x hx with (h | h) | h
    ·exact .inl h
    ·exact .inr (jqb he.size h.1)
    ·exact .inr (jqb he.size (jqb hd.size h))
   ·rcases hf.ob' x hx with (h | h) | h
    ·exact .inl h
    ·exact .inr (jqb he.size h.1)
    ·exact .inr (jqb he.size (jqb hd.size h))
   ·have hlt' : x<W'.heap.size:=jql hlt he.size
    rw [hf.keep x (.inl hx) (jql hlt' hd.size) (fun h=>h.elim hn fun h=>by omega),hd.keep x hlt' hn,he.heap x hx]
def gor (ρ:Rn) (fr:Frame) (cs:List Frame):Goroutine:={ frame:=zaa ρ fr,callers:=cs.map (zaa ρ),status:=.running,dying:=none }
def CellsAt (W:World) (x:Nat):Prop:=∃ c e fz,W.heap[x]?=some (.cells c e fz)
structure Here (P:Program) (maps:Bool) (E Fz Arg:Nat→Prop) (W0:World) (ρ:Rn) (D own A:Nat→Prop) (fr:Frame) (cs:List Frame) (W W' : World):Prop where
 sim:Sim P maps E ρ D Fz fr cs W W'
 hown:∀ b,D b→¬ Fz b→own (ρ.p b)
 hA:∀ b,D b→A (ρ.p b)
 keep:∀ x,Arg x→A x∧¬ own x∧x<W'.heap.size∧W'.heap[x]?=W0.heap[x]?
 ed:EmptyDef W
 tok:∀ x,ρ.c (2 * x)=.chan (some x)
 junk:∀ x,x<W.heap.size→A (ρ.p x)∨ρ.p x<W0.heap.size
 far:W0.heap.size≤W'.heap.size∧∀ b,D b→CellsAt W0 (ρ.p b)∨W0.heap.size≤ρ.p b
section
variable {P:Program} {maps:Bool} {E Fz Arg:Nat→Prop} {W0:World} {ρ:Rn} {D own A:Nat→Prop} {fr:Frame} {cs:List Frame} {W W' W'' : World}
theorem Here.env (h:Here P maps E Fz Arg W0 ρ D own A fr cs W W') (he:Env A W' W''):Here P maps E Fz Arg W0 ρ D own A fr cs W W'' :=
 ⟨h.sim.env (fun b hb=>he.heap _ (h.hA b hb)) he.size he.os he.output,h.hown,h.hA,fun x hx=>⟨(h.keep x hx).1,(h.keep x hx).2.1,jql (h.keep x hx).2.2.1 he.size,(he.heap x (h.keep x hx).1).trans (h.keep x hx).2.2.2⟩,h.ed,h.tok,h.junk,jqb h.far.1 he.size,h.far.2⟩
def GoM (P:Program) (maps:Bool) (E Fz Arg:Nat→Prop) (W0:World) (Q:(Nat→Prop)→(Nat→Prop)→Goroutine→World→Prop) (φ:Ph) (pend:List Nat) (fr:Frame) (cs:List Frame) (W:World):Prop :=
 ∀ ρ D own A W',Here P maps E Fz Arg W0 ρ D own A fr cs W W'→Mn P Q φ pend own A (gor ρ fr cs) W'
variable {Q:(Nat→Prop)→(Nat→Prop)→Goroutine→World→Prop} {φ:Ph} {pend:List Nat}
theorem Here.tape (h:Here P maps E Fz Arg W0 ρ D own A fr cs W W') (τ:Tape):Here P maps E Fz Arg W0 ρ D own A fr cs { W with tape:=τ } W' :=
 ⟨⟨h.sim.rok,h.sim.hG,h.sim.lt,h.sim.bd,h.sim.fz,h.sim.sup,h.sim.sups,h.sim.os,h.sim.output,h.sim.obj,h.sim.supo⟩,h.hown,h.hA,h.keep,h.ed,h.tok,h.junk,h.far⟩
theorem Here.step (h:Here P maps E Fz Arg W0 ρ D own A fr cs W W') (hsr:SRH P maps fr cs) (hh:zgn P maps fr) {fr' : Frame} {cs' : List Frame} {Wf:World}
  (hr:(zao P fr cs).run P { W with tape:=shift W W' }=.ok (fr',cs') Wf) (hed:EmptyDef Wf) :
  ∃ W1 es,stepG P true (gor ρ fr cs) W'=.go (gor (ext ρ W.heap.size W'.heap.size) fr' cs') W1 es∧Does own A W' W1 es ∧
   Here P maps E Fz Arg W0 (ext ρ W.heap.size W'.heap.size) (fun b=>D b∨(W.heap.size≤b∧b<Wf.heap.size)) (grow own W' W1) (grow A W' W1) fr' cs' Wf W1:=by
 obtain⟨W1,g1,g2,g3,g4,g5⟩:=h.sim.stepS hsr hr;have hrun:=h.sim;have hle:W.heap.size≤Wf.heap.size:=za9 (W:={ W with tape:=shift W W' }) hr;have hold:∀ b,b<W.heap.size→(ext ρ W.heap.size W'.heap.size).p b=ρ.p b:=fun b hb=>by simp [ext,hb]
 have hnew:∀ b,W.heap.size≤b→(ext ρ W.heap.size W'.heap.size).p b=b-W.heap.size+W'.heap.size:=fun b hb=>by simp [ext,Nat.not_lt.2 hb]
 have hos:Wf.os=W.os∧Wf.output=W.output:=by
  have hw:Sup P (mdOf P maps) (gd P) (fun b=>D b∨W.heap.size≤b) E (fun _=>True) (zao P fr cs):=by
   have hA:=hsr _ zlx;have hB:=hsr _ (zkP (D:=fun b=>D b∨W.heap.size≤b) (E:=E));have hDD:∀ b,D b→(fun b=>D b∨W.heap.size≤b) b:=fun b hb=>.inl hb;rw [← sups_map.1 fun c hcm=>zbW hDD (h.sim.sups c hcm),← show zaa (RA (gd P)) fr=zaa (RB (gd P) (fun b=>D b∨W.heap.size≤b) E) fr from zbW hDD h.sim.sup] at hB;exact (zkB (mf:=mdOf P maps) (G:=gd P) (D:=fun b=>D b∨W.heap.size≤b) (E:=E) (fun b hb=>.inl (h.sim.hG b hb)) hA hB).mono fun _ _=>trivial
  have hlw:LW (gd P) (fun b=>D b∨W.heap.size≤b) E (mdOf P maps) { W with tape:=shift W W' }:=by
   intro b o hb ho;have hlt:b<W.heap.size:=by
    rcases jqe b W.heap.size with h | h
    ·exact h
    ·rw [show ({ W with tape:=shift W W' }:World).heap=W.heap from rfl,Array.getElem?_eq_none h] at ho;cases ho
   obtain⟨h1,h2⟩:=h.sim.supo b o (hb.resolve_right (Nat.not_le.2 hlt)) ho;exact⟨zcr (fun b hb=>.inl hb) h1,h2⟩
  have:=hw.run1 hlw h.ed (fun b hb=>.inr hb);unfold Run1 at this;rw [hr] at this;exact⟨this.2.2.2.2.2.2.1,this.2.2.2.2.2.2.2.1⟩
 obtain⟨es,hgo,hes⟩:=zdX (main:=true) (st:=.running) (off:=none) (P:=P) (maps:=maps) (fr:=zaa ρ fr) (cs:=cs.map (zaa ρ)) ⟨fun it t e=>by
   have e' : fr.todo.map (zal ρ)=it :: t:=e
   cases hf:fr.todo with
   | nil=>rw [hf] at e';cases e'
   | cons it0 t0 =>
    rw [hf] at e';simp only [List.map_cons,List.cons.injEq] at e';obtain⟨rfl,_⟩:=e';have:=hh.todo it0 t0 hf
    cases it0 with
    | code c=>exact this
    | inRegion ops l=>cases l<;>exact this
    | _=>exact this,hh.mode,fun d hd=>by
   obtain⟨d0,h0,rfl⟩:=List.mem_map.1 hd;obtain⟨r,rfl⟩:=hh.defers d0 h0;exact⟨ρ.p r,by simp [zaM,zdf]⟩,hh.kind.imp id fun h=>⟨h.1,h.2.1,by simp [zaa,h.2.2]⟩⟩ g1
 have hdoes:Does own A W' W1 es:=by
  refine⟨fun e he=>?_,g3.1,fun x hx hn=>g3.2 x hx fun b hb hz hx2=>?_,?_,?_⟩
  ·have hA:∀ b,(D b∨(W.heap.size≤b∧b<Wf.heap.size))→grow A W' W1 ((ext ρ W.heap.size W'.heap.size).p b):=by
    intro b hb;rcases hb with hb | hb
    ·rw [hold b (h.sim.lt b hb)];exact .inl (h.hA b hb)
    ·rw [hnew b hb.1];exact .inr ⟨by omega,by omega⟩
   have hO:∀ b,(D b∨(W.heap.size≤b∧b<Wf.heap.size))→¬ Fz b→grow own W' W1 ((ext ρ W.heap.size W'.heap.size).p b):=by
    intro b hb hz;rcases hb with hb | hb
    ·rw [hold b (h.sim.lt b hb)];exact .inl (h.hown b hb hz)
    ·rw [hnew b hb.1];exact .inr ⟨by omega,by omega⟩
   rcases g5 e (hes e he) with ⟨a,b,e1,e2,e3,e4,e5⟩ | ⟨b,e1,e2,e3,e5⟩ | he2
   ·exact .inl ⟨a,e1,e2,by rw [e4];exact hA b e3,fun hw=>by rw [e4];exact hO b e3 (e5 hw)⟩
   ·exact .inr (.inl ⟨_,e1,e2,hA b e3,fun hw=>hO b e3 (e5 hw)⟩)
   ·exact .inr (.inr he2)
  ·rcases hb with hb | hb
   ·rw [hold b (h.sim.lt b hb)] at hx2
    exact hn (hx2 ▸ h.hown b hb hz)
   ·rw [hnew b hb.1] at hx2;omega
  ·rw [g2.os,h.sim.os,hos.1]
  ·rw [g2.output,h.sim.output,hos.2]
 refine⟨W1,es,hgo,hdoes,g2,fun b hb hz=>?_,fun b hb=>?_,fun x hx=>?_,hed,h.tok,fun x hx=>?_,jqb h.far.1 g3.1,fun b hb=>?_⟩
 ·rcases hb with hb | hb
  ·rw [hold b (h.sim.lt b hb)];exact .inl (h.hown b hb hz)
  ·rw [hnew b hb.1];exact .inr ⟨by omega,by omega⟩
 ·rcases hb with hb | hb
  ·rw [hold b (h.sim.lt b hb)];exact .inl (h.hA b hb)
  ·rw [hnew b hb.1];exact .inr ⟨by omega,by omega⟩
 ·obtain⟨k1,k2,k3,k4⟩:=h.keep x hx
  exact⟨.inl k1,fun ho=>ho.elim k2 fun ho=>by omega,jql k3 g3.1,(hdoes.keep x k3 k2).trans k4⟩
 ·rcases jqe x W.heap.size with hlt | hge
  ·rw [hold x hlt]
   exact (h.junk x hlt).imp .inl id
  ·rw [hnew x hge]
   exact .inl (.inr ⟨by omega,by omega⟩)
 ·rcases hb with hb | hb
  ·rw [hold b (h.sim.lt b hb)];exact h.far.2 b hb
  ·rw [hnew b hb.1];have:=h.far.1;exact .inr (by omega)
theorem GoM.step (hsr:SRH P maps fr cs) (hh:zgn P maps fr)
  (hrun:∀ τ:Tape,Agree W.drawn τ W.tape→∃ fr' cs' W1,(zao P fr cs).run P { W with tape:=τ }=.ok (fr',cs') W1∧(EmptyDef W→EmptyDef W1)∧GoM P maps E Fz Arg W0 Q φ pend fr' cs' W1) :
  GoM P maps E Fz Arg W0 Q φ pend fr cs W:=by
 intro ρ D own A W' h;have key:∀ W'',Env A W' W''→∃ fr' cs' Wf W1 es,stepG P true (gor ρ fr cs) W''=.go (gor (ext ρ W.heap.size W''.heap.size) fr' cs') W1 es∧Does own A W'' W1 es∧GoM P maps E Fz Arg W0 Q φ pend fr' cs' Wf ∧
   Here P maps E Fz Arg W0 (ext ρ W.heap.size W''.heap.size) (fun b=>D b∨(W.heap.size≤b∧b<Wf.heap.size)) (grow own W'' W1) (grow A W'' W1) fr' cs' Wf W1:=by
  intro W'' he;have h':=h.env he;obtain⟨fr',cs',Wf,hr,hed,hg⟩:=hrun (shift W W'') (zdm W W'');obtain⟨W1,es,a,b,c⟩:=h'.step hsr hh hr (hed h.ed);exact⟨fr',cs',Wf,W1,es,a,b,hg,c⟩
 refine .step rfl (fun W'' he=>?_) fun W'' g' W1 es he hs=>?_
 ·obtain⟨fr',cs',Wf,W1,es,a,b,_⟩:=key W'' he
  exact⟨_,W1,es,a,b,rfl⟩
 ·obtain⟨fr',cs',Wf,W1',es',a,b,c,d⟩:=key W'' he
  rw [a] at hs;cases hs
  exact c _ _ _ _ _ d
end
end Go.Con
