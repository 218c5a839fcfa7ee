import Derived.Test.YtedomogjmhommaaH36
set_option linter.all false
set_option maxRecDepth 100000
set_option maxHeartbeats 8000000
namespace Go.Con
open Go Go.Conc
variable [Lone]
def Fin (P:Program) (Post:Value→World→Prop) (m:Machine) (t:Trace):Prop :=
 ∃ N last o w' t',runNT P (N+1) m t=(.ended o w',t')∧runN P N m=.next last∧step P last=.ended o w'∧Good P Post last o w' t'
theorem Fin.head {P:Program} {Post:Value→World→Prop} {m m' : Machine} {t ops:Trace} (h:stepT P m=(.next m',ops)) (hf:Fin P Post m' (t++ops)):Fin P Post m t:=by
 obtain⟨n,last,o,w,t',h1,h2,h3,h4⟩:=hf
 exact⟨n+1,last,o,w,t',by rw [runNT_succ_next h];exact h1,by rw [runN_succ_next h];exact h2,h3,h4⟩
def FinR (P:Program) (Post:Value→World→Prop) (gs:Array Goroutine) (res:Stepped×Trace) (t:Trace):Prop :=
 (∃ m' ops,res=(.next m',ops)∧Fin P Post m' (t++ops))∨(∃ o w ops,res=(.ended o w,ops)∧∀ W sl,Good P Post (crowd gs W sl) o w (t++ops))
def AtEnd (P:Program) (Post:Value→World→Prop) (own A:Nat→Prop) (g:Goroutine) (W:World):Prop :=
 ∃ v es,stepG P true g W=.ended (.done v) W es∧(∀ e∈es,EvA own A e)∧Post v W
section
variable {P:Program} {φ:Ph} {pend:List Nat} {own A:Nat→Prop} {Post:Value→World→Prop}
theorem Cfg.awake {gs:Array Goroutine} {W:World} {t:Trace} {Z:Nat→Option Zone} {l:List Ws} {L:List Nat} {buf:Array Value} {r:Nat} (h:Cfg P φ pend own A gs W t Z l L buf r) {g0:Goroutine} (h0:gs[0]?=some g0)
  (hm:g0.status=.running∨g0.status=.blocked):∀ g∈gs,Go.Conc.awake g:=by
 intro g hg
 obtain⟨i,hi⟩:=Array.mem_iff_getElem?.1 hg
 by_cases e:i=0
 ·subst e
  rw [h0] at hi
  cases hi
  exact awake_of (hm.elim .inl fun h=>.inr (.inl h))
 ·obtain⟨x,_,hok⟩:=h.ws e hi
  exact awake_of hok.status
theorem spin {g:Goroutine} {W0:World} (hr:g.status=.running)
  (hmain:∀ gs W sl t Z l L buf r,Env A W0 W→gs[0]?=some g→Cfg P φ pend own A gs W t Z l L buf r→FinR P Post gs (runT P (crowd gs W sl) 0) t) :
  ∀ {l:List Ws},Acc (LLt P) l→∀ gs W sl t Z L buf r,Env A W0 W→gs[0]?=some g→Cfg P φ pend own A gs W t Z l L buf r→Fin P Post (crowd gs W sl) t:=by
 intro l hl
 induction hl with
 | intro l _ ih =>
  intro gs W sl t Z L buf r he h0 hc
  obtain⟨i,gi,d,sl',hi,hgi,hst⟩:=crowd_pick (P:=P) (w:=W) (sl:=sl) (hc.awake h0 (.inl hr)) ⟨0,g,h0,hr⟩
  by_cases e:i=0
  ·subst e
   rcases hmain gs (W.at d) sl' t Z l L buf r (he.trans (zfz W d)) h0 (hc.at d) with ⟨m',ops,h1,h2⟩ | ⟨o,w,ops,h1,h2⟩
   ·exact .head (hst.trans h1) h2
   ·exact⟨0,_,o,w,t++ops,by simp [runNT,hst.trans h1],rfl,by simp [step,hst.trans h1],h2 _ _⟩
  ·rcases (hc.at d).worker h0 (.inl hr) (sl:=sl') e hi hgi with ⟨gs',W',ops,Z',l',L',buf',h1,h2,h3,h4,_,h6⟩ | ⟨g2,z,ok,gs',W',ops,Z',l',k,ownk,Ak,v,Wk,h1,_⟩
   ·exact .head (hst.trans h1) (ih l' h2 gs' W' sl' _ Z' L' buf' r (he.trans ((zfz W d).trans h4)) h3 h6)
   ·rw [h1] at hr;cases hr
theorem zoO {gs:Array Goroutine} {W:World} {t:Trace} {Z:Nat→Option Zone} {l:List Ws} {buf:Array Value} {r:Nat} (hc:Cfg P φ pend own A gs W t Z l [] buf r) (hp:pend≠[])
  (hnp:∀ (j k:Nat) (own A:Nat→Prop) (v:Value) (W0:World),l[j]?≠some (Ws.parked k own A v W0)):∃ (i:Nat) (g:Goroutine),gs[i]?=some g∧g.status=.running:=by
 obtain⟨k,hk⟩:∃ k,k∈l.filterMap Ws.key:=by
  cases pend with
  | nil=>exact (hp rfl).elim
  | cons k _=>exact⟨k,hc.perm.mem_iff.2 (List.mem_cons_self ..)⟩
 obtain⟨x,hx,hxk⟩:=List.mem_filterMap.1 hk
 obtain⟨j,hj⟩:=List.getElem?_of_mem hx
 have hj0:j≠0:=by
  rintro rfl
  rw [hc.head] at hj
  cases hj
  cases hxk
 have hlt:j<gs.size:=by rw [← hc.len];exact (List.getElem?_eq_some_iff.1 hj).1
 have hok:=hc.ok j x _ hj0 hj (Array.getElem?_eq_getElem hlt)
 cases x with
 | live k own A g0 W0=>exact⟨j,_,Array.getElem?_eq_getElem hlt,by rw [hok.1];exact hok.2.2.2.2.running⟩
 | parked=>exact (hnp _ _ _ _ _ _ hj).elim
 | sent=>have:=hc.sentIn _ _ _ _ _ _ _ hj;cases this
 | gone=>cases hxk
theorem zro {g2:Goroutine} {z:Value} {ok:Bool} {Wp:World} (hon:φ.on=true) (hp:pend≠[])
  (hmain:∀ gs W sl t Z l k ownk Ak v Wk,Env A Wp W→k∈pend→φ.posts k ownk Ak v Wk→Env Ak Wk W→(∀ x,ownk x→¬ A x)→gs[0]?=some (g2.finishComm P #[rcase φ.c z] (.recv ok) 0 v true) →
   (∃ r,Cfg P φ (pend.erase k) (fun b=>own b∨ownk b) (fun b=>A b∨Ak b) gs W t Z l [] #[] r)→Fin P Post (crowd gs W sl) t) :
  ∀ {l:List Ws},Acc (LLt P) l→∀ gs W sl t Z buf r,Env A Wp W→gs[0]?=some (parked g2 #[rcase φ.c z] (.recv ok))→(∀ (j k:Nat) (own A:Nat→Prop) (v:Value) (W0:World),l[j]?≠some (Ws.parked k own A v W0)) →
   Cfg P φ pend own A gs W t Z l [] buf r→Fin P Post (crowd gs W sl) t:=by
 intro l hl
 induction hl with
 | intro l _ ih =>
  intro gs W sl t Z buf r he h0 hnp hc
  obtain⟨i,gi,d,sl',hi,hgi,hst⟩:=crowd_pick (P:=P) (w:=W) (sl:=sl) (hc.awake h0 (.inr rfl)) (zoO hc hp hnp)
  have e:i≠0:=by
   rintro rfl
   rw [h0] at hi
   cases hi
   cases hgi
  rcases (hc.at d).worker h0 (.inr ⟨⟨g2,z,ok,rfl⟩,rfl,hon,hnp⟩) (sl:=sl') e hi hgi with ⟨gs',W',ops,Z',l',L',buf',h1,h2,h3,h4,h5,h6⟩ | ⟨g2',z',ok',gs',W',ops,Z',l',k,ownk,Ak,v,Wk,h1,h2,h3,h4,h5,h6,h7,h8,h9⟩
  ·rcases h5 with h5 | ⟨_,rfl,_,h5⟩
   ·cases h5
   ·exact .head (hst.trans h1) (ih l' h2 gs' W' sl' _ Z' buf' r (he.trans ((zfz W d).trans h4)) h3 h5 h6)
  ·refine .head (hst.trans h2) (hmain gs' W' sl' _ Z' l' k ownk Ak v Wk (he.trans ((zfz W d).trans h6)) h3 h4 h5 h9 ?_ ⟨_,h8⟩)
   have e1:g2'={ g2' with status:=.blocked,offers:=g2'.offers }∨True:=.inr trivial
   have hinj:parked g2 #[rcase φ.c z] (.recv ok)=parked g2' #[rcase φ.c z'] (.recv ok'):=h1
   have hfr:g2.finishComm P #[rcase φ.c z] (.recv ok) 0 v true=g2'.finishComm P #[rcase φ.c z'] (.recv ok') 0 v true:=by
    have ho:=congrArg Goroutine.offers hinj
    simp only [parked,Option.some.injEq,Prod.mk.injEq,CommShape.recv.injEq] at ho
    obtain⟨ho1,rfl⟩:=ho
    rw [← finishComm_parked P g2 #[rcase φ.c z] #[rcase φ.c z] (.recv ok) (.recv ok),← finishComm_parked P g2' #[rcase φ.c z'] #[rcase φ.c z'] (.recv ok) (.recv ok),hinj,ho1]
   rw [hfr]
   exact h7
theorem zlS {g:Goroutine} {W0:World} (hM:Mn P (AtEnd P Post) φ pend own A g W0) :
  ∀ gs W sl t Z l L buf r,Env A W0 W→gs[0]?=some g→Cfg P φ pend own A gs W t Z l L buf r→Fin P Post (crowd gs W sl) t:=by
 induction hM with
 | @done φ own A g W0 hr h =>
  intro gs W sl t Z l L buf r he h0 hc
  refine spin hr ?_ hc.acc gs W sl t Z L buf r he h0 hc
  clear he h0 hc
  intro gs W sl t Z l L buf r he h0 hc
  obtain⟨v,es,hst,hes,hpost⟩:=h W he
  have hrr:=runT_many_ended (P:=P) (sl:=sl) (i:=0) h0 (show stepG P (0 == 0) g W=_ from hst)
  have hd:Does own A W W es:=⟨fun e he=>by
   rcases hes e he with ⟨a,h1,h2,h3,h4⟩ | ⟨b,h1,h2,h3,h4⟩ | h
   ·exact .inl ⟨a,h1,h2,.inl h3,fun hw=>.inl (h4 hw)⟩
   ·exact .inr (.inl ⟨b,h1,h2,.inl h3,fun hw=>.inl (h4 hw)⟩)
   ·exact .inr (.inr h),Nat.le_refl _,fun _ _ _=>rfl,rfl,rfl⟩
  have hz:=hc.zc.go (fn:=g.frame.fn) (pos:=g.frame.place) hc.pos hc.z0 hd
  have hgone:∀ j g,j≠0→gs[j]?=some g→(∃ n,QuitsIn P n g)∧Z j=none:=by
   intro j g hj hg
   obtain⟨x,hx,hok⟩:=hc.ws hj hg
   have hk:x.key=none:=by
    cases hk:x.key with
    | none=>rfl
    | some k =>
     have:k∈l.filterMap Ws.key:=List.mem_filterMap.2 ⟨x,List.mem_of_getElem? hx,hk⟩
     have:=hc.perm.mem_iff.1 this
     cases this
   cases x with
   | gone n=>exact⟨⟨n,hok.1⟩,hok.2⟩
   | _=>cases hk
  refine .inr ⟨_,_,_,hrr,fun W2 sl2=>⟨v,rfl,hpost,hz.ti.clean,fun i j hg hne hcnt=>?_,⟨fun x hx=>?_,rfl⟩,fun j x hx hj=>?_⟩⟩
  ·obtain⟨x,hx,hm,_⟩:=hcnt
   obtain⟨op,ho,hox⟩:=touch_of hx
   have hopg:op.g=j:=by simpa [Trace.g?,ho] using hg
   have hzj:setZ Z 0 (some ⟨grow own W W,grow A W W⟩) op.g=none:=by
    rw [hopg,zas _ _ hne]
    have hlt:=hz.new i op ho
    rw [hopg] at hlt
    exact (hgone j _ hne (Array.getElem?_eq_getElem hlt)).2
   obtain⟨q,y,hq,hyg,hb⟩:=hz.ti.gone i op x ho hox hm (by rw [hopg];exact hne) hzj
   rcases hb with rfl | hb
   ·rw [ho] at hq
    cases hq
    exact (hne (hopg.symm.trans hyg)).elim
   ·exact⟨q,by simp [Trace.g?,hq,hyg],hb⟩
  ·obtain⟨j,hj⟩:=List.mem_iff_getElem?.1 hx
   rw [List.getElem?_drop] at hj
   obtain⟨⟨n,hq⟩,_⟩:=hgone (1+j) x (by omega) (by simpa [crowd] using hj)
   exact⟨n,(QuitsD.of_quitsIn hq).leaves⟩
  ·obtain⟨⟨n,hq⟩,_⟩:=hgone j x hj hx
   rw [hz.ti.word.deaf]
   exact⟨n,(QuitsD.of_quitsIn hq).hears _⟩
 | @step φ pend own A g W0 hr h1 h2 ih =>
  intro gs W sl t Z l L buf r he h0 hc
  refine spin hr ?_ hc.acc gs W sl t Z L buf r he h0 hc
  clear he h0 hc
  intro gs W sl t Z l L buf r he h0 hc
  obtain⟨g',W1,es,hst,hd,_⟩:=h1 W he
  have hrr:=runT_crowd_go (P:=P) (sl:=sl) (i:=0) h0 (show stepG P (0 == 0) g W=_ from hst)
  have hstill:(gs.map (woken P g g' W1)).setIfInBounds 0 g'=gs.setIfInBounds 0 g':=by
   refine zhR fun i x hi hx=>?_
   obtain⟨y,_,hok⟩:=hc.ws hi hx
   exact hok.woken fun hon=>(hc.chanKeep hc.z0 hd hon).trans (hc.chan hon)
  rw [hstill] at hrr
  refine .inl ⟨_,_,hrr,ih W g' W1 es he hst _ _ _ _ (setZ Z 0 (some ⟨grow own W W1,grow A W W1⟩)) l L buf r .refl (zdS h0) ?_⟩
  refine⟨by rw [Array.size_setIfInBounds];exact hc.zc.go hc.pos hc.z0 hd,zao ..,by simp [hc.len],by simpa using hc.pos,hc.head,fun j x gj hj hx hg=>?_,hc.perm,hc.cap,hc.noPark,fun ho=>(hc.chanKeep hc.z0 hd ho).trans (hc.chan ho),hc.bsize,fun i j hi=>?_,hc.sentIn,hc.nodup,hc.zero⟩
  ·rw [Array.getElem?_setIfInBounds_ne (Ne.symm hj)] at hg
   rw [zas _ _ hj]
   exact (hc.ok j x gj hj hx hg).env fun zz hzz=>hc.zc.env hj hc.z0 hzz hd
  ·obtain⟨v,hb,hsa⟩:=hc.fifo i j hi
   exact⟨v,hb,hsa.app (znD (hc.fifo_ne (List.mem_of_getElem? hi)))⟩
 | @phase φ own A g W0 hr φ' hon ho hch h ih =>
  intro gs W sl t Z l L buf r he h0 hc
  have hgone:∀ j x,j≠0→l[j]?=some x→∃ n,x=.gone n:=by
   intro j x hj hx
   have hk:x.key=none:=by
    cases hk:x.key with
    | none=>rfl
    | some k =>
     have:k∈l.filterMap Ws.key:=List.mem_filterMap.2 ⟨x,List.mem_of_getElem? hx,hk⟩
     have:=hc.perm.mem_iff.1 this
     cases this
   cases x with
   | gone n=>exact⟨n,rfl⟩
   | _=>cases hk
  have hZ:∀ j,j≠0→Z j=none:=by
   intro j hj
   rcases Nat.lt_or_ge j gs.size with hlt | hge
   ·obtain⟨x,hx,hok⟩:=hc.ws hj (Array.getElem?_eq_getElem hlt)
    obtain⟨n,rfl⟩:=hgone j x hj hx
    exact hok.2
   ·exact hc.zc.out j hge
  refine ih gs W sl t _ l [] #[] 0 ⟨fun x hx=>he.heap x hx.1,he.size,he.os,he.output⟩ h0 ⟨hc.zc.phase hc.z0 ho hZ,zao ..,hc.len,hc.pos,hc.head,fun j x gj hj hx hg=>?_,hc.perm,.inr (Nat.zero_le _),fun _ j k own A v W0 hj=>?_,fun _=>hch W he,rfl,fun i j hi=>(by cases hi),fun j n k own A v W0 hj=>?_,List.nodup_nil,fun _=>rfl⟩
  ·obtain⟨n,rfl⟩:=hgone j x hj hx
   have:=hc.ok j _ gj hj hx hg
   exact⟨this.1,by rw [zas _ _ hj];exact this.2⟩
  ·by_cases e:j=0
   ·subst e;rw [hc.head] at hj;cases hj
   ·obtain⟨n,hn⟩:=hgone j _ e hj;cases hn
  ·by_cases e:j=0
   ·subst e;rw [hc.head] at hj;cases hj
   ·obtain⟨n,hn⟩:=hgone j _ e hj;cases hn
 | @reclaim φ own A g W0 hr own2 h2 h ih =>
  intro gs W sl t Z l L buf r he h0 hc
  have hgone:∀ j x,j≠0→l[j]?=some x→∃ n,x=.gone n:=by
   intro j x hj hx
   have hk:x.key=none:=by
    cases hk:x.key with
    | none=>rfl
    | some k =>
     have:k∈l.filterMap Ws.key:=List.mem_filterMap.2 ⟨x,List.mem_of_getElem? hx,hk⟩
     have:=hc.perm.mem_iff.1 this
     cases this
   cases x with
   | gone n=>exact⟨n,rfl⟩
   | _=>cases hk
  have hZ:∀ j,j≠0→Z j=none:=by
   intro j hj
   rcases Nat.lt_or_ge j gs.size with hlt | hge
   ·obtain⟨x,hx,hok⟩:=hc.ws hj (Array.getElem?_eq_getElem hlt)
    obtain⟨n,rfl⟩:=hgone j x hj hx
    exact hok.2
   ·exact hc.zc.out j hge
  exact ih gs W sl t (setZ Z 0 (some ⟨own2,A⟩)) l L buf r he h0 { hc with
   zc:=hc.zc.reclaim hc.z0 h2 hZ
   z0:=zao ..
   ok:=fun j x gj hj hx hg=>by rw [zas _ _ hj];exact hc.ok j x gj hj hx hg }
 | @spawn φ pend own A g W0 hr hon k Ac hAc hcap h1 h2 ih =>
  intro gs W sl t Z l L buf r he h0 hc
  refine spin hr ?_ hc.acc gs W sl t Z L buf r he h0 hc
  clear he h0 hc
  intro gs W sl t Z l L buf r he h0 hc
  obtain⟨g',ch,hst,hr',hwk⟩:=h1 W he
  have hrr:=runT_crowd_spawn (P:=P) (sl:=sl) (i:=0) h0 (show stepG P (0 == 0) g W=_ from hst)
  rw [show MemOp.ofEvents 0 g.frame.fn g.frame.place #[]=#[] from rfl] at hrr
  refine .inl ⟨_,_,hrr,ih W g' ch he hst _ _ _ _ (setZ (setZ Z gs.size (some ⟨fun _=>False,Ac⟩)) 0 (some ⟨fun b=>own b∧¬ Ac b,A⟩)) (l++[.live k (fun _=>False) Ac ch W]) L buf r .refl ?_ ⟨?_,zao ..,by simp [hc.len],by simp,?_,fun j x gj hj hx hg=>?_,?_,?_,fun hcz j k own A v W0 hj=>?_,hc.chan,hc.bsize,fun i j hi=>?_,fun j n k own A v W0 hj=>?_,hc.nodup,hc.zero⟩⟩
  ·rw [Array.getElem?_push_lt (by simpa using hc.pos)]
   have:=zdS (y:=g') h0
   rwa [Array.getElem?_eq_getElem (by simpa using hc.pos)] at this
  ·have hops:t++((#[]:Trace).push { g:=0,fn:=g.frame.fn,pos:=g.frame.place,act:=.go gs.size }).push { g:=gs.size,fn:=ch.frame.fn,pos:=g.frame.place,act:=.start }=(t.push { g:=0,fn:=g.frame.fn,pos:=g.frame.place,act:=.go gs.size }).push { g:=gs.size,fn:=ch.frame.fn,pos:=g.frame.place,act:=.start }:=zd1 ..
   rw [hops,Array.size_push,Array.size_setIfInBounds]
   exact hc.zc.spawn hc.z0 hc.pos hAc rfl rfl rfl rfl
  ·rw [List.getElem?_append_left (by rw [hc.len];exact hc.pos)];exact hc.head
  ·rcases Nat.lt_or_ge j gs.size with hlt | hge
   ·rw [List.getElem?_append_left (by rw [hc.len];exact hlt)] at hx
    rw [Array.getElem?_push,if_neg (by simp;omega),Array.getElem?_setIfInBounds_ne (Ne.symm hj)] at hg
    rw [zas _ _ hj,zas _ _ (by omega)]
    exact hc.ok j x gj hj hx hg
   ·have hje:j=gs.size:=by
     have hb:=(List.getElem?_eq_some_iff.1 hx).1
     rw [List.length_append,hc.len] at hb
     simp only [List.length_cons,List.length_nil] at hb
     omega
    subst hje
    rw [List.getElem?_append_right (by rw [hc.len];exact Nat.le_refl _),hc.len,Nat.sub_self] at hx
    simp only [List.getElem?_cons_zero,Option.some.injEq] at hx
    rw [Array.getElem?_push,if_pos (by simp)] at hg
    cases hx;cases hg
    exact⟨rfl,by rw [zas _ _ hj,zao],.refl,hon,hwk⟩
  ·rw [List.filterMap_append]
   exact (List.perm_append_comm.trans (by exact hc.perm.cons k))
  ·refine hcap.imp id fun h=>?_
   simp only [List.length_cons]
   omega
  ·rcases Nat.lt_or_ge j l.length with hlt | hge
   ·rw [List.getElem?_append_left hlt] at hj
    exact hc.noPark hcz _ _ _ _ _ _ hj
   ·rw [List.getElem?_append_right hge] at hj
    have hb:=List.mem_of_getElem? hj
    simp at hb
  ·obtain⟨v,hb,⟨n,k2,own2,A2,W2,h3⟩,h4⟩:=hc.fifo i j hi
   refine⟨v,hb,SentAt.app ⟨⟨n,k2,own2,A2,W2,?_⟩,h4⟩ ?_⟩
   ·rw [List.getElem?_append_left (List.getElem?_eq_some_iff.1 h3).1];exact h3
   ·intro op hop _
    simp only [List.push_toArray,List.nil_append,List.cons_append,List.mem_toArray,List.mem_cons,List.not_mem_nil,or_false] at hop
    rcases hop with rfl | rfl<;>rfl
  ·rcases Nat.lt_or_ge j l.length with hlt | hge
   ·rw [List.getElem?_append_left hlt] at hj
    exact hc.sentIn _ _ _ _ _ _ _ hj
   ·rw [List.getElem?_append_right hge] at hj
    have hb:=List.mem_of_getElem? hj
    simp at hb
 | @recv φ pend own A g W0 hr hon hp z ok h1 h2 ih =>
  intro gs W sl t Z l L buf r he h0 hc
  refine spin hr ?_ hc.acc gs W sl t Z L buf r he h0 hc
  clear he h0 hc
  intro gs W sl t Z l L buf r he h0 hc
  obtain⟨g2,hst⟩:=h1 W he
  have hst' : stepG P (0 == 0) g W=.comm g2 #[rcase φ.c z] true (.recv ok) W #[]:=hst
  have hoff:offersAt g φ.c true=[]:=offersAt_of_not_blocked (by rw [hr];simp) ..
  have hlow:∀ j zz x,Z j=some zz→zz.A x→x≠φ.c:=fun j zz x hz hx=>(hc.zc.low j zz x hz hx).2 hon
  cases L with
  | cons j L' =>
   have hcap:φ.cap≠0:=fun e=>by have:=hc.zero e;cases this
   obtain⟨v,hb,⟨n,k,ownk,Ak,Wk,hx⟩,p,x,hp1,hp2,hp3,hp4⟩:=hc.fifo 0 j rfl
   have hj0:j≠0:=hc.fifo_ne (List.mem_cons_self ..)
   have hlt:j<gs.size:=by rw [← hc.len];exact (List.getElem?_eq_some_iff.1 hx).1
   obtain⟨hq,hz,henv,hpost⟩:=hc.ok j _ _ hj0 hx (Array.getElem?_eq_getElem hlt)
   have hpn:partners (gs.setIfInBounds 0 ph) φ.c true=[]:=partners_nil fun i y hy=>by
    rcases hc.offersT h0 hoff hy with h | ⟨_,_,_,k,own,A,v,W0,h⟩
    ·exact h
    ·exact (hc.noPark hcap _ _ _ _ _ _ h).elim
   have hsz:0<buf.size:=by rw [hc.bsize];exact Nat.succ_pos _
   have hrr:=crowd_recv_buf (P:=P) (sl:=sl) h0 hst' (hc.chan hon) hsz hpn
   rw [show MemOp.ofEvents 0 g.frame.fn g.frame.place #[]=#[] from rfl,Array.empty_append] at hrr
   have hv:buf.getD 0 undef=v:=by rw [Array.getD_eq_getD_getElem?,hb];rfl
   rw [hv] at hrr
   obtain⟨hkp,hperm⟩:=zfm (y:=.gone n) hc.perm hx rfl rfl
   have hA0:Env A W (W.setChan φ.c φ.cap (buf.extract 1 buf.size) false (r+(j :: L').length) (r+1) false):=zaW fun y hy=>hlow 0 _ y hc.z0 hy
   have hAk:Env Ak W (W.setChan φ.c φ.cap (buf.extract 1 buf.size) false (r+(j :: L').length) (r+1) false):=zaW fun y hy=>hlow j _ y hz hy
   refine .inl ⟨_,_,hrr,ih W _ g2 k ownk Ak v Wk he hst hA0 hkp hpost (henv.trans hAk) (fun x hx=>hc.zc.dis j 0 _ _ x hj0 hz hc.z0 hx) _ _ _ _ (setZ (setZ Z j none) 0 (some ⟨fun b=>own b∨ownk b,fun b=>A b∨Ak b⟩)) (l.set j (.gone n)) L' (buf.extract 1 buf.size) (r+1) .refl (zdS h0) ?_⟩
   have m3:∀ (n m:Nat),Mute { g:=0,fn:=g2.frame.fn,pos:=g2.frame.place,act:=.recv φ.c n m }:=fun n _=>⟨rfl,fun m hm=>by cases hm⟩
   have m4:∀ (n:Nat),Mute { g:=0,fn:=g2.frame.fn,pos:=g2.frame.place,act:=.recvDone φ.c n }:=fun n=>⟨rfl,fun m hm=>by cases hm⟩
   have hnt:∀ j' : Nat,∀ op∈(#[{ g:=0,fn:=g2.frame.fn,pos:=g2.frame.place,act:=.recv φ.c r φ.cap },{ g:=0,fn:=g2.frame.fn,pos:=g2.frame.place,act:=.recvDone φ.c r }]:Trace),op.g=j'→op.act.touch?=none:=by
    intro j' op hop _
    simp only [List.mem_toArray,List.mem_cons,List.not_mem_nil,or_false] at hop
    rcases hop with rfl | rfl<;>rfl
   refine⟨?_,zao ..,by simp [hc.len],by simpa using hc.pos,by rw [List.getElem?_set_ne hj0];exact hc.head,fun i y gi hi hy hg=>?_,hperm,?_,zcb hc.noPark (by intros;simp),fun _=>?_,?_,fun i j' hi=>?_,fun i n' k' own' A' v' W' hi=>?_,(List.nodup_cons.1 hc.nodup).2,fun e=>(hcap e).elim⟩
   ·rw [zd1,Array.size_setIfInBounds]
    have hz2:=((hc.zc.mute (m3 r φ.cap) hc.pos).mute (m4 r) hc.pos)
    have hpl:=lt_size_of_getElem? hp1
    refine (hz2.take (p:=p) (q:=t.size+1) (c:=φ.c) (k:=r) hc.z0 hz hj0 hc.pos (x:=x) (y:={ g:=0,fn:=g2.frame.fn,pos:=g2.frame.place,act:=.recvDone φ.c r }) ?_ hp2 hp3 ?_ rfl rfl ?_).world (size_setChan ..)
    ·rw [← zd1,getElem?_append_old hpl];exact hp1
    ·rw [Array.getElem?_push,if_pos (by simp)]
    ·intro i op hi hg hs
     rw [← zd1] at hi
     rcases getElem?_append_cases hi with ⟨_,h⟩ | ⟨_,h⟩
     ·exact hp4 i op h hg hs
     ·rw [hnt _ op h hg] at hs;cases hs
   ·by_cases e:j=i
    ·subst e
     rw [zeS hx] at hy
     rw [Array.getElem?_setIfInBounds_ne (Ne.symm hi),Array.getElem?_eq_getElem hlt] at hg
     cases hy;cases hg
     exact⟨hq,by rw [zas _ _ hi,zao]⟩
    ·rw [List.getElem?_set_ne e] at hy
     rw [Array.getElem?_setIfInBounds_ne (Ne.symm hi)] at hg
     rw [zas _ _ hi,zas _ _ (Ne.symm e)]
     exact (hc.ok i y gi hi hy hg).env fun zz hzz=>zaW fun y hy=>hlow i zz y hzz hy
   ·refine hc.cap.imp id fun h=>?_
    rw [List.length_erase_of_mem hkp];omega
   ·rw [zdi (hc.zc.chan hon)]
    simp only [List.length_cons]
    rw [show r+(L'.length+1)=r+1+L'.length by omega]
   ·have:=hc.bsize
    simp only [List.length_cons] at this
    simp [this]
   ·have hi' : (j :: L')[i+1]?=some j':=hi
    obtain⟨v',hb',hsa⟩:=hc.fifo (i+1) j' hi'
    have hne:j≠j':=by rintro rfl;exact (List.nodup_cons.1 hc.nodup).1 (List.mem_of_getElem? hi)
    refine⟨v',?_,?_⟩
    ·have hlt':=(Array.getElem?_eq_some_iff.1 hb').1
     rw [Array.getElem?_extract,if_pos (by omega)]
     rw [show 1+i=i+1 by omega]
     exact hb'
    ·rw [show r+1+i=r+(i+1) by omega]
     exact (hsa.app (hnt j')).set hne
   ·by_cases e:j=i
    ·subst e;rw [zeS hx] at hi;cases hi
    ·rw [List.getElem?_set_ne e] at hi
     exact (List.mem_cons.1 (hc.sentIn _ _ _ _ _ _ _ hi)).resolve_left (Ne.symm e)
  | nil =>
   have hb0:buf=#[]:=Array.eq_empty_of_size_eq_zero (by rw [hc.bsize];rfl)
   subst hb0
   by_cases hpk:∃ (j k:Nat) (own A:Nat→Prop) (v:Value) (W0:World),l[j]?=some (Ws.parked k own A v W0)
   ·
    have hcap:φ.cap=0:=by
     obtain⟨j,k,own',A',v,W0',h⟩:=hpk
     exact Classical.byContradiction fun e=>hc.noPark e _ _ _ _ _ _ h
    have hall:∀ j k,(j,k)∈partners (gs.setIfInBounds 0 ph) φ.c true→k=0∧j≠0∧(∃ gj vj zj shj,gs[j]?=some (parked gj #[scase φ.c vj zj] shj)):=by
     intro j k hjk
     obtain⟨y,hy,hk⟩:=mem_partners.1 hjk
     rcases hc.offersT h0 hoff hy with h | ⟨hj0,_,hg,k',own',A',v',W',hx⟩
     ·rw [h] at hk;cases hk
     ·obtain⟨_,_,_,_,g3,zz,n,rfl,_⟩:=hc.ok j _ _ hj0 hx hg
      rw [offersAt_parked_send,if_pos rfl] at hk
      exact⟨by simpa using hk,hj0,g3,v',zz,_,hg⟩
    have hne:partners (gs.setIfInBounds 0 ph) φ.c true≠[]:=by
     obtain⟨j,k,own',A',v,W0',h⟩:=hpk
     have hj0:j≠0:=by rintro rfl;rw [hc.head] at h;cases h
     have hlt:j<gs.size:=by rw [← hc.len];exact (List.getElem?_eq_some_iff.1 h).1
     obtain⟨_,_,_,_,g3,zz,n,hg3,_⟩:=hc.ok j _ _ hj0 h (Array.getElem?_eq_getElem hlt)
     have:(j,0)∈partners (gs.setIfInBounds 0 ph) φ.c true:=mem_partners.2 ⟨_,by rw [Array.getElem?_setIfInBounds_ne (Ne.symm hj0)];exact Array.getElem?_eq_getElem hlt,by rw [hg3,offersAt_parked_send,if_pos rfl];simp⟩
     intro e
     rw [e] at this
     cases this
    obtain⟨j,gj,vj,zj,shj,d,hj0,hgj,hrr⟩:=crowd_recv_meets_some (P:=P) (sl:=sl) h0 hst' (hc.chan hon) hne hall
    rw [show MemOp.ofEvents 0 g.frame.fn g.frame.place #[]=#[] from rfl,Array.empty_append] at hrr
    obtain⟨y,hx,hok⟩:=hc.ws hj0 hgj
    have hblk:(parked gj #[scase φ.c vj zj] shj).status=.blocked:=rfl
    cases y with
    | live k own A g0 W0=>rw [hok.1,hok.2.2.2.2.running] at hblk;cases hblk
    | sent n =>
     exfalso
     have:=hok.1
     cases n with
     | zero=>cases this
     | succ n=>rcases this with h | h
               ·cases h
               ·cases h.1
    | gone n =>
     exfalso
     have:=hok.1
     cases n with
     | zero=>cases this
     | succ n=>rcases this with h | h
               ·cases h
               ·cases h.1
    | parked k ownk Ak v Wk =>
     obtain⟨hz,henv,hpost,_,g3,zz,n,hg3,hq⟩:=hok
     have ho:=congrArg Goroutine.offers hg3
     simp only [parked,Option.some.injEq,Prod.mk.injEq] at ho
     obtain⟨ho1,rfl⟩:=ho
     have hv:v=vj:=by
      have:=congrArg (fun a:Array CommCase=>(a[0]?).bind (·.send)) ho1
      simpa [scase] using this.symm
     subst hv
     have hqq:QuitsIn P n (gj.finishComm P #[scase φ.c v zj] .send 0 undef false):=by
      rw [← finishComm_parked P gj #[scase φ.c v zj] #[scase φ.c v zj] .send .send,hg3,ho1,finishComm_parked]
      exact hq
     obtain⟨hkp,hperm⟩:=zfm (y:=.gone n) hc.perm hx rfl rfl
     have hA0:Env A W ((W.at d).setChan φ.c φ.cap #[] false (r+([]:List Nat).length+1) (r+1) false):=(zfz W d).trans (zaW fun y hy=>hlow 0 _ y hc.z0 hy)
     have hAk:Env Ak W ((W.at d).setChan φ.c φ.cap #[] false (r+([]:List Nat).length+1) (r+1) false):=(zfz W d).trans (zaW fun y hy=>hlow j _ y hz hy)
     have hlt:j<gs.size:=(Array.getElem?_eq_some_iff.1 hgj).1
     refine .inl ⟨_,_,hrr,ih W _ g2 k ownk Ak v Wk he hst hA0 hkp hpost (henv.trans hAk) (fun x hx=>hc.zc.dis j 0 _ _ x hj0 hz hc.z0 hx) _ _ _ _ (setZ (setZ Z j none) 0 (some ⟨fun b=>own b∨ownk b,fun b=>A b∨Ak b⟩)) (l.set j (.gone n)) [] #[] (r+1) .refl (Array.getElem?_setIfInBounds_self_of_lt (by simpa using hc.pos)) ?_⟩
     have m1:∀ (i:Nat) (f:FuncId) (p:String) (n:Nat),Mute { g:=i,fn:=f,pos:=p,act:=.send φ.c n }:=fun _ _ _ n=>⟨rfl,fun m hm=>by cases hm⟩
     have m2:∀ (i:Nat) (f:FuncId) (p:String) (n:Nat),Mute { g:=i,fn:=f,pos:=p,act:=.sendDone φ.c n }:=fun _ _ _ n=>⟨rfl,fun m hm=>by cases hm⟩
     have m3:∀ (i:Nat) (f:FuncId) (p:String) (n m:Nat),Mute { g:=i,fn:=f,pos:=p,act:=.recv φ.c n m }:=fun _ _ _ n _=>⟨rfl,fun m hm=>by cases hm⟩
     have m4:∀ (i:Nat) (f:FuncId) (p:String) (n:Nat),Mute { g:=i,fn:=f,pos:=p,act:=.recvDone φ.c n }:=fun _ _ _ n=>⟨rfl,fun m hm=>by cases hm⟩
     refine⟨?_,zao ..,by simp [hc.len],by simpa using hc.pos,by rw [List.getElem?_set_ne hj0];exact hc.head,fun i y gi hi hy hg=>?_,hperm,?_,zcb hc.noPark (by intros;simp),fun _=>?_,rfl,fun i j' hi=>(by cases hi),zcB hc.sentIn (.inl (by intros;simp)),List.nodup_nil,fun _=>rfl⟩
     ·rw [zc3,Array.size_setIfInBounds,Array.size_setIfInBounds]
      have hz4:=((((hc.zc.mute (m1 j gj.frame.fn gj.frame.place (r+0)) hlt).mute (m3 0 g2.frame.fn g2.frame.place r φ.cap) hc.pos).mute (m2 j gj.frame.fn gj.frame.place (r+0)) hlt).mute (m4 0 g2.frame.fn g2.frame.place r) hc.pos)
      refine ((hz4.take (p:=t.size) (q:=t.size+3) hc.z0 hz hj0 hc.pos (x:={ g:=j,fn:=gj.frame.fn,pos:=gj.frame.place,act:=.send φ.c (r+0) }) (y:={ g:=0,fn:=g2.frame.fn,pos:=g2.frame.place,act:=.recvDone φ.c r }) (c:=φ.c) (k:=r) ?_ rfl rfl ?_ rfl rfl ?_).world (size_setChan (W.at d) ..))
      ·exact zpy ..
      ·exact zpz ..
      ·intro i op hi hg hs
       rw [← zc3] at hi
       rcases getElem?_append_cases hi with ⟨h1,_⟩ | ⟨_,h1⟩
       ·exact h1
       ·simp only [List.mem_toArray,List.mem_cons,List.not_mem_nil,or_false] at h1
        rcases h1 with rfl | rfl | rfl | rfl<;>cases hs
     ·rw [Array.getElem?_setIfInBounds_ne (Ne.symm hi)] at hg
      by_cases e:j=i
      ·subst e
       rw [zeS hx] at hy
       rw [zdS hgj] at hg
       cases hy;cases hg
       exact⟨hqq,by rw [zas _ _ hi,zao]⟩
      ·rw [List.getElem?_set_ne e] at hy
       rw [Array.getElem?_setIfInBounds_ne e] at hg
       rw [zas _ _ hi,zas _ _ (Ne.symm e)]
       exact (hc.ok i y gi hi hy hg).env fun zz hzz=>(zfz W d).trans (zaW fun y hy=>hlow i zz y hzz hy)
     ·refine hc.cap.imp id fun h=>?_
      rw [List.length_erase_of_mem hkp];omega
     ·rw [zdi (W:=W.at d) (hc.zc.chan hon)];rfl
   ·
    have hnp:∀ (j k:Nat) (own A:Nat→Prop) (v:Value) (W0:World),l[j]?≠some (Ws.parked k own A v W0):=fun j k own A v W0 h=>hpk ⟨j,k,own,A,v,W0,h⟩
    have hpn:partners (gs.setIfInBounds 0 ph) φ.c true=[]:=partners_nil fun i y hy=>by
     rcases hc.offersT h0 hoff hy with h | ⟨_,_,_,k,own,A,v,W0,h⟩
     ·exact h
     ·exact (hnp _ _ _ _ _ _ h).elim
    have hrr:=crowd_waits (P:=P) (sl:=sl) h0 hst' (fun cc hcc=>by
     rw [Array.mem_singleton.1 hcc]
     exact ways_recv_none (hc.chan hon) hpn)
    rw [show MemOp.ofEvents 0 g.frame.fn g.frame.place #[]=#[] from rfl] at hrr
    refine .inl ⟨_,_,hrr,?_⟩
    rw [Array.append_empty]
    refine zro (Wp:=W) hon hp ?_ hc.acc _ _ _ _ Z #[] r .refl (zdS h0) hnp ⟨by rw [Array.size_setIfInBounds];exact hc.zc,hc.z0,by simp [hc.len],by simpa using hc.pos,hc.head,fun j x gj hj hx hg=>?_,hc.perm,hc.cap,hc.noPark,hc.chan,hc.bsize,hc.fifo,hc.sentIn,hc.nodup,hc.zero⟩
    ·intro gs' W' sl' t' Z' l' k ownk Ak v Wk he' hkp hpost hek hds h0' ⟨r',hc'⟩
     exact ih W W' g2 k ownk Ak v Wk he hst he' hkp hpost hek hds gs' W' sl' t' Z' l' [] #[] r' .refl h0' hc'
    ·rw [Array.getElem?_setIfInBounds_ne (Ne.symm hj)] at hg
     exact hc.ok j x gj hj hx hg
theorem zgv {fr:Frame} {W:World} (hM:Mn P (AtEnd P Post) ⟨false,0,0,fun _ _ _ _ _=>False⟩ [] own A (G fr []) W) (hsub:∀ b,own b→A b) (hlow:∀ b,A b→b<W.heap.size):Fin P Post (solo (G fr []) W) #[]:=by
 rw [solo_eq_crowd]
 refine zlS hM #[G fr []] W none #[] (fun j=>if j=0 then some ⟨own,A⟩ else none) [.gone 0] [] #[] 0 .refl rfl ⟨⟨fun j hj=>?_,fun j z b hz hb=>?_,fun j z b hz hb=>?_,fun i j zi zj b hij hzi hzj=>?_,⟨fun said=>?_,fun op hop=>?_,fun i x g z hx=>?_,fun i op x z hi=>?_,fun i op x hi=>?_⟩,fun i x b hi=>?_,fun i op hi=>?_,(fun h=>by cases h)⟩,rfl,rfl,by simp,rfl,fun j x g hj hx=>?_,List.Perm.refl _,.inl rfl,fun _ j k own A v W0 hj=>?_,(fun h=>by cases h),rfl,(fun i j hi=>by cases hi),fun j n k own A v W0 hj=>?_,List.nodup_nil,fun _=>rfl⟩
 ·have:j≠0:=by rintro rfl;simp at hj
  simp [this]
 ·by_cases e:j=0
  ·subst e;simp only [if_true,Option.some.injEq] at hz;subst hz;exact hsub b hb
  ·simp [e] at hz
 ·by_cases e:j=0
  ·subst e;simp only [if_true,Option.some.injEq] at hz;subst hz;exact⟨hlow b hb,fun h=>by cases h⟩
  ·simp [e] at hz
 ·by_cases e:i=0
  ·by_cases e2:j=0
   ·exact (hij (e.trans e2.symm)).elim
   ·simp [e2] at hzj
  ·simp [e] at hzi
 ·rintro ⟨i,j,_,⟨a,b,ha,_⟩,_⟩
  simp [Trace.act?] at ha
 ·simp at hop
 ·simp [touchAt,Trace.act?] at hx
 ·simp at hi
 ·simp at hi
 ·simp [touchAt,Trace.act?] at hi
 ·simp at hi
 ·cases j with
  | zero=>exact (hj rfl).elim
  | succ j=>cases hx
 ·cases j with
  | zero=>cases hj
  | succ j=>cases hj
 ·cases j with
  | zero=>cases hj
  | succ j=>cases hj
end
end Go.Con
